import Derived.Test.YtfdbcnbakchcgaaSr
import Derived.Test.YtfdbcnbakchcgaaRw
import Derived.Test.YtfdbcnbakchcgaaRu
namespace Go.Proofs.Ytfdbcnbakchcgaa.XR
open Go.RowKit Go.Proofs.YtfdbcnbakchcgaaW.PrintWords Go.Proofs.YtfdbcnbakchcgaaW.PrintLast Go.Proofs.YtfdbcnbakchcgaaW.PrintMore
attribute [local go_sem] max2_int min2_int max_two min_two max_three min_three max_four min_four   -- for this text's walks alone
set_option linter.unusedVariables false
set_option linter.unusedSimpArgs false
theorem eqA44 (d : Nat) (w : World) (x y : S44) : (Op.equalIn (d + 3) 44 (.agg #[.int .i64 x.f0.f0, .int .u64 x.f0.f1, .int .u64 x.f0.f2, .int .i64 x.f1, .int .i64 x.f2]) (.agg #[.int .i64 y.f0.f0, .int .u64 y.f0.f1, .int .u64 y.f0.f2, .int .i64 y.f1, .int .i64 y.f2])).run Try.prog w = .ok ((x.f0.f0 == y.f0.f0 && (x.f0.f1 == y.f0.f1 && (x.f0.f2 == y.f0.f2))) && (x.f1 == y.f1 && (x.f2 == y.f2))) w := by
 refine eqA_of Try.underlying44 (by kernel_rfl) ?_
 refine eqf_cons (by rfl) (by first | (go_simp; done) | (go_simp; rfl)) (by first | (go_simp; done) | (go_simp; rfl)) (eqA32 d w _ _ _ _ _ _) ?_
 refine eqf_cons (by rfl) (by first | (go_simp; done) | (go_simp; rfl)) (by first | (go_simp; done) | (go_simp; rfl)) (by go_simp) ?_
 exact eqf_last (by rfl) (by first | (go_simp; done) | (go_simp; rfl)) (by first | (go_simp; done) | (go_simp; rfl)) (by go_simp)
theorem neq44 (w : World) (a b c d e : Int) : (binOp .neq 44 (.agg #[.int .i64 a, .int .u64 b, .int .u64 c, .int .i64 d, .int .i64 e]) (.agg #[.int .i64 a, .int .u64 b, .int .u64 c, .int .i64 d, .int .i64 e])).run Try.prog w = .ok (.bool false) w := by
 have h0 := eqA44 9997 w ⟨⟨a, b, c⟩, d, e⟩ ⟨⟨a, b, c⟩, d, e⟩
 simp only [binOp]
 simp only [Op.equal, Op.maxDepth]
 dsimp only at h0
 simp [h0]
theorem rd44_ (l : List S44) (j : Nat) (h : j < l.length) : rd_T44 l (j : Int) = l[j] := by simp [rd_T44, List.getD_eq_getElem?_getD, h]
/-- What was listed stays while the trie is written. -/
theorem R44_kept {w0 w w1 : World} {base g : Nat} {M : NM} {W m N : Int} {v : Value} {xs : List S44} (h : Kd.R k44 44 w base (fun k => some k = v.ownBlock) v xs) (hk : KT w0 w g M W m N) (hp : Kept w w1 (SKm g M)) : Kd.R k44 44 w1 base (fun k => some k = v.ownBlock) v xs :=
 Kd.R_kept h hp (fun k e1 e2 => by
  obtain ⟨cur, hc⟩ := R_blk h k e1
  rcases e2 with e2 | ⟨i, c, ⟨b, h1, n⟩, hm, rfl⟩
  ·subst e2; exact blk_ne hc hk.blk (by decide) rfl
  ·exact blk_ne hc (hk.nt.cell i c b h1 n hm) (by decide) rfl)
theorem delT_snoc {l : List TI} {x : TI} (h : l.any (fun y => sameP y x) = false) : delT x (l ++ [x]) = l := by
 unfold delT
 rw [List.filter_append]
 have h1 : l.filter (fun y => !sameP y x) = l := List.filter_eq_self.2 (fun y hy => by
  rw [List.any_eq_false] at h
  have := h y hy
  simp only [Bool.not_eq_true] at this
  rw [this]; rfl)
 have h2 : [x].filter (fun y => !sameP y x) = [] := by simp [sameP]
 rw [h1, h2, List.append_nil]
theorem nodeAt_snoc_some {l : List TI} {x : TI} (h : l.any (fun y => sameP y x) = false) (a b : Nat) (e : ¬ nodeAt l a b = none) : ¬ nodeAt (l ++ [x]) a b = none := by
 rw [nodeAt_snoc l x h]
 split
 ·simp
 ·split
  ·simp
  ·exact e
theorem fit_snoc {W : Nat} {l : List TI} {X j : Nat} {n : Int} (hf : fitT W l) (hj : j ≤ W) (hX : X < 2 ^ W) : fitT W (l ++ [⟨j, preN W X j, n⟩]) := by
 intro y hy
 rcases List.mem_append.1 hy with hy | hy
 ·exact hf y hy
 ·obtain rfl := List.mem_singleton.1 hy
  refine ⟨hj, ?_⟩
  simp only
  unfold preN
  rw [Nat.div_lt_iff_lt_mul (Nat.two_pow_pos _), ← Nat.pow_add, Nat.add_sub_cancel' hj]
  exact hX
theorem putE_zero {c m N : Int} {l : List TI} {x : TI} (h : putEt c m N l x = 0) : c = 0 ∧ l.any (fun y => sameP y x) = false := by
 unfold putEt at h
 by_cases e : c = 0
 ·rw [if_neg (by simpa using e)] at h
  cases ha : l.any (fun y => sameP y x) with
  | true => rw [ha, if_pos rfl] at h; cases h
  | false => exact ⟨e, rfl⟩
 ·rw [if_pos e] at h; exact absurd h e
theorem setE_back {l : List TI} {x : TI} : setEt 0 (l ++ [x]) x = 0 := by
 unfold setEt
 rw [if_neg (by simp), if_pos]
 rw [List.any_append]
 simp [sameP]
set_option maxHeartbeats 1000000 in
set_option maxRecDepth 100000 in
theorem TrieBack_many (A : Option Addr) (c : Nat) (ops : List S34) (kd lg nn k0 k1 k2 : Int) (w : World) (hl : 200 < ops.length) :
 Calls Try.prog 6 #[.slice A ops.length c, .agg #[.int .i64 kd, .int .i64 lg, .int .i64 nn, .int .i64 k0, .int .u64 k1, .int .u64 k2]] w fun e_ w' => e_ = .returned (.bool true) ∧ Below w.heap.size w w' := by
 have g5 : decide ((200 : Int) < (ops.length : Int)) = true := decide_eq_true (by omega)
 clear hl
 go_enter Try.func6, Try.ntmps6
 go_wp2_with (first | (go_at_call 17; with_reducible refine (tlives_calls _).mono ?_; rintro e_ w1 ⟨rfl, hb⟩; have HZ := Aside0.mk (below_step (below_alloc (Below.refl _ _) (.cells #[.int .i64 kd, .int .i64 lg, .int .i64 nn, .int .i64 k0, .int .u64 k1, .int .u64 k2] 34 (0, 0))) hb); clear hb))
 go_ret
 exact ⟨rfl, HZ.out⟩
set_option maxHeartbeats 1000000 in
set_option maxRecDepth 100000 in
theorem TrieBack_plays (A : Option Addr) (c : Nat) (ops : List S34) (kd lg nn k0 k1 k2 : Int) (w : World) (hl : ops.length ≤ 200) (hC : Kd.C k34 w A ops.length ops) (hok : ∀ y ∈ ops, okV y.f3) (hoV : okV ⟨k0, k1, k2⟩) :
 Calls Try.prog 6 #[.slice A ops.length c, .agg #[.int .i64 kd, .int .i64 lg, .int .i64 nn, .int .i64 k0, .int .u64 k1, .int .u64 k2]] w fun e_ w' => e_ = .returned (.bool true) ∧ Below w.heap.size w w' := by
 have HN := Aside0.mk (fun w => tNew_kt 16 256 w (by decide) (by decide) (by decide) (by decide))
 have HRUN := Aside0.mk (runQ_ok 16 256 [] (SIt_nil 16 256 (by decide)) ops hok)
 have g5 : decide ((200 : Int) < (ops.length : Int)) = false := decide_eq_false (by omega)
 obtain ⟨wb, hwb⟩ : ∃ wb, wb = w.alloc (.cells #[.int .i64 kd, .int .i64 lg, .int .i64 nn, .int .i64 k0, .int .u64 k1, .int .u64 k2] 34 (0, 0)) := ⟨_, rfl⟩
 have HC := Aside0.mk (show Kd.C k34 wb A ops.length ops from by rw [hwb]; exact Kd.C_below hC (below_alloc (Below.refl _ _) _))
 have HBX := Aside0.mk (show wb.heap[w.heap.size]? = some (.cells #[.int .i64 kd, .int .i64 lg, .int .i64 nn, .int .i64 k0, .int .u64 k1, .int .u64 k2] 34 (0, 0)) from by rw [hwb]; exact blk_new w _)
 have HWB := Aside0.mk (show Below w.heap.size w wb from by rw [hwb]; exact below_alloc (Below.refl _ _) _)
 have hgs : wb.heap.size = w.heap.size + 1 := by rw [hwb]; simp
 have HLN := Aside0.mk hl
 have HOKS := Aside0.mk hok
 have HOV := Aside0.mk hoV
 clear hl hC hok hoV
 go_enter Try.func6, Try.ntmps6
 go_wp2_with (first | (go_at_call 16; with_reducible refine (HN.out _).mono ?_; rintro e_ w2 ⟨rfl, hk⟩; rw [← hwb] at hk; rw [hgs] at hk; have HK := Aside0.mk hk; clear hk))
 have HNB := Aside0.mk (blk_new w2 (.cells #[.int .i64 16, .int .i64 256] 22 (0, 0)))
 have HS0 := Aside0.mk (show STt wb (w2.alloc (.cells #[.int .i64 16, .int .i64 256] 22 (0, 0))) (w.heap.size + 1 + 1) (newM (w.heap.size + 1)) (.slice none 0 0) (runQ 16 256 [] (ops.take 0)) (runQ 16 256 [] (ops.take 0)) 16 256 from by rw [show runQ 16 256 [] (ops.take 0) = [] from by rw [List.take_zero]; rfl]; exact STt.step (STt_new (W := 16) HK.out) (below_alloc (Below.refl _ _) _))
 generalize w2.alloc (.cells #[.int .i64 16, .int .i64 256] 22 (0, 0)) = w3_ at HNB HS0 ⊢
 generalize w2.heap.size = gn at HNB ⊢
 clear HK
 go_loopw [6, 8] (fun u6 u8 w' => ∃ (i : Nat) (M : NM), i ≤ ops.length ∧ u8 = .int .i64 i ∧ Aside0 (STt wb w' (w.heap.size + 1 + 1) M u6 (runQ 16 256 [] (ops.take i)) (runQ 16 256 [] (ops.take i)) 16 256) ∧ Aside0 (w'.heap[gn]? = some (.cells #[.int .i64 16, .int .i64 256] 22 (0, 0)))) (fun _ u8 _ => ops.length - (intOf u8).toNat)
 case atStart => exact ⟨0, _, Nat.zero_le _, rfl, HS0, HNB⟩
 case round =>
  obtain ⟨i, M, hi, rfl, HT, HNB1⟩ := hrel
  clear HS0 HNB
  by_cases hlt : i < ops.length
  ·have hl100 := HLN.out
   have hi0 : 0 ≤ (i : Int) := by omega
   have hil : (i : Int) < (ops.length : Int) := by omega
   obtain ⟨ad, hA, _⟩ := at_T34 HC.out (i : Int) hi0 hil
   subst hA
   have hy : rd_T34 ops (i : Int) = ops[i] := by simp [rd_T34, List.getD_eq_getElem?_getD, hlt]
   have HR1 := Aside0.mk (HRUN.out i hi)
   have HR2 := Aside0.mk (HRUN.out i hi)
   have HRS := Aside0.mk (runQ_take 16 256 [] ops i hlt)
   obtain ⟨y, hyy⟩ : ∃ y, y = ops[i] := ⟨_, rfl⟩
   rw [← hyy] at hy HRS
   have HOK := Aside0.mk (show okV y.f3 from by rw [hyy]; exact HOKS.out _ (List.getElem_mem hlt))
   have HCY := Aside0.mk (show ∀ w', Below wb.heap.size wb w' → w'.cell? (ad.add (i * 6)) = some (.int .i64 y.f0) ∧ w'.cell? ⟨(ad.add (i * 6)).block, (ad.add (i * 6)).off + 1, none⟩ = some (.int .i64 y.f1) ∧ w'.cell? ⟨(ad.add (i * 6)).block, (ad.add (i * 6)).off + 2, none⟩ = some (.int .i64 y.f2) ∧ w'.cell? ⟨(ad.add (i * 6)).block, (ad.add (i * 6)).off + 3, none⟩ = some (.int .i64 y.f3.f0) ∧ w'.cell? ⟨(ad.add (i * 6)).block, (ad.add (i * 6)).off + 4, none⟩ = some (.int .u64 y.f3.f1) ∧ w'.cell? ⟨(ad.add (i * 6)).block, (ad.add (i * 6)).off + 5, none⟩ = some (.int .u64 y.f3.f2) from fun w' hb => by
    obtain ⟨ad2, e2, h2⟩ := at_T34 (Kd.C_below HC.out hb) (i : Int) hi0 hil
    injection e2 with e2
    subst e2
    rw [Int.toNat_natCast, hy] at h2
    exact h2)
   clear hyy hy
   have HST7 := Aside0.mk (fun w5 (ht : STt wb w5 (w.heap.size + 1 + 1) M u6 (runQ 16 256 [] (ops.take i)) (runQ 16 256 [] (ops.take i)) 16 256) => (show Calls Try.prog 18 #[.pointer (some ⟨(w.heap.size + 1 + 1), 0, none⟩), u6, .agg #[.int .i64 16, .int .i64 256], .agg #[.int .i64 y.f0, .int .i64 y.f1, .int .i64 y.f2, .int .i64 y.f3.f0, .int .u64 y.f3.f1, .int .u64 y.f3.f2]] w5 (fun e_ w' => ∃ M1 vx1 bb, e_ = .returned (.tuple #[vx1, .bool bb]) ∧ STt wb w' (w.heap.size + 1 + 1) M1 vx1 (stepQ 16 256 (runQ 16 256 [] (ops.take i)) y.f0 ⟨y.f3, y.f1, y.f2⟩) (stepQ 16 256 (runQ 16 256 [] (ops.take i)) y.f0 ⟨y.f3, y.f1, y.f2⟩) 16 256 ∧ Kept w5 w' (SKt (w.heap.size + 1 + 1) M u6)) from by
    refine (tstep_two wb w5 (w.heap.size + 1 + 1) M u6 (runQ 16 256 [] (ops.take i)) (runQ 16 256 [] (ops.take i)) 16 256 y.f0 y.f1 y.f2 y.f3 ht HR1.out HR2.out (by decide) (by decide) (by decide) HOK.out).mono ?_
    rintro e_ w' ⟨M1, vx1, bb, rfl, _, ht, hk⟩
    exact ⟨M1, vx1, bb, rfl, ht, hk⟩))
   go_wp2
   refine start_ (n := 12) (S := fun w' => Below wb.heap.size wb w' ∧ w'.heap[gn]? = some (.cells #[.int .i64 16, .int .i64 256] 22 (0, 0))) (ds := []) #[false, false, false, false, false, false, false, false, false, false, false, false] (by kernel_rfl) rfl rfl ⟨below_drew1 HT.out.kt.below, blk_drew HNB1.out⟩ (fun hHeld => ?_)
   have HT2 := Aside0.mk (HT.out.step (below_drew1 (Below.refl _ _)))
   have HNB2 := Aside0.mk (blk_drew HNB1.out)
   clear HT HNB1
   generalize World.drew _ = w5_ at HT2 HNB2 hHeld ⊢
   refine pl_ [0, 1, 3, 4, 5] ?_
   iterate 5 refine pP rfl rfl (by kernel_rfl) (fun _ _ _ h => h) (by rfl) (by intro w'; go_simp; with_reducible rfl) (by simp only [Act.put, z1, z2, z3, i64_w, i32_w]; rfl) ?_
   refine pl0 ?_
   refine take_ (i := 2) (N := some 30) (v := ?_) (a' := ?_) #[true, true, true, true, true, true, false, false, false, false, false, false] rfl rfl (by kernel_rfl) (fun _ _ _ h => h) (Or.inl ⟨by rfl, ?_⟩) hHeld ?_ ?_
   rotate_left
   ·intro w' hs
    have m0 := blk_cell hs.2 0
    have m1 := blk_cell hs.2 1
    simp only [List.getElem?_toArray, List.getElem?_cons_succ, List.getElem?_cons_zero] at m0 m1
    go_simp
    with_reducible rfl
   rotate_left
   ·simp only [Act.put, List.setIfInBounds_toArray, List.set_cons_zero, List.set_cons_succ, i64_w, i32_w]
    rfl
   refine take_ (i := 6) (N := some 34) (v := ?_) (a' := ?_) #[true, true, true, true, true, true, true, false, false, false, false, false] rfl rfl (by kernel_rfl) (fun _ _ _ h => h) (Or.inl ⟨by rfl, ?_⟩) hHeld ?_ ?_
   rotate_left
   ·intro w' hs
    obtain ⟨s0, s1, s2, s3, s4, s5⟩ := HCY.out w' hs.1
    go_simp
    with_reducible rfl
   rotate_left
   ·simp only [Act.put, List.setIfInBounds_toArray, List.set_cons_zero, List.set_cons_succ, i64_w, i32_w]
    rfl
   refine one_ (i := 7) (N := some 35) #[true, true, true, true, true, true, true, true, false, false, false, false] rfl rfl (by kernel_rfl) (by decide) (fun K hK => ?_)
   refine goes_ Try.func18 (by kernel_rfl) rfl #[.pointer (some ⟨(w.heap.size + 1 + 1), 0, none⟩), u6, .agg #[.int .i64 16, .int .i64 256], .agg #[.int .i64 y.f0, .int .i64 y.f1, .int .i64 y.f2, .int .i64 y.f3.f0, .int .u64 y.f3.f1, .int .u64 y.f3.f2]] (by rfl) rfl rfl (by simp only [List.map_toArray, List.map_cons, List.map_nil]; first | rfl | (go_simp; done)) ?_
   with_reducible refine ((HST7.out _ HT2.out)).mono ?_
   rintro e_ w1 ⟨M1, vx1, bb, rfl, hst, hkp⟩
   refine ⟨_, rfl, ?_⟩
   have HNB := Aside0.mk (HT2.out.keep hkp HNB2.out (by decide) (by decide) (by decide))
   clear hkp
   rw [show stepQ 16 256 (runQ 16 256 [] (ops.take i)) y.f0 ⟨y.f3, y.f1, y.f2⟩ = runQ 16 256 [] (ops.take (i + 1)) from HRS.out.symm] at hst
   obtain ⟨Ax, cx, rfl⟩ := Kd.R_slice hst.rx
   have HT := Aside0.mk hst
   clear hst HT2 HNB2
   refine hK.out _ _ ⟨HT.out.kt.below, HNB.out⟩ (fun hHeld => ?_)
   clear hK K
   refine norm_ (a' := ?_) ?_ ?_
   rotate_left
   ·show Act.put _ (some 35) _ = _
    simp only [Act.put, List.setIfInBounds_toArray, List.set_cons_zero, List.set_cons_succ, i64_w, i32_w]
    rfl
   refine pl_ [8, 9, 10, 11] ?_
   iterate 4 refine pP rfl rfl (by kernel_rfl) (fun _ _ _ h => h) (by rfl) (by intro w'; go_simp; with_reducible rfl) (by simp only [Act.put, z1, z2, z3, i64_w, i32_w]; rfl) ?_
   refine pl0 ?_
   refine done_ (by kernel_rfl) ?_
   go_wp2
   go_roundw
   case measure => first | (simp [intOf]; done) | (simp [intOf]; omega)
   case rel => exact ⟨i + 1, M1, hlt, by go_num, HT, HNB⟩
  ·have hie : i = ops.length := by omega
   have HR1 := HRUN.out i hi
   obtain ⟨p, hp⟩ : ∃ p, p = runQ 16 256 [] (ops.take i) := ⟨_, rfl⟩
   rw [← hp] at HT HR1
   clear hp
   obtain ⟨Ax, cx, rfl⟩ := Kd.R_slice HT.out.rx
   obtain ⟨l, hll⟩ : ∃ l, l = p.map (toTI 16) := ⟨_, rfl⟩
   have had : apartT l := by rw [hll]; exact HR1.apart
   have hf : fitT 16 l := by rw [hll]; exact toTI_fit HR1.ok
   have hpl : p.length ≤ 256 := by have := HR1.le; omega
   have hlp : l.length = p.length := by rw [hll, List.length_map]
   have HPL := Aside0.mk hpl
   have HSH := Aside0.mk (show SH M l from by rw [hll]; exact HT.out.sh)
   obtain ⟨q, hq⟩ : ∃ q, q = walkT l (16 + 1) 0 0 := ⟨_, rfl⟩
   have hql : q.length = p.length := by rw [hq, walk_length had hf, hlp]
   obtain ⟨X, hX⟩ : ∃ X, X = vV ⟨k0, k1, k2⟩ := ⟨_, rfl⟩
   have hX2 : X < 2 ^ 128 := by rw [hX]; exact vV_lt HOV.out
   have eh : hiW X = k1 := by rw [hX, vV_hi HOV.out]
   have el : loW X = k2 := by rw [hX, vV_lo HOV.out]
   clear hX
   obtain ⟨x, hx⟩ : ∃ x, x = (⟨lg.toNat, preN 16 X lg.toNat, nn⟩ : TI) := ⟨_, rfl⟩
   have HLI := Aside0.mk (fun w1 M (h : KT wb w1 (w.heap.size + 1 + 1) M 16 256 (p.length : Int)) (hs : SH M l) => (show Calls Try.prog 22 #[.pointer (some ⟨(w.heap.size + 1 + 1), 0, none⟩)] w1 (fun e w' => ∃ v, e = .returned v ∧ Kd.R k44 44 w' w1.heap.size (fun k => some k = v.ownBlock) v (q.map (outT 16)) ∧ Below w1.heap.size w1 w') from by have := List_calls wb w1 (w.heap.size + 1 + 1) M 16 256 (p.length : Int) l hf (by decide) (by decide) hs h (by rw [← hq]; omega); rw [← hq] at this; exact this))
   obtain ⟨na, hna⟩ : ∃ n : Nat, n = countT l (16 + 1) 0 0 := ⟨_, rfl⟩
   have HND := Aside0.mk (fun w1 M (N : Int) (h : KT wb w1 (w.heap.size + 1 + 1) M 16 256 N) (hs : SH M l) => (show Calls Try.prog 24 #[.pointer (some ⟨(w.heap.size + 1 + 1), 0, none⟩)] w1 (fun e w' => e = .returned (.int .i64 (na : Int)) ∧ Below w1.heap.size w1 w') from by rw [hna]; exact tNodes_calls wb w1 (w.heap.size + 1 + 1) M 16 256 N l h hs hf (by omega) (by decide)))
   have HT0 := Aside0.mk HT.out.kt
   clear HT HC
   have HHX := Aside0.mk (fun w1 (hb : Below wb.heap.size wb w1) => blk_below HBX.out hb)
   obtain ⟨e, he⟩ : ∃ e, e = putEt (mayP 16 k0 X lg) 256 (p.length : Int) l (⟨lg.toNat, preN 16 X lg.toNat, nn⟩ : TI) := ⟨_, rfl⟩
   have HPU := Aside0.mk (fun w1 (h : KT wb w1 (w.heap.size + 1 + 1) M 16 256 (p.length : Int)) => (show Calls Try.prog 28 #[.pointer (some ⟨(w.heap.size + 1 + 1), 0, none⟩), .agg #[.int .i64 k0, .int .u64 k1, .int .u64 k2], .int .i64 lg, .int .i64 nn] w1 (fun e_ w' => e_ = .returned (.int .i64 e) ∧ ∃ M', KT wb w' (w.heap.size + 1 + 1) M' 16 256 (if e = 0 then (p.length : Int) + 1 else (p.length : Int)) ∧ SH M' (if e = 0 then l ++ [x] else l) ∧ Kept w1 w' (SKm (w.heap.size + 1 + 1) M)) from by
    have := tPut_calls wb w1 (w.heap.size + 1 + 1) M l 16 X k0 256 (p.length : Int) lg nn h HSH.out (by decide) (by decide) hX2 (by omega)
    rw [← he, eh, el, ← hx] at this
    exact this))
   by_cases h0 : e = 0
   ·subst h0
    obtain ⟨hm0, ha0⟩ := putE_zero he.symm
    obtain ⟨hk0, hXW, j, hlj, hj, _⟩ := mayP_zero hm0
    have htj : lg.toNat = j := by omega
    have hfx : fitT 16 (l ++ [x]) := by rw [hx, htj]; exact fit_snoc hf hj hXW
    have hax : l.any (fun y => sameP y x) = false := by rw [hx]; exact ha0
    obtain ⟨nb, hnb⟩ : ∃ n : Nat, n = countT (l ++ [x]) (16 + 1) 0 0 := ⟨_, rfl⟩
    have hle : na ≤ nb := by rw [hna, hnb]; exact count_mono (fun a b => nodeAt_snoc_some hax a b) _ _ _
    have HNE := Aside0.mk (fun w1 M (h : KT wb w1 (w.heap.size + 1 + 1) M 16 256 ((p.length : Int) + 1)) (hs : SH M (l ++ [x])) => (show Calls Try.prog 24 #[.pointer (some ⟨(w.heap.size + 1 + 1), 0, none⟩)] w1 (fun e w' => e = .returned (.int .i64 (nb : Int)) ∧ Below w1.heap.size w1 w') from by rw [hnb]; exact tNodes_calls wb w1 (w.heap.size + 1 + 1) M 16 256 _ (l ++ [x]) h hs hfx (by rw [List.length_append, List.length_singleton]; omega) (by decide)))
    have HDR := Aside0.mk (fun w1 M (h : KT wb w1 (w.heap.size + 1 + 1) M 16 256 ((p.length : Int) + 1)) (hs : SH M (l ++ [x])) => (show Calls Try.prog 29 #[.pointer (some ⟨(w.heap.size + 1 + 1), 0, none⟩), .agg #[.int .i64 k0, .int .u64 k1, .int .u64 k2], .int .i64 lg] w1 (fun e_ w' => e_ = .returned (.int .i64 0) ∧ ∃ M', KT wb w' (w.heap.size + 1 + 1) M' 16 256 (p.length : Int) ∧ SH M' l ∧ Kept w1 w' (SKm (w.heap.size + 1 + 1) M)) from by
     have := tDrop_calls wb w1 (w.heap.size + 1 + 1) M (l ++ [x]) 16 X k0 256 ((p.length : Int) + 1) lg nn h hs (by decide) (by decide) hX2 (by omega)
     rw [← hx, hm0, setE_back, eh, el, if_pos rfl, if_pos rfl, delT_snoc hax, Int.add_sub_cancel] at this
     exact this))
    have hlss : decide ((nb : Int) < (na : Int)) = false := decide_eq_false (by omega)
    have hlss2 : decide (nb < na) = false := decide_eq_false (by omega)
    have hw1 : wrap64 ((p.length : Int) + 1) = (p.length : Int) + 1 := by unfold wrap64; omega
    clear he hx eh el hX2 had hf hll hpl hlp hna hnb hm0 ha0 hk0 hXW hlj hj htj hfx hax hle
    have HQL := Aside0.mk hql
    go_wp2_with (first | (go_at_call 22; with_reducible refine (HLI.out _ _ HT0.out HSH.out).mono ?_; rintro e_ w3 ⟨v5, rfl, hr, hb⟩; obtain ⟨Ag, cg, e0⟩ := Kd.R_slice hr; rw [List.length_map, hql] at e0; subst e0; have HG := Aside0.mk hr; have HT1 := Aside0.mk (HT0.out.step hb); clear hr hb HT0) | (go_at_call 24; with_reducible refine (HND.out _ _ _ HT1.out HSH.out).mono ?_; rintro e_ w4 ⟨rfl, hb⟩; have HG1 := Aside0.mk (Kd.R_below HG.out hb); have HT2 := Aside0.mk (HT1.out.step hb); clear hb HG HT1; have b0 := blk_cell (HHX.out _ HT2.out.below) 0; have b1 := blk_cell (HHX.out _ HT2.out.below) 1; have b2 := blk_cell (HHX.out _ HT2.out.below) 2; have b3 := blk_cell (HHX.out _ HT2.out.below) 3; have b4 := blk_cell (HHX.out _ HT2.out.below) 4; have b5 := blk_cell (HHX.out _ HT2.out.below) 5; simp only [List.getElem?_toArray, List.getElem?_cons_succ, List.getElem?_cons_zero] at b0 b1 b2 b3 b4 b5) | (go_at_call 28; with_reducible refine (HPU.out _ HT2.out).mono ?_; rintro e_ w5 ⟨rfl, M1, hk1, hs1, hkp⟩; simp only [↓reduceIte] at hk1 hs1; have HG2 := Aside0.mk (R44_kept HG1.out HT2.out hkp); have HT3 := Aside0.mk hk1; have HS3 := Aside0.mk hs1; clear hk1 hs1 hkp HT2 HG1; clear b0 b1 b2 b3 b4 b5; have b0 := blk_cell (HHX.out _ HT3.out.below) 0; have b1 := blk_cell (HHX.out _ HT3.out.below) 1; have b2 := blk_cell (HHX.out _ HT3.out.below) 2; have b3 := blk_cell (HHX.out _ HT3.out.below) 3; have b4 := blk_cell (HHX.out _ HT3.out.below) 4; have b5 := blk_cell (HHX.out _ HT3.out.below) 5; simp only [List.getElem?_toArray, List.getElem?_cons_succ, List.getElem?_cons_zero] at b0 b1 b2 b3 b4 b5) | (go_at_call 19; with_reducible refine (tLen_calls _ _ _ _ _ _ _ HT3.out).mono ?_; rintro e_ w6 ⟨rfl, h_⟩; rw [h_]; clear h_ w6) | (go_at_call 24; with_reducible refine (HNE.out _ _ HT3.out HS3.out).mono ?_; rintro e_ w7 ⟨rfl, hb⟩; have HG3 := Aside0.mk (Kd.R_below HG2.out hb); have HT4 := Aside0.mk (HT3.out.step hb); clear hb HG2 HT3; clear b0 b1 b2 b3 b4 b5; have b0 := blk_cell (HHX.out _ HT4.out.below) 0; have b1 := blk_cell (HHX.out _ HT4.out.below) 1; have b2 := blk_cell (HHX.out _ HT4.out.below) 2; have b3 := blk_cell (HHX.out _ HT4.out.below) 3; have b4 := blk_cell (HHX.out _ HT4.out.below) 4; have b5 := blk_cell (HHX.out _ HT4.out.below) 5; simp only [List.getElem?_toArray, List.getElem?_cons_succ, List.getElem?_cons_zero] at b0 b1 b2 b3 b4 b5) | (go_at_call 29; with_reducible refine (HDR.out _ _ HT4.out HS3.out).mono ?_; rintro e_ w8 ⟨rfl, M2, hk1, hs1, hkp⟩; have HG4 := Aside0.mk (R44_kept HG3.out HT4.out hkp); have HT5 := Aside0.mk hk1; have HS5 := Aside0.mk hs1; clear hk1 hs1 hkp HT4 HG3; clear b0 b1 b2 b3 b4 b5) | (go_at_call 22; with_reducible refine (HLI.out _ _ HT5.out HS5.out).mono ?_; rintro e_ w9 ⟨v6, rfl, hr, hb⟩; obtain ⟨Ah, ch, e0⟩ := Kd.R_slice hr; rw [List.length_map, hql] at e0; subst e0; have HH := Aside0.mk hr; have HG5 := Aside0.mk (Kd.R_below HG4.out hb); have HT6 := Aside0.mk (HT5.out.step hb); clear hr hb HT5 HG4) | (go_at_call 24; with_reducible refine (HND.out _ _ _ HT6.out HS5.out).mono ?_; rintro e_ w10 ⟨rfl, hb⟩; have HG6 := Aside0.mk (Kd.R_below HG5.out hb); have HH2 := Aside0.mk (Kd.R_below HH.out hb); have HB6 := Aside0.mk (HT6.out.step hb).below; clear hb HG5 HH HT6))
    clear HLI HND HNE HDR HPU hlss hlss2 hw1 HSH HHX HBX
    go_loopw [12] (fun u12 w' => ∃ j : Nat, j ≤ p.length ∧ u12 = .int .i64 j ∧ Aside0 (Below w10.heap.size w10 w')) (fun u12 _ => p.length - (intOf u12).toNat)
    case atStart => exact ⟨0, Nat.zero_le _, rfl, ⟨Below.refl _ _⟩⟩
    case round =>
     obtain ⟨j, hj, rfl, HB7⟩ := hrel
     by_cases hjt : j < p.length
     ·have hpl := HPL.out
      have hj0 : 0 ≤ (j : Int) := by omega
      have hjl : (j : Int) < (p.length : Int) := by omega
      have hjq : j < q.length := by omega
      have hjm : j < (q.map (outT 16)).length := by rw [List.length_map]; exact hjq
      obtain ⟨y, hy⟩ : ∃ y, y = outT 16 q[j] := ⟨_, rfl⟩
      have hrd : rd_T44 (q.map (outT 16)) (j : Int) = y := by rw [rd44_ _ j hjm, hy, List.getElem_map]
      obtain ⟨d1, hAd1, _⟩ := at_T44 (Kd.R_reads' HH2.out).2.2 (j : Int) hj0 (by omega)
      subst hAd1
      have HC1 := Aside0.mk (show ∀ w', Below w10.heap.size w10 w' → w'.cell? (d1.add (j * 5)) = some (.int .i64 y.f0.f0) ∧ w'.cell? ⟨(d1.add (j * 5)).block, (d1.add (j * 5)).off + 1, none⟩ = some (.int .u64 y.f0.f1) ∧ w'.cell? ⟨(d1.add (j * 5)).block, (d1.add (j * 5)).off + 2, none⟩ = some (.int .u64 y.f0.f2) ∧ w'.cell? ⟨(d1.add (j * 5)).block, (d1.add (j * 5)).off + 3, none⟩ = some (.int .i64 y.f1) ∧ w'.cell? ⟨(d1.add (j * 5)).block, (d1.add (j * 5)).off + 4, none⟩ = some (.int .i64 y.f2) from fun w' hb => by
       obtain ⟨ad2, e2, h2⟩ := at_T44 (Kd.C_below (Kd.R_reads' HH2.out).2.2 hb) (j : Int) hj0 (by omega)
       injection e2 with e2
       subst e2
       rw [Int.toNat_natCast, hrd] at h2
       exact h2)
      obtain ⟨d2, hAd2, _⟩ := at_T44 (Kd.R_reads' HG6.out).2.2 (j : Int) hj0 (by omega)
      subst hAd2
      have HC2 := Aside0.mk (show ∀ w', Below w10.heap.size w10 w' → w'.cell? (d2.add (j * 5)) = some (.int .i64 y.f0.f0) ∧ w'.cell? ⟨(d2.add (j * 5)).block, (d2.add (j * 5)).off + 1, none⟩ = some (.int .u64 y.f0.f1) ∧ w'.cell? ⟨(d2.add (j * 5)).block, (d2.add (j * 5)).off + 2, none⟩ = some (.int .u64 y.f0.f2) ∧ w'.cell? ⟨(d2.add (j * 5)).block, (d2.add (j * 5)).off + 3, none⟩ = some (.int .i64 y.f1) ∧ w'.cell? ⟨(d2.add (j * 5)).block, (d2.add (j * 5)).off + 4, none⟩ = some (.int .i64 y.f2) from fun w' hb => by
       obtain ⟨ad2, e2, h2⟩ := at_T44 (Kd.C_below (Kd.R_reads' HG6.out).2.2 hb) (j : Int) hj0 (by omega)
       injection e2 with e2
       subst e2
       rw [Int.toNat_natCast, hrd] at h2
       exact h2)
      clear hy hrd hjm hjq
      go_wp2
      refine start_ (n := 9) (S := fun w' => Below w10.heap.size w10 w') (ds := []) #[false, false, false, false, false, false, false, false, false] (by kernel_rfl) rfl rfl (below_drew1 HB7.out) (fun hHeld => ?_)
      clear HB7
      generalize World.drew _ = w7_ at hHeld ⊢
      refine pl_ [0, 1, 2, 4, 5, 6] ?_
      iterate 6 refine pP rfl rfl (by kernel_rfl) (fun _ _ _ h => h) (by rfl) (by intro w'; go_simp; with_reducible rfl) (by simp only [Act.put, z1, z2, z3, i64_w, i32_w]; rfl) ?_
      refine pl0 ?_
      refine take_ (i := 3) (N := some 101) (v := ?_) (a' := ?_) #[true, true, true, true, true, true, true, false, false] rfl rfl (by kernel_rfl) (fun _ _ _ h => h) (Or.inl ⟨by rfl, ?_⟩) hHeld ?_ ?_
      rotate_left
      ·intro w' hs
       obtain ⟨s0, s1, s2, s3, s4⟩ := HC1.out w' hs
       go_simp
       with_reducible rfl
      rotate_left
      ·simp only [Act.put, List.setIfInBounds_toArray, List.set_cons_zero, List.set_cons_succ, i64_w, i32_w]
       rfl
      refine take_ (i := 7) (N := some 105) (v := ?_) (a' := ?_) #[true, true, true, true, true, true, true, true, false] rfl rfl (by kernel_rfl) (fun _ _ _ h => h) (Or.inl ⟨by rfl, ?_⟩) hHeld ?_ ?_
      rotate_left
      ·intro w' hs
       obtain ⟨s0, s1, s2, s3, s4⟩ := HC2.out w' hs
       go_simp
       with_reducible rfl
      rotate_left
      ·simp only [Act.put, List.setIfInBounds_toArray, List.set_cons_zero, List.set_cons_succ, i64_w, i32_w]
       rfl
      refine pure_ (i := 8) (N := some 106) (v := ?_) (a' := ?_) #[true, true, true, true, true, true, true, true, true] rfl rfl (by kernel_rfl) (fun _ _ _ h => h) (Or.inl ⟨by rfl, ?_⟩) ?_ ?_
      rotate_left
      ·intro w'
       have := neq44 w' y.f0.f0 y.f0.f1 y.f0.f2 y.f1 y.f2
       go_simp
       with_reducible rfl
      rotate_left
      ·simp only [Act.put, List.setIfInBounds_toArray, List.set_cons_zero, List.set_cons_succ, i64_w, i32_w]
       rfl
      refine done_ (by kernel_rfl) ?_
      have HB8 := Aside0.mk hHeld
      clear hHeld
      go_wp2
      go_roundw
      case measure => first | (simp [intOf]; done) | (simp [intOf]; omega)
      case rel => exact ⟨j + 1, hjt, by go_num, HB8⟩
     ·have hje : j = p.length := by omega
      go_wp2_with (first | (go_at_call 17; with_reducible refine (tlives_calls _).mono ?_; rintro e_ w8 ⟨rfl, hb⟩; have HZ := Aside0.mk (below_step HB7.out hb); clear hb))
      go_ret
      exact ⟨rfl, below_step HWB.out (below_step HB6.out HZ.out)⟩
   ·have hne : (e != 0) = true := by simpa using h0
    have HE0 := Aside0.mk h0
    clear h0 he hx eh el hX2 had hf hll hpl hlp hq hna
    go_wp2_with (first | (go_at_call 22; with_reducible refine (HLI.out _ _ HT0.out HSH.out).mono ?_; rintro e_ w3 ⟨v5, rfl, hr, hb⟩; obtain ⟨Ag, cg, e0⟩ := Kd.R_slice hr; rw [List.length_map, hql] at e0; subst e0; have HG := Aside0.mk hr; have HT1 := Aside0.mk (HT0.out.step hb); clear hr hb HT0) | (go_at_call 24; with_reducible refine (HND.out _ _ _ HT1.out HSH.out).mono ?_; rintro e_ w4 ⟨rfl, hb⟩; have HG1 := Aside0.mk (Kd.R_below HG.out hb); have HT2 := Aside0.mk (HT1.out.step hb); clear hb HG HT1; have b0 := blk_cell (HHX.out _ HT2.out.below) 0; have b1 := blk_cell (HHX.out _ HT2.out.below) 1; have b2 := blk_cell (HHX.out _ HT2.out.below) 2; have b3 := blk_cell (HHX.out _ HT2.out.below) 3; have b4 := blk_cell (HHX.out _ HT2.out.below) 4; have b5 := blk_cell (HHX.out _ HT2.out.below) 5; simp only [List.getElem?_toArray, List.getElem?_cons_succ, List.getElem?_cons_zero] at b0 b1 b2 b3 b4 b5) | (go_at_call 28; with_reducible refine (HPU.out _ HT2.out).mono ?_; rintro e_ w5 ⟨rfl, M1, hk1, hs1, hkp⟩; rw [if_neg HE0.out] at hk1 hs1; have HT3 := Aside0.mk hk1; have HS3 := Aside0.mk hs1; clear hk1 hs1 hkp HT2 HG1; clear b0 b1 b2 b3 b4 b5) | (go_at_call 24; with_reducible refine (HND.out _ _ _ HT3.out HS3.out).mono ?_; rintro e_ w6 ⟨rfl, hb⟩; have HT4 := Aside0.mk (HT3.out.step hb); clear hb HT3) | (go_at_call 17; with_reducible refine (tlives_calls _).mono ?_; rintro e_ w1 ⟨rfl, hb⟩; have HZ := Aside0.mk (below_step (HT4.out.below) hb); clear hb))
    go_ret
    exact ⟨rfl, below_step HWB.out HZ.out⟩
theorem TrieBack_true (A : Option Addr) (c : Nat) (ops : List S34) (kd lg nn k0 k1 k2 : Int) (w : World) (hC : Kd.C k34 w A ops.length ops) (hok : ∀ y ∈ ops, okV y.f3) (hoV : okV ⟨k0, k1, k2⟩) :
 Calls Try.prog 6 #[.slice A ops.length c, .agg #[.int .i64 kd, .int .i64 lg, .int .i64 nn, .int .i64 k0, .int .u64 k1, .int .u64 k2]] w fun e_ w' => e_ = .returned (.bool true) ∧ Below w.heap.size w w' := by
 by_cases hl : 200 < ops.length
 ·exact TrieBack_many A c ops kd lg nn k0 k1 k2 w hl
 ·exact TrieBack_plays A c ops kd lg nn k0 k1 k2 w (by omega) hC hok hoV
end Go.Proofs.Ytfdbcnbakchcgaa.XR
