import Derived.Test.YtfdbcnbakchcgaaTe
import Derived.Test.YtfdbcnbakchcgaaTf
import Derived.Test.YtfdbcnbakchcgaaTi
import Derived.Test.YtfdbcnbakchcgaaXTx2
namespace Go.Proofs.Ytfdbcnbakchcgaa.XT
open Go.RowKit Go.Proofs.YtfdbcnbakchcgaaW.PrintWords Go.Proofs.YtfdbcnbakchcgaaW.PrintLast Go.Proofs.YtfdbcnbakchcgaaW.PrintMore
attribute [local go_sem] max2_int min2_int max_two min_two max_three min_three max_four min_four   -- for this text's walks alone
set_option linter.unusedVariables false
set_option linter.unusedSimpArgs false
/-- A block of eight cells, written anew. -/
def set8 (w : World) (g : Nat) (v0 v1 v2 v3 v4 v5 v6 v7 : Value) : World := (((((((w.setCell ⟨g, 0, none⟩ v0).setCell ⟨g, 1, none⟩ v1).setCell ⟨g, 2, none⟩ v2).setCell ⟨g, 3, none⟩ v3).setCell ⟨g, 4, none⟩ v4).setCell ⟨g, 5, none⟩ v5).setCell ⟨g, 6, none⟩ v6).setCell ⟨g, 7, none⟩ v7
theorem set8_blk {w : World} {g t : Nat} {u0 u1 u2 u3 u4 u5 u6 u7 : Value} (h : w.heap[g]? = some (.cells #[u0, u1, u2, u3, u4, u5, u6, u7] t (0, 0))) (v0 v1 v2 v3 v4 v5 v6 v7 : Value) : (set8 w g v0 v1 v2 v3 v4 v5 v6 v7).heap[g]? = some (.cells #[v0, v1, v2, v3, v4, v5, v6, v7] t (0, 0)) := by
  unfold set8
  have h0 := blk_set h 0 v0
  simp only [List.setIfInBounds_toArray, List.set_cons_zero, List.set_cons_succ] at h0
  have h1 := blk_set h0 1 v1
  simp only [List.setIfInBounds_toArray, List.set_cons_zero, List.set_cons_succ] at h1
  have h2 := blk_set h1 2 v2
  simp only [List.setIfInBounds_toArray, List.set_cons_zero, List.set_cons_succ] at h2
  have h3 := blk_set h2 3 v3
  simp only [List.setIfInBounds_toArray, List.set_cons_zero, List.set_cons_succ] at h3
  have h4 := blk_set h3 4 v4
  simp only [List.setIfInBounds_toArray, List.set_cons_zero, List.set_cons_succ] at h4
  have h5 := blk_set h4 5 v5
  simp only [List.setIfInBounds_toArray, List.set_cons_zero, List.set_cons_succ] at h5
  have h6 := blk_set h5 6 v6
  simp only [List.setIfInBounds_toArray, List.set_cons_zero, List.set_cons_succ] at h6
  have h7 := blk_set h6 7 v7
  simp only [List.setIfInBounds_toArray, List.set_cons_zero, List.set_cons_succ] at h7
  exact h7
theorem set8_far {w : World} {g k : Nat} (h : k ≠ g) (v0 v1 v2 v3 v4 v5 v6 v7 : Value) : (set8 w g v0 v1 v2 v3 v4 v5 v6 v7).heap[k]? = w.heap[k]? := by
  unfold set8
  rw [Below.heap_setCell _ ⟨g, 7, none⟩ _ k h, Below.heap_setCell _ ⟨g, 6, none⟩ _ k h, Below.heap_setCell _ ⟨g, 5, none⟩ _ k h, Below.heap_setCell _ ⟨g, 4, none⟩ _ k h, Below.heap_setCell _ ⟨g, 3, none⟩ _ k h, Below.heap_setCell _ ⟨g, 2, none⟩ _ k h, Below.heap_setCell _ ⟨g, 1, none⟩ _ k h, Below.heap_setCell _ ⟨g, 0, none⟩ _ k h]
theorem set8_below {w W : World} {g : Nat} (h : Below w.heap.size w W) (hg : w.heap.size ≤ g) (v0 v1 v2 v3 v4 v5 v6 v7 : Value) : Below w.heap.size w (set8 W g v0 v1 v2 v3 v4 v5 v6 v7) := by
  unfold set8
  exact below_set (below_set (below_set (below_set (below_set (below_set (below_set (below_set h hg) hg) hg) hg) hg) hg) hg) hg
/-- What stands of region 1, whatever has come up of it. -/
structure Iv (w : World) (ao bo ko : Obj) (vA vX vB vY : Value) (ca cb : Array Value) (c0 c1 c2 c3 c4 c5 c6 c7 : Bool) (t7 t8 t18 t19 t20 t21 : Value) (W : World) : Prop where
  bx : BX3 w W ao bo ko
  h0 : c0 = true → t18 = vA
  h1 : c1 = true → t19 = vX
  h2 : c2 = true → t20 = vB
  h3 : c3 = true → t21 = vY
  h4 : c4 = true → ∃ g cs, t7 = .pointer (some ⟨g, 0, none⟩) ∧ w.heap.size ≤ g ∧ W.heap[g]? = some (.cells cs 59 (0, 0)) ∧ (c6 = true → cs = ca) ∧ (c6 = false → cs = #[.int .i64 0, .int .u64 0, .int .u64 0, .int .i64 0, .int .u64 0, .int .u64 0, .int .i64 0, .int .i64 0])
  h5 : c5 = true → ∃ g cs, t8 = .pointer (some ⟨g, 0, none⟩) ∧ w.heap.size ≤ g ∧ W.heap[g]? = some (.cells cs 59 (0, 0)) ∧ (c7 = true → cs = cb) ∧ (c7 = false → cs = #[.int .i64 0, .int .u64 0, .int .u64 0, .int .i64 0, .int .u64 0, .int .u64 0, .int .i64 0, .int .i64 0])
  hne : c4 = true → c5 = true → t7 ≠ t8
  o6 : c6 = true → c4 = true
  o7 : c7 = true → c5 = true
theorem Iv.step {w : World} {ao bo ko : Obj} {vA vX vB vY : Value} {ca cb : Array Value} {c0 c1 c2 c3 c4 c5 c6 c7 : Bool} {t7 t8 t18 t19 t20 t21 : Value} {W W1 : World} (h : Iv w ao bo ko vA vX vB vY ca cb c0 c1 c2 c3 c4 c5 c6 c7 t7 t8 t18 t19 t20 t21 W) (hb : Below W.heap.size W W1) : Iv w ao bo ko vA vX vB vY ca cb c0 c1 c2 c3 c4 c5 c6 c7 t7 t8 t18 t19 t20 t21 W1 :=
  ⟨h.bx.step hb, h.h0, h.h1, h.h2, h.h3, fun c => by obtain ⟨g, cs, e, e1, e2, e3⟩ := h.h4 c; exact ⟨g, cs, e, e1, blk_below e2 hb, e3⟩, fun c => by obtain ⟨g, cs, e, e1, e2, e3⟩ := h.h5 c; exact ⟨g, cs, e, e1, blk_below e2 hb, e3⟩, h.hne, h.o6, h.o7⟩
theorem BX3.set8 {w W : World} {xa ya za : Array Value} {tx ty tz : TypeId} (h : BX3 w W (.cells xa tx (0, 0)) (.cells ya ty (0, 0)) (.cells za tz (0, 0))) {g : Nat} {cs : Array Value} {t : TypeId} (hg : W.heap[g]? = some (.cells cs t (0, 0))) (h1 : tx ≠ t) (h2 : ty ≠ t) (h3 : tz ≠ t) (hw : w.heap.size ≤ g) (v0 v1 v2 v3 v4 v5 v6 v7 : Value) : BX3 w (XT.set8 W g v0 v1 v2 v3 v4 v5 v6 v7) (.cells xa tx (0, 0)) (.cells ya ty (0, 0)) (.cells za tz (0, 0)) :=
  ⟨(set8_far (blk_ne h.b0 hg h1) ..).trans h.b0, (set8_far (blk_ne h.b1 hg h2) ..).trans h.b1, (set8_far (blk_ne h.b2 hg h3) ..).trans h.b2, set8_below h.below hw ..⟩
theorem BX3.far {w W : World} {xa ya za : Obj} (h : BX3 w W xa ya za) {g : Nat} (hg : w.heap.size + 3 ≤ g) (j : Nat) (u : Value) : BX3 w (W.setCell ⟨g, j, none⟩ u) xa ya za :=
  ⟨(Below.heap_setCell _ ⟨g, j, none⟩ _ _ (by show _ ≠ g; omega)).trans h.b0, (Below.heap_setCell _ ⟨g, j, none⟩ _ _ (by show _ ≠ g; omega)).trans h.b1, (Below.heap_setCell _ ⟨g, j, none⟩ _ _ (by show _ ≠ g; omega)).trans h.b2, below_set h.below (by omega)⟩
/-- A number's lowest n bits. -/
def bitsN (X n : Nat) : List Bool := (List.range n).map X.testBit
theorem bitsN_length (X n : Nat) : (bitsN X n).length = n := by simp [bitsN]
theorem bitsN_rd (X n i : Nat) (h : i < n) : rdOf false (bitsN X n) (i : Int) = X.testBit i := by
  rw [rdOf_nat, bitsN, List.getD_eq_getElem?_getD, List.getElem?_map, List.getElem?_range h]; rfl
/-- The key that is made, up to bit i. -/
def freeN (A B P Q n i : Nat) : List Bool := (List.range n).map fun j => if j < i then freeB A B P Q j else Q.testBit j
theorem freeN_length (A B P Q n i : Nat) : (freeN A B P Q n i).length = n := by simp [freeN]
theorem freeN_zero (A B P Q n : Nat) : freeN A B P Q n 0 = bitsN Q n := by simp [freeN, bitsN]
theorem freeN_set (A B P Q n i : Nat) (hi : i < n) : freeN A B P Q n (i + 1) = (freeN A B P Q n i).set i (freeB A B P Q i) := by
  apply List.ext_getElem?
  intro j
  unfold freeN
  rw [List.getElem?_set, List.getElem?_map, List.length_map, List.length_range]
  by_cases hj : j < n
  · rw [List.getElem?_range hj]
    by_cases e : i = j
    · subst e; simp [hi]
    · rw [if_neg e, List.getElem?_map, List.getElem?_range hj]
      simp only [Option.map_some]
      congr 1
      by_cases h1 : j < i
      · rw [if_pos h1, if_pos (by omega)]
      · rw [if_neg h1, if_neg (by omega)]
  · rw [List.getElem?_eq_none (by simpa using hj), if_neg (by omega), List.getElem?_map, List.getElem?_eq_none (by simpa using hj)]; rfl
theorem freeN_same (A B P Q n i : Nat) (h : A.testBit i = false ∨ B.testBit i = true) : freeN A B P Q n (i + 1) = freeN A B P Q n i := by
  unfold freeN
  refine List.map_congr_left fun j _ => ?_
  by_cases h1 : j < i
  · rw [if_pos h1, if_pos (by omega)]
  · rw [if_neg h1]
    by_cases h2 : j < i + 1
    · obtain rfl : j = i := by omega
      rw [if_pos h2]; unfold freeB; rw [if_neg (fun hh => by rcases h with h | h <;> simp [h] at hh)]
    · rw [if_neg h2]
theorem want_succ (A B P Q i : Nat) : wantB A B P Q (i + 1) = (wantB A B P Q i && (!A.testBit i || (B.testBit i && (P.testBit i == Q.testBit i)))) := by
  unfold wantB
  rw [Bool.eq_iff_iff]
  simp only [decide_eq_true_eq, Bool.and_eq_true, Bool.or_eq_true, Bool.not_eq_true', beq_iff_eq]
  constructor
  · intro h
    refine ⟨fun j hj => h j (by omega), ?_⟩
    cases ha : A.testBit i with
    | false => exact .inl rfl
    | true => exact .inr (h i (by omega) ha)
  · rintro ⟨h1, h2⟩ j hj ha
    rcases Nat.lt_or_ge j i with c | c
    · exact h1 j c ha
    · obtain rfl : j = i := by omega
      rcases h2 with h2 | h2
      · rw [ha] at h2; cases h2
      · exact h2
/-- The rows of the loop. -/
structure RS (w w' : World) (ao bo ko : Obj) (P Q A B F : List Bool) (vp vq va vb vf : Value) (N : Nat) : Prop where
  bx : BX3 w w' ao bo ko
  rp : ∃ B0, Kd.R Kd.bool 4 w' B0 (fun k => k < N) vp P
  rq : ∃ B0, Kd.R Kd.bool 4 w' B0 (fun k => k < N) vq Q
  ra : ∃ B0, Kd.R Kd.bool 4 w' B0 (fun k => k < N) va A
  rb : ∃ B0, Kd.R Kd.bool 4 w' B0 (fun k => k < N) vb B
  rf : Kd.R Kd.bool 4 w' N (fun _ => True) vf F
  hN : w.heap.size + 3 ≤ N
theorem RS.step {w w' w1 : World} {ao bo ko : Obj} {P Q A B F : List Bool} {vp vq va vb vf : Value} {N : Nat} (h : RS w w' ao bo ko P Q A B F vp vq va vb vf N) (hb : Below w'.heap.size w' w1) : RS w w1 ao bo ko P Q A B F vp vq va vb vf N :=
  ⟨h.bx.step hb, h.rp.imp fun _ x => Kd.R_below x hb, h.rq.imp fun _ x => Kd.R_below x hb, h.ra.imp fun _ x => Kd.R_below x hb, h.rb.imp fun _ x => Kd.R_below x hb, Kd.R_below h.rf hb, h.hN⟩
theorem RS.put {w w' : World} {ao bo ko : Obj} {P Q A B F : List Bool} {vp vq va vb : Value} {g n c N : Nat} (h : RS w w' ao bo ko P Q A B F vp vq va vb (.slice (some ⟨g, 0, none⟩) n c) N) (i : Nat) (u : Bool) : RS w (w'.setCell ⟨g, i, none⟩ (.bool u)) ao bo ko P Q A B (F.set i u) vp vq va vb (.slice (some ⟨g, 0, none⟩) n c) N := by
  have hg : N ≤ g := Kd.R_base h.rf g rfl
  have hp := Kd.R_putg h.rf (i : Int) u
  rw [Int.toNat_natCast] at hp
  have far : ∀ {v : Value} {X : List Bool}, (∃ B0, Kd.R Kd.bool 4 w' B0 (fun k => k < N) v X) → ∃ B0, Kd.R Kd.bool 4 (w'.setCell ⟨g, i, none⟩ (.bool u)) B0 (fun k => k < N) v X := fun hx => hx.imp fun _ x => Kd.R_far (p := ⟨g, i, none⟩) x (fun k hk => by show k ≠ g; omega) _
  exact ⟨h.bx.far (by have := h.hN; omega) i _, far h.rp, far h.rq, far h.ra, far h.rb, hp.1, h.hN⟩
def TernShadows.T11 : Bool × List (List Nat × List Nat) := (true, [([], []), ([], []), ([0, 1], [0, 1]), ([2], [2]), ([3], [3]), ([4], [4]), ([4], [4]), ([5, 6, 4], [4, 5, 6]), ([7, 4], [4, 7]), ([8, 4], [4, 8]), ([9, 4, 4], [4, 9]), ([10], [10]), ([10], [10]), ([11, 12, 10], [10, 11, 12]), ([13, 10], [10, 13]), ([10], [10]), ([10], [10]), ([15, 16, 10], [10, 15, 16]), ([17, 10], [10, 17]), ([14, 18, 10], [10, 14, 18]), ([10, 19, 4], [4, 10, 19]), ([4, 20], [4, 20])])
def TernShadows.B11 : List Nat := [0, 0, 3, 7, 15, 31, 31, 127, 255, 511, 1023, 2047, 2047, 8191, 16383, 2047, 2047, 100351, 231423, 524287, 1048575, 2097151]
theorem TernShadows.tab11 : rtab .any (opsOf Try.f8 11) = TernShadows.T11 := by kernel_rfl
theorem TernShadows.bits11 : waitsOk TernShadows.T11.2 TernShadows.B11 = true := by kernel_rfl
set_option maxHeartbeats 1000000 in
set_option maxRecDepth 100000 in
theorem TernShadows_walk (a0 a1 a2 p0 p1 p2 m0 m1 m2 b0 b1 b2 q0 q1 q2 n0 n1 n2 k0 k1 k2 o0 o1 o2 : Int) (w : World) (IA IB G KA KB : Bool) (P Q MA MB n : Nat) (hG : tern_Shadowed.f 1 p0 p1 p2 m0 m1 m2 a1 a2 q0 q1 q2 n0 n1 n2 b1 b2 = some G) (hA : shunterref21_Inside.f p0 p1 p2 m0 m1 m2 = some IA) (hB : shunterref21_Inside.f q0 q1 q2 n0 n1 n2 = some IB) (hs : (G = false ∧ (IA = false ∨ (IA = true ∧ IB = false) ∨ (IA = true ∧ IB = true ∧ (p0 != q0) = true))) ∨ (IA = true ∧ IB = true ∧ (p0 != q0) = false ∧ G = wantB MA MB P Q n ∧ n ≤ 128 ∧ 0 < n ∧ shunterref02_Bits.f p0 p1 p2 = some (bitsN P n) ∧ shunterref02_Bits.f q0 q1 q2 = some (bitsN Q n) ∧ shunterref02_Bits.f m0 m1 m2 = some (bitsN MA n) ∧ shunterref02_Bits.f n0 n1 n2 = some (bitsN MB n) ∧ shunterref02_Of.f (freeN MA MB P Q n n) = some (o0, o1, o2) ∧ (G = false → shunterref02_Meets.f 130 o0 o1 o2 q0 q1 q2 n0 n1 n2 = some true ∧ shunterref02_Meets.f 130 o0 o1 o2 p0 p1 p2 m0 m1 m2 = some false) ∧ shunterref02_Meets.f 130 k0 k1 k2 q0 q1 q2 n0 n1 n2 = some KB ∧ shunterref02_Meets.f 130 k0 k1 k2 p0 p1 p2 m0 m1 m2 = some KA ∧ (G = true → KB = true → KA = true))) :
    Calls Try.prog 8 #[.agg #[.int .i64 a0, .int .i64 a1, .int .i64 a2, .int .i64 p0, .int .u64 p1, .int .u64 p2, .int .i64 m0, .int .u64 m1, .int .u64 m2], .agg #[.int .i64 b0, .int .i64 b1, .int .i64 b2, .int .i64 q0, .int .u64 q1, .int .u64 q2, .int .i64 n0, .int .u64 n1, .int .u64 n2], .agg #[.int .i64 k0, .int .u64 k1, .int .u64 k2]] w fun e w' => e = .returned (.bool true) ∧ Below w.heap.size w w' := by
  have HG := Aside0.mk hG
  have HA := Aside0.mk hA
  have HBi := Aside0.mk hB
  have HS := Aside0.mk hs
  clear hG hA hB hs
  have HB := Aside0.mk (BX3.start w (.cells #[.int .i64 a0, .int .i64 a1, .int .i64 a2, .int .i64 p0, .int .u64 p1, .int .u64 p2, .int .i64 m0, .int .u64 m1, .int .u64 m2] 57 (0, 0)) (.cells #[.int .i64 b0, .int .i64 b1, .int .i64 b2, .int .i64 q0, .int .u64 q1, .int .u64 q2, .int .i64 n0, .int .u64 n1, .int .u64 n2] 57 (0, 0)) (.cells #[.int .i64 k0, .int .u64 k1, .int .u64 k2] 32 (0, 0)))
  go_enter Try.func8, Try.ntmps8
  go_wp2
  have HB1 := Aside0.mk HB.out.drew
  refine start_ (n := 8) (S := fun _ => True) (ds := []) #[false, false, false, false, false, false, false, false] (by kernel_rfl) rfl rfl trivial (fun _ => ?_)
  generalize World.drew _ = W0 at HB1 ⊢
  clear HB
  refine invL_ (ds := []) (fun l ac W => ∃ c0 c1 c2 c3 c4 c5 c6 c7 : Bool, ∃ t7 t8 t18 t19 t20 t21 : Value, l = [c0, c1, c2, c3, c4, c5, c6, c7] ∧ ac = { tmps := List.toArray (.agg #[.int .i64 a0, .int .i64 a1, .int .i64 a2, .int .i64 p0, .int .u64 p1, .int .u64 p2, .int .i64 m0, .int .u64 m1, .int .u64 m2] :: .agg #[.int .i64 b0, .int .i64 b1, .int .i64 b2, .int .i64 q0, .int .u64 q1, .int .u64 q2, .int .i64 n0, .int .u64 n1, .int .u64 n2] :: .agg #[.int .i64 k0, .int .u64 k1, .int .u64 k2] :: .pointer (some ⟨w.heap.size, 0, none⟩) :: .pointer (some ⟨w.heap.size + 1, 0, none⟩) :: .pointer (some ⟨w.heap.size + 1 + 1, 0, none⟩) :: .bool false :: t7 :: t8 :: undef :: undef :: undef :: undef :: undef :: undef :: undef :: undef :: undef :: t18 :: t19 :: t20 :: t21 :: undef :: undef :: undef :: undef :: undef :: undef :: undef :: undef :: undef :: undef :: undef :: undef :: undef :: undef :: undef :: undef :: undef :: undef :: undef :: undef :: undef :: undef :: undef :: undef :: undef :: undef :: undef :: undef :: undef :: undef :: undef :: undef :: undef :: undef :: undef :: undef :: undef :: undef :: undef :: undef :: undef :: undef :: undef :: undef :: undef :: undef :: undef :: undef :: undef :: undef :: undef :: undef :: undef :: undef :: undef :: undef :: undef :: undef :: undef :: undef :: undef :: undef :: undef :: undef :: undef :: undef :: undef :: undef :: undef :: undef :: undef :: undef :: undef :: undef :: undef :: undef :: undef :: undef :: undef :: undef :: undef :: undef :: undef :: undef :: undef :: undef :: undef :: undef :: undef :: undef :: undef :: undef :: undef :: undef :: undef :: undef :: undef :: undef :: undef :: undef :: undef :: undef :: undef :: undef :: undef :: undef :: undef :: undef :: undef :: undef :: undef :: undef :: undef :: undef :: undef :: undef :: undef :: undef :: undef :: undef :: undef :: undef :: undef :: undef :: undef :: undef :: undef :: undef :: undef :: undef :: undef :: undef :: undef :: undef :: undef :: undef :: undef :: undef :: undef :: []), defers := [] } ∧ Iv w (.cells #[.int .i64 a0, .int .i64 a1, .int .i64 a2, .int .i64 p0, .int .u64 p1, .int .u64 p2, .int .i64 m0, .int .u64 m1, .int .u64 m2] 57 (0, 0)) (.cells #[.int .i64 b0, .int .i64 b1, .int .i64 b2, .int .i64 q0, .int .u64 q1, .int .u64 q2, .int .i64 n0, .int .u64 n1, .int .u64 n2] 57 (0, 0)) (.cells #[.int .i64 k0, .int .u64 k1, .int .u64 k2] 32 (0, 0)) (.agg #[.int .i64 a0, .int .i64 a1, .int .i64 a2, .int .i64 p0, .int .u64 p1, .int .u64 p2, .int .i64 m0, .int .u64 m1, .int .u64 m2]) (.agg #[.int .i64 p0, .int .u64 p1, .int .u64 p2, .int .i64 m0, .int .u64 m1, .int .u64 m2, .int .i64 a1, .int .i64 a2]) (.agg #[.int .i64 b0, .int .i64 b1, .int .i64 b2, .int .i64 q0, .int .u64 q1, .int .u64 q2, .int .i64 n0, .int .u64 n1, .int .u64 n2]) (.agg #[.int .i64 q0, .int .u64 q1, .int .u64 q2, .int .i64 n0, .int .u64 n1, .int .u64 n2, .int .i64 b1, .int .i64 b2]) #[.int .i64 p0, .int .u64 p1, .int .u64 p2, .int .i64 m0, .int .u64 m1, .int .u64 m2, .int .i64 a1, .int .i64 a2] #[.int .i64 q0, .int .u64 q1, .int .u64 q2, .int .i64 n0, .int .u64 n1, .int .u64 n2, .int .i64 b1, .int .i64 b2] c0 c1 c2 c3 c4 c5 c6 c7 t7 t8 t18 t19 t20 t21 W) (fun _ _ _ _ => trivial) ?step ?fin 8 [false, false, false, false, false, false, false, false] _ _ rfl (by decide) ⟨false, false, false, false, false, false, false, false, undef, undef, undef, undef, undef, undef, rfl, rfl, HB1.out, by simp, by simp, by simp, by simp, by simp, by simp, by simp, by simp, by simp⟩
  case step =>
    intro i o ho l ac W hl hI h0 hall K hK
    obtain ⟨c0, c1, c2, c3, c4, c5, c6, c7, t7, t8, t18, t19, t20, t21, rfl, rfl, hv⟩ := hI
    clear HB1 hl
    have HV := Aside0.mk hv
    clear hv
    rcases i with _ | _ | _ | _ | _ | _ | _ | _ | i
    · simp only [List.getElem?_toArray, List.getElem?_cons_succ, List.getElem?_cons_zero, Option.some.injEq] at ho
      subst ho
      have x0 := blk_cell HV.out.bx.b0 0
      have x1 := blk_cell HV.out.bx.b0 1
      have x2 := blk_cell HV.out.bx.b0 2
      have x3 := blk_cell HV.out.bx.b0 3
      have x4 := blk_cell HV.out.bx.b0 4
      have x5 := blk_cell HV.out.bx.b0 5
      have x6 := blk_cell HV.out.bx.b0 6
      have x7 := blk_cell HV.out.bx.b0 7
      have x8 := blk_cell HV.out.bx.b0 8
      simp only [List.getElem?_toArray, List.getElem?_cons_succ, List.getElem?_cons_zero] at x0 x1 x2 x3 x4 x5 x6 x7 x8
      refine value_ (w1 := W) (v := .agg #[.int .i64 a0, .int .i64 a1, .int .i64 a2, .int .i64 p0, .int .u64 p1, .int .u64 p2, .int .i64 m0, .int .u64 m1, .int .u64 m2]) (by rfl) rfl ?_ ?_
      · go_simp
        try rfl
      exact hK _ _ ⟨true, c1, c2, c3, c4, c5, c6, c7, _, _, _, _, _, _, rfl, (by simp only [Act.put, List.setIfInBounds_toArray, List.set_cons_zero, List.set_cons_succ]), { HV.out with h0 := fun _ => rfl }⟩
    · simp only [List.getElem?_toArray, List.getElem?_cons_succ, List.getElem?_cons_zero, Option.some.injEq] at ho
      subst ho
      have f0 := hall ⟨0, .data⟩ (by simp) rfl
      simp only [List.getD_cons_zero, List.getD_cons_succ] at f0
      subst f0
      obtain rfl := HV.out.h0 rfl
      refine goes_ Try.func32 (by kernel_rfl) rfl #[.agg #[.int .i64 a0, .int .i64 a1, .int .i64 a2, .int .i64 p0, .int .u64 p1, .int .u64 p2, .int .i64 m0, .int .u64 m1, .int .u64 m2]] (by rfl) rfl rfl (by (try simp only [List.map_toArray, List.map_cons, List.map_nil]); rfl) ?_
      with_reducible refine (shunterlaw21_mine.calls a0 a1 a2 p0 p1 p2 m0 m1 m2 p0 p1 p2 m0 m1 m2 a1 a2 _ rfl).mono ?_
      rintro e w1 ⟨rfl, hb⟩
      refine ⟨_, rfl, ?_⟩
      exact hK _ _ ⟨true, true, c2, c3, c4, c5, c6, c7, _, _, _, _, _, _, rfl, (by simp only [Act.put, List.setIfInBounds_toArray, List.set_cons_zero, List.set_cons_succ]), { HV.out.step hb with h1 := fun _ => rfl }⟩
    · simp only [List.getElem?_toArray, List.getElem?_cons_succ, List.getElem?_cons_zero, Option.some.injEq] at ho
      subst ho
      have x0 := blk_cell HV.out.bx.b1 0
      have x1 := blk_cell HV.out.bx.b1 1
      have x2 := blk_cell HV.out.bx.b1 2
      have x3 := blk_cell HV.out.bx.b1 3
      have x4 := blk_cell HV.out.bx.b1 4
      have x5 := blk_cell HV.out.bx.b1 5
      have x6 := blk_cell HV.out.bx.b1 6
      have x7 := blk_cell HV.out.bx.b1 7
      have x8 := blk_cell HV.out.bx.b1 8
      simp only [List.getElem?_toArray, List.getElem?_cons_succ, List.getElem?_cons_zero] at x0 x1 x2 x3 x4 x5 x6 x7 x8
      refine value_ (w1 := W) (v := .agg #[.int .i64 b0, .int .i64 b1, .int .i64 b2, .int .i64 q0, .int .u64 q1, .int .u64 q2, .int .i64 n0, .int .u64 n1, .int .u64 n2]) (by rfl) rfl ?_ ?_
      · go_simp
        try rfl
      exact hK _ _ ⟨c0, c1, true, c3, c4, c5, c6, c7, _, _, _, _, _, _, rfl, (by simp only [Act.put, List.setIfInBounds_toArray, List.set_cons_zero, List.set_cons_succ]), { HV.out with h2 := fun _ => rfl }⟩
    · simp only [List.getElem?_toArray, List.getElem?_cons_succ, List.getElem?_cons_zero, Option.some.injEq] at ho
      subst ho
      have f2 := hall ⟨2, .data⟩ (by simp) rfl
      simp only [List.getD_cons_zero, List.getD_cons_succ] at f2
      subst f2
      obtain rfl := HV.out.h2 rfl
      refine goes_ Try.func32 (by kernel_rfl) rfl #[.agg #[.int .i64 b0, .int .i64 b1, .int .i64 b2, .int .i64 q0, .int .u64 q1, .int .u64 q2, .int .i64 n0, .int .u64 n1, .int .u64 n2]] (by rfl) rfl rfl (by (try simp only [List.map_toArray, List.map_cons, List.map_nil]); rfl) ?_
      with_reducible refine (shunterlaw21_mine.calls b0 b1 b2 q0 q1 q2 n0 n1 n2 q0 q1 q2 n0 n1 n2 b1 b2 _ rfl).mono ?_
      rintro e w1 ⟨rfl, hb⟩
      refine ⟨_, rfl, ?_⟩
      exact hK _ _ ⟨c0, c1, true, true, c4, c5, c6, c7, _, _, _, _, _, _, rfl, (by simp only [Act.put, List.setIfInBounds_toArray, List.set_cons_zero, List.set_cons_succ]), { HV.out.step hb with h3 := fun _ => rfl }⟩
    · simp only [List.getElem?_toArray, List.getElem?_cons_succ, List.getElem?_cons_zero, Option.some.injEq] at ho
      subst ho
      have hb : Below W.heap.size W (W.alloc (.cells #[.int .i64 0, .int .u64 0, .int .u64 0, .int .i64 0, .int .u64 0, .int .u64 0, .int .i64 0, .int .i64 0] 59 (0, 0))) := below_alloc (Below.refl _ _) _
      refine value_ (w1 := W.alloc (.cells #[.int .i64 0, .int .u64 0, .int .u64 0, .int .i64 0, .int .u64 0, .int .u64 0, .int .i64 0, .int .i64 0] 59 (0, 0))) (v := .pointer (some ⟨W.heap.size, 0, none⟩)) (by rfl) rfl ?_ ?_
      · go_simp
        try rfl
      simp only [List.getD_cons_zero, List.getD_cons_succ] at h0
      subst h0
      have n6 : c6 = false := by cases hc : c6 with
        | false => rfl
        | true => have := HV.out.o6 hc; simp at this
      subst n6
      exact hK _ _ ⟨c0, c1, c2, c3, true, c5, false, c7, _, _, _, _, _, _, rfl, (by simp only [Act.put, List.setIfInBounds_toArray, List.set_cons_zero, List.set_cons_succ]), { HV.out.step hb with h4 := fun _ => ⟨_, _, rfl, below_size HV.out.bx.below, blk_new _ _, fun h => by simp at h, fun _ => rfl⟩, hne := fun _ h e => by obtain ⟨g, cs, e1, _, e2, _⟩ := HV.out.h5 h; rw [e1] at e; injection e with e; injection e with e; injection e with e; have := blk_lt e2; omega, o6 := fun h => by simp at h }⟩
    · simp only [List.getElem?_toArray, List.getElem?_cons_succ, List.getElem?_cons_zero, Option.some.injEq] at ho
      subst ho
      have hb : Below W.heap.size W (W.alloc (.cells #[.int .i64 0, .int .u64 0, .int .u64 0, .int .i64 0, .int .u64 0, .int .u64 0, .int .i64 0, .int .i64 0] 59 (0, 0))) := below_alloc (Below.refl _ _) _
      refine value_ (w1 := W.alloc (.cells #[.int .i64 0, .int .u64 0, .int .u64 0, .int .i64 0, .int .u64 0, .int .u64 0, .int .i64 0, .int .i64 0] 59 (0, 0))) (v := .pointer (some ⟨W.heap.size, 0, none⟩)) (by rfl) rfl ?_ ?_
      · go_simp
        try rfl
      simp only [List.getD_cons_zero, List.getD_cons_succ] at h0
      subst h0
      have n6 : c7 = false := by cases hc : c7 with
        | false => rfl
        | true => have := HV.out.o7 hc; simp at this
      subst n6
      exact hK _ _ ⟨c0, c1, c2, c3, c4, true, c6, false, _, _, _, _, _, _, rfl, (by simp only [Act.put, List.setIfInBounds_toArray, List.set_cons_zero, List.set_cons_succ]), { HV.out.step hb with h5 := fun _ => ⟨_, _, rfl, below_size HV.out.bx.below, blk_new _ _, fun h => by simp at h, fun _ => rfl⟩, hne := fun h _ e => by obtain ⟨g, cs, e1, _, e2, _⟩ := HV.out.h4 h; rw [e1] at e; injection e with e; injection e with e; injection e with e; have := blk_lt e2; omega, o7 := fun h => by simp at h }⟩
    · simp only [List.getElem?_toArray, List.getElem?_cons_succ, List.getElem?_cons_zero, Option.some.injEq] at ho
      subst ho
      have f4 := hall ⟨4, .phase⟩ (by simp) rfl
      have f5 := hall ⟨5, .phase⟩ (by simp) rfl
      have f1 := hall ⟨1, .phase⟩ (by simp) rfl
      simp only [List.getD_cons_zero, List.getD_cons_succ] at f4 f5 f1 h0
      subst f4
      subst f5
      subst f1
      subst h0
      obtain rfl := HV.out.h1 rfl
      obtain ⟨g7, s7, rfl, j7, k7, y7, z7⟩ := HV.out.h4 rfl
      obtain ⟨g8, s8, rfl, j8, k8, y8, z8⟩ := HV.out.h5 rfl
      have hne : g7 ≠ g8 := fun e => HV.out.hne rfl rfl (by rw [e])
      obtain rfl := z7 rfl
      have x0 := blk_cell k7 0
      have x1 := blk_cell k7 1
      have x2 := blk_cell k7 2
      have x3 := blk_cell k7 3
      have x4 := blk_cell k7 4
      have x5 := blk_cell k7 5
      have x6 := blk_cell k7 6
      have x7 := blk_cell k7 7
      simp only [List.getElem?_toArray, List.getElem?_cons_succ, List.getElem?_cons_zero] at x0 x1 x2 x3 x4 x5 x6 x7
      have y_0 := blk_frozen k7 0
      have y_1 := blk_frozen k7 1
      have y_2 := blk_frozen k7 2
      have y_3 := blk_frozen k7 3
      have y_4 := blk_frozen k7 4
      have y_5 := blk_frozen k7 5
      have y_6 := blk_frozen k7 6
      have y_7 := blk_frozen k7 7
      refine skip_ (w1 := set8 W g7 (.int .i64 p0) (.int .u64 p1) (.int .u64 p2) (.int .i64 m0) (.int .u64 m1) (.int .u64 m2) (.int .i64 a1) (.int .i64 a2)) (by rfl) rfl ?_ ?_
      · go_simp
        try rfl
      exact hK _ _ ⟨c0, true, c2, c3, true, true, true, c7, _, _, _, _, _, _, rfl, rfl, { HV.out with bx := HV.out.bx.set8 k7 (by decide) (by decide) (by decide) j7 .., h4 := fun _ => ⟨_, _, rfl, j7, set8_blk k7 .., fun _ => rfl, fun h => by simp at h⟩, h5 := fun _ => ⟨_, _, rfl, j8, (set8_far hne.symm ..).trans k8, y8, z8⟩, o6 := fun _ => rfl }⟩
    · simp only [List.getElem?_toArray, List.getElem?_cons_succ, List.getElem?_cons_zero, Option.some.injEq] at ho
      subst ho
      have f4 := hall ⟨4, .phase⟩ (by simp) rfl
      have f5 := hall ⟨5, .phase⟩ (by simp) rfl
      have f1 := hall ⟨1, .phase⟩ (by simp) rfl
      have f3 := hall ⟨3, .phase⟩ (by simp) rfl
      simp only [List.getD_cons_zero, List.getD_cons_succ] at f4 f5 f1 f3 h0
      subst f4
      subst f5
      subst f1
      subst f3
      subst h0
      obtain rfl := HV.out.h3 rfl
      obtain ⟨g7, s7, rfl, j7, k7, y7, z7⟩ := HV.out.h4 rfl
      obtain ⟨g8, s8, rfl, j8, k8, y8, z8⟩ := HV.out.h5 rfl
      have hne : g7 ≠ g8 := fun e => HV.out.hne rfl rfl (by rw [e])
      obtain rfl := z8 rfl
      have x0 := blk_cell k8 0
      have x1 := blk_cell k8 1
      have x2 := blk_cell k8 2
      have x3 := blk_cell k8 3
      have x4 := blk_cell k8 4
      have x5 := blk_cell k8 5
      have x6 := blk_cell k8 6
      have x7 := blk_cell k8 7
      simp only [List.getElem?_toArray, List.getElem?_cons_succ, List.getElem?_cons_zero] at x0 x1 x2 x3 x4 x5 x6 x7
      have y_0 := blk_frozen k8 0
      have y_1 := blk_frozen k8 1
      have y_2 := blk_frozen k8 2
      have y_3 := blk_frozen k8 3
      have y_4 := blk_frozen k8 4
      have y_5 := blk_frozen k8 5
      have y_6 := blk_frozen k8 6
      have y_7 := blk_frozen k8 7
      refine skip_ (w1 := set8 W g8 (.int .i64 q0) (.int .u64 q1) (.int .u64 q2) (.int .i64 n0) (.int .u64 n1) (.int .u64 n2) (.int .i64 b1) (.int .i64 b2)) (by rfl) rfl ?_ ?_
      · go_simp
        try rfl
      exact hK _ _ ⟨c0, true, c2, true, true, true, c6, true, _, _, _, _, _, _, rfl, rfl, { HV.out with bx := HV.out.bx.set8 k8 (by decide) (by decide) (by decide) j8 .., h5 := fun _ => ⟨_, _, rfl, j8, set8_blk k8 .., fun _ => rfl, fun h => by simp at h⟩, h4 := fun _ => ⟨_, _, rfl, j7, (set8_far hne ..).trans k7, y7, z7⟩, o7 := fun _ => rfl }⟩
    · simp at ho
  case fin =>
    intro l ac W hl hI hr
    obtain ⟨c0, c1, c2, c3, c4, c5, c6, c7, t7, t8, t18, t19, t20, t21, rfl, rfl, hv⟩ := hI
    have key : ∀ c0 c1 c2 c3 c4 c5 c6 c7 : Bool, Region.ready .any (opsOf Try.f8 1) [c0, c1, c2, c3, c4, c5, c6, c7].toArray = [] → (c0 && c1 && c2 && c3 && c4 && c5 && c6 && c7) = true := by decide +kernel
    have hk := key _ _ _ _ _ _ _ _ hr
    clear key hr
    simp only [Bool.and_eq_true] at hk
    obtain ⟨⟨⟨⟨⟨⟨⟨rfl, rfl⟩, rfl⟩, rfl⟩, rfl⟩, rfl⟩, rfl⟩, rfl⟩ := hk
    obtain rfl := hv.h0 rfl
    obtain rfl := hv.h1 rfl
    obtain rfl := hv.h2 rfl
    obtain rfl := hv.h3 rfl
    obtain ⟨g7, s7, rfl, j7, k7, y7, _⟩ := hv.h4 rfl
    obtain ⟨g8, s8, rfl, j8, k8, y8, _⟩ := hv.h5 rfl
    obtain rfl := y7 rfl
    obtain rfl := y8 rfl
    have HX := Aside0.mk hv.bx
    clear hv y7 y8 HB1 hl
    have u0 := blk_cell k7 0
    have u1 := blk_cell k7 1
    have u2 := blk_cell k7 2
    have u3 := blk_cell k7 3
    have u4 := blk_cell k7 4
    have u5 := blk_cell k7 5
    have u6 := blk_cell k7 6
    have u7 := blk_cell k7 7
    have v0 := blk_cell k8 0
    have v1 := blk_cell k8 1
    have v2 := blk_cell k8 2
    have v3 := blk_cell k8 3
    have v4 := blk_cell k8 4
    have v5 := blk_cell k8 5
    have v6 := blk_cell k8 6
    have v7 := blk_cell k8 7
    simp only [List.getElem?_toArray, List.getElem?_cons_succ, List.getElem?_cons_zero] at u0 u1 u2 u3 u4 u5 u6 u7 v0 v1 v2 v3 v4 v5 v6 v7
    have x3 := blk_cell HX.out.b0 3
    have x4 := blk_cell HX.out.b0 4
    have x5 := blk_cell HX.out.b0 5
    have x6 := blk_cell HX.out.b0 6
    have x7 := blk_cell HX.out.b0 7
    have x8 := blk_cell HX.out.b0 8
    have y3 := blk_cell HX.out.b1 3
    have y4 := blk_cell HX.out.b1 4
    have y5 := blk_cell HX.out.b1 5
    have y6 := blk_cell HX.out.b1 6
    have y7 := blk_cell HX.out.b1 7
    have y8 := blk_cell HX.out.b1 8
    have z0 := blk_cell HX.out.b2 0
    have z1 := blk_cell HX.out.b2 1
    have z2 := blk_cell HX.out.b2 2
    simp only [List.getElem?_toArray, List.getElem?_cons_succ, List.getElem?_cons_zero] at x3 x4 x5 x6 x7 x8 y3 y4 y5 y6 y7 y8 z0 z1 z2
    have HGo := HG.out
    go_upto_region 3 with (first | (go_at_call 33; with_reducible refine (tern_Shadowed.calls 1 p0 p1 p2 m0 m1 m2 a1 a2 q0 q1 q2 n0 n1 n2 b1 b2 G _ HG.out).mono ?_; rintro e w1 ⟨rfl, hb⟩; have HY := Aside0.mk (HX.out.step hb); clear HX; (try clear x3 x4 x5 x6 x7 x8 y3 y4 y5 y6 y7 y8 z0 z1 z2); have HX := Aside0.mk HY.out; clear HY; have x3 := blk_cell HX.out.b0 3; have x4 := blk_cell HX.out.b0 4; have x5 := blk_cell HX.out.b0 5; have x6 := blk_cell HX.out.b0 6; have x7 := blk_cell HX.out.b0 7; have x8 := blk_cell HX.out.b0 8; have y3 := blk_cell HX.out.b1 3; have y4 := blk_cell HX.out.b1 4; have y5 := blk_cell HX.out.b1 5; have y6 := blk_cell HX.out.b1 6; have y7 := blk_cell HX.out.b1 7; have y8 := blk_cell HX.out.b1 8; have z0 := blk_cell HX.out.b2 0; have z1 := blk_cell HX.out.b2 1; have z2 := blk_cell HX.out.b2 2; simp only [List.getElem?_toArray, List.getElem?_cons_succ, List.getElem?_cons_zero] at x3 x4 x5 x6 x7 x8 y3 y4 y5 y6 y7 y8 z0 z1 z2; clear hb))
    clear k7 k8 u0 u1 u2 u3 u4 u5 u6 u7 v0 v1 v2 v3 v4 v5 v6 v7 HGo
    rcases HS.out with ⟨rfl, h1⟩ | h2
    · clear HS
      rcases h1 with rfl | ⟨rfl, rfl⟩ | ⟨rfl, rfl, hpq⟩
      · go_wp2_with (first | (go_at_call 34; with_reducible refine (shunterref21_Inside.calls p0 p1 p2 m0 m1 m2 false _ HA.out).mono ?_; rintro e w1 ⟨rfl, hb⟩; have HY := Aside0.mk (HX.out.step hb); clear HX; (try clear x3 x4 x5 x6 x7 x8 y3 y4 y5 y6 y7 y8 z0 z1 z2); have HX := Aside0.mk HY.out; clear HY; have x3 := blk_cell HX.out.b0 3; have x4 := blk_cell HX.out.b0 4; have x5 := blk_cell HX.out.b0 5; have x6 := blk_cell HX.out.b0 6; have x7 := blk_cell HX.out.b0 7; have x8 := blk_cell HX.out.b0 8; have y3 := blk_cell HX.out.b1 3; have y4 := blk_cell HX.out.b1 4; have y5 := blk_cell HX.out.b1 5; have y6 := blk_cell HX.out.b1 6; have y7 := blk_cell HX.out.b1 7; have y8 := blk_cell HX.out.b1 8; have z0 := blk_cell HX.out.b2 0; have z1 := blk_cell HX.out.b2 1; have z2 := blk_cell HX.out.b2 2; simp only [List.getElem?_toArray, List.getElem?_cons_succ, List.getElem?_cons_zero] at x3 x4 x5 x6 x7 x8 y3 y4 y5 y6 y7 y8 z0 z1 z2; clear hb) | (go_at_call 35; with_reducible refine (lives_calls _).mono ?_; rintro e w1 ⟨rfl, hb⟩; have HY := Aside0.mk (HX.out.step hb); clear HX; (try clear x3 x4 x5 x6 x7 x8 y3 y4 y5 y6 y7 y8 z0 z1 z2); have HX := Aside0.mk HY.out; clear HY; have x3 := blk_cell HX.out.b0 3; have x4 := blk_cell HX.out.b0 4; have x5 := blk_cell HX.out.b0 5; have x6 := blk_cell HX.out.b0 6; have x7 := blk_cell HX.out.b0 7; have x8 := blk_cell HX.out.b0 8; have y3 := blk_cell HX.out.b1 3; have y4 := blk_cell HX.out.b1 4; have y5 := blk_cell HX.out.b1 5; have y6 := blk_cell HX.out.b1 6; have y7 := blk_cell HX.out.b1 7; have y8 := blk_cell HX.out.b1 8; have z0 := blk_cell HX.out.b2 0; have z1 := blk_cell HX.out.b2 1; have z2 := blk_cell HX.out.b2 2; simp only [List.getElem?_toArray, List.getElem?_cons_succ, List.getElem?_cons_zero] at x3 x4 x5 x6 x7 x8 y3 y4 y5 y6 y7 y8 z0 z1 z2; clear hb))
        go_ret
        exact ⟨rfl, HX.out.below⟩
      · go_wp2_with (first | (go_at_call 34; with_reducible refine (shunterref21_Inside.calls p0 p1 p2 m0 m1 m2 true _ HA.out).mono ?_; rintro e w1 ⟨rfl, hb⟩; have HY := Aside0.mk (HX.out.step hb); clear HX; (try clear x3 x4 x5 x6 x7 x8 y3 y4 y5 y6 y7 y8 z0 z1 z2); have HX := Aside0.mk HY.out; clear HY; have x3 := blk_cell HX.out.b0 3; have x4 := blk_cell HX.out.b0 4; have x5 := blk_cell HX.out.b0 5; have x6 := blk_cell HX.out.b0 6; have x7 := blk_cell HX.out.b0 7; have x8 := blk_cell HX.out.b0 8; have y3 := blk_cell HX.out.b1 3; have y4 := blk_cell HX.out.b1 4; have y5 := blk_cell HX.out.b1 5; have y6 := blk_cell HX.out.b1 6; have y7 := blk_cell HX.out.b1 7; have y8 := blk_cell HX.out.b1 8; have z0 := blk_cell HX.out.b2 0; have z1 := blk_cell HX.out.b2 1; have z2 := blk_cell HX.out.b2 2; simp only [List.getElem?_toArray, List.getElem?_cons_succ, List.getElem?_cons_zero] at x3 x4 x5 x6 x7 x8 y3 y4 y5 y6 y7 y8 z0 z1 z2; clear hb) | (go_at_call 34; with_reducible refine (shunterref21_Inside.calls q0 q1 q2 n0 n1 n2 false _ HBi.out).mono ?_; rintro e w1 ⟨rfl, hb⟩; have HY := Aside0.mk (HX.out.step hb); clear HX; (try clear x3 x4 x5 x6 x7 x8 y3 y4 y5 y6 y7 y8 z0 z1 z2); have HX := Aside0.mk HY.out; clear HY; have x3 := blk_cell HX.out.b0 3; have x4 := blk_cell HX.out.b0 4; have x5 := blk_cell HX.out.b0 5; have x6 := blk_cell HX.out.b0 6; have x7 := blk_cell HX.out.b0 7; have x8 := blk_cell HX.out.b0 8; have y3 := blk_cell HX.out.b1 3; have y4 := blk_cell HX.out.b1 4; have y5 := blk_cell HX.out.b1 5; have y6 := blk_cell HX.out.b1 6; have y7 := blk_cell HX.out.b1 7; have y8 := blk_cell HX.out.b1 8; have z0 := blk_cell HX.out.b2 0; have z1 := blk_cell HX.out.b2 1; have z2 := blk_cell HX.out.b2 2; simp only [List.getElem?_toArray, List.getElem?_cons_succ, List.getElem?_cons_zero] at x3 x4 x5 x6 x7 x8 y3 y4 y5 y6 y7 y8 z0 z1 z2; clear hb) | (go_at_call 35; with_reducible refine (lives_calls _).mono ?_; rintro e w1 ⟨rfl, hb⟩; have HY := Aside0.mk (HX.out.step hb); clear HX; (try clear x3 x4 x5 x6 x7 x8 y3 y4 y5 y6 y7 y8 z0 z1 z2); have HX := Aside0.mk HY.out; clear HY; have x3 := blk_cell HX.out.b0 3; have x4 := blk_cell HX.out.b0 4; have x5 := blk_cell HX.out.b0 5; have x6 := blk_cell HX.out.b0 6; have x7 := blk_cell HX.out.b0 7; have x8 := blk_cell HX.out.b0 8; have y3 := blk_cell HX.out.b1 3; have y4 := blk_cell HX.out.b1 4; have y5 := blk_cell HX.out.b1 5; have y6 := blk_cell HX.out.b1 6; have y7 := blk_cell HX.out.b1 7; have y8 := blk_cell HX.out.b1 8; have z0 := blk_cell HX.out.b2 0; have z1 := blk_cell HX.out.b2 1; have z2 := blk_cell HX.out.b2 2; simp only [List.getElem?_toArray, List.getElem?_cons_succ, List.getElem?_cons_zero] at x3 x4 x5 x6 x7 x8 y3 y4 y5 y6 y7 y8 z0 z1 z2; clear hb))
        go_ret
        exact ⟨rfl, HX.out.below⟩
      · go_wp2_with (first | (go_at_call 34; with_reducible refine (shunterref21_Inside.calls p0 p1 p2 m0 m1 m2 true _ HA.out).mono ?_; rintro e w1 ⟨rfl, hb⟩; have HY := Aside0.mk (HX.out.step hb); clear HX; (try clear x3 x4 x5 x6 x7 x8 y3 y4 y5 y6 y7 y8 z0 z1 z2); have HX := Aside0.mk HY.out; clear HY; have x3 := blk_cell HX.out.b0 3; have x4 := blk_cell HX.out.b0 4; have x5 := blk_cell HX.out.b0 5; have x6 := blk_cell HX.out.b0 6; have x7 := blk_cell HX.out.b0 7; have x8 := blk_cell HX.out.b0 8; have y3 := blk_cell HX.out.b1 3; have y4 := blk_cell HX.out.b1 4; have y5 := blk_cell HX.out.b1 5; have y6 := blk_cell HX.out.b1 6; have y7 := blk_cell HX.out.b1 7; have y8 := blk_cell HX.out.b1 8; have z0 := blk_cell HX.out.b2 0; have z1 := blk_cell HX.out.b2 1; have z2 := blk_cell HX.out.b2 2; simp only [List.getElem?_toArray, List.getElem?_cons_succ, List.getElem?_cons_zero] at x3 x4 x5 x6 x7 x8 y3 y4 y5 y6 y7 y8 z0 z1 z2; clear hb) | (go_at_call 34; with_reducible refine (shunterref21_Inside.calls q0 q1 q2 n0 n1 n2 true _ HBi.out).mono ?_; rintro e w1 ⟨rfl, hb⟩; have HY := Aside0.mk (HX.out.step hb); clear HX; (try clear x3 x4 x5 x6 x7 x8 y3 y4 y5 y6 y7 y8 z0 z1 z2); have HX := Aside0.mk HY.out; clear HY; have x3 := blk_cell HX.out.b0 3; have x4 := blk_cell HX.out.b0 4; have x5 := blk_cell HX.out.b0 5; have x6 := blk_cell HX.out.b0 6; have x7 := blk_cell HX.out.b0 7; have x8 := blk_cell HX.out.b0 8; have y3 := blk_cell HX.out.b1 3; have y4 := blk_cell HX.out.b1 4; have y5 := blk_cell HX.out.b1 5; have y6 := blk_cell HX.out.b1 6; have y7 := blk_cell HX.out.b1 7; have y8 := blk_cell HX.out.b1 8; have z0 := blk_cell HX.out.b2 0; have z1 := blk_cell HX.out.b2 1; have z2 := blk_cell HX.out.b2 2; simp only [List.getElem?_toArray, List.getElem?_cons_succ, List.getElem?_cons_zero] at x3 x4 x5 x6 x7 x8 y3 y4 y5 y6 y7 y8 z0 z1 z2; clear hb) | (go_at_call 35; with_reducible refine (lives_calls _).mono ?_; rintro e w1 ⟨rfl, hb⟩; have HY := Aside0.mk (HX.out.step hb); clear HX; (try clear x3 x4 x5 x6 x7 x8 y3 y4 y5 y6 y7 y8 z0 z1 z2); have HX := Aside0.mk HY.out; clear HY; have x3 := blk_cell HX.out.b0 3; have x4 := blk_cell HX.out.b0 4; have x5 := blk_cell HX.out.b0 5; have x6 := blk_cell HX.out.b0 6; have x7 := blk_cell HX.out.b0 7; have x8 := blk_cell HX.out.b0 8; have y3 := blk_cell HX.out.b1 3; have y4 := blk_cell HX.out.b1 4; have y5 := blk_cell HX.out.b1 5; have y6 := blk_cell HX.out.b1 6; have y7 := blk_cell HX.out.b1 7; have y8 := blk_cell HX.out.b1 8; have z0 := blk_cell HX.out.b2 0; have z1 := blk_cell HX.out.b2 1; have z2 := blk_cell HX.out.b2 2; simp only [List.getElem?_toArray, List.getElem?_cons_succ, List.getElem?_cons_zero] at x3 x4 x5 x6 x7 x8 y3 y4 y5 y6 y7 y8 z0 z1 z2; clear hb))
        go_ret
        exact ⟨rfl, HX.out.below⟩
    · clear HS
      obtain ⟨rfl, rfl, hpq, hGw, hn, hn0, bp, bq, bm, bb, hof, hmm, hkb, hka, himp⟩ := h2
      have BP := Aside0.mk bp
      have BQ := Aside0.mk bq
      have BM := Aside0.mk bm
      have BB := Aside0.mk bb
      have HOF := Aside0.mk hof
      have HMM := Aside0.mk hmm
      have HKB := Aside0.mk hkb
      have HKA := Aside0.mk hka
      have HIMP := Aside0.mk himp
      have HGW := Aside0.mk hGw
      clear bp bq bm bb hof hmm hkb hka himp hGw
      go_upto_region 5 with (first | (go_at_call 34; with_reducible refine (shunterref21_Inside.calls p0 p1 p2 m0 m1 m2 true _ HA.out).mono ?_; rintro e w1 ⟨rfl, hb⟩; have HY := Aside0.mk (HX.out.step hb); clear HX; (try clear x3 x4 x5 x6 x7 x8 y3 y4 y5 y6 y7 y8 z0 z1 z2); have HX := Aside0.mk HY.out; clear HY; have x3 := blk_cell HX.out.b0 3; have x4 := blk_cell HX.out.b0 4; have x5 := blk_cell HX.out.b0 5; have x6 := blk_cell HX.out.b0 6; have x7 := blk_cell HX.out.b0 7; have x8 := blk_cell HX.out.b0 8; have y3 := blk_cell HX.out.b1 3; have y4 := blk_cell HX.out.b1 4; have y5 := blk_cell HX.out.b1 5; have y6 := blk_cell HX.out.b1 6; have y7 := blk_cell HX.out.b1 7; have y8 := blk_cell HX.out.b1 8; have z0 := blk_cell HX.out.b2 0; have z1 := blk_cell HX.out.b2 1; have z2 := blk_cell HX.out.b2 2; simp only [List.getElem?_toArray, List.getElem?_cons_succ, List.getElem?_cons_zero] at x3 x4 x5 x6 x7 x8 y3 y4 y5 y6 y7 y8 z0 z1 z2; clear hb) | (go_at_call 34; with_reducible refine (shunterref21_Inside.calls q0 q1 q2 n0 n1 n2 true _ HBi.out).mono ?_; rintro e w1 ⟨rfl, hb⟩; have HY := Aside0.mk (HX.out.step hb); clear HX; (try clear x3 x4 x5 x6 x7 x8 y3 y4 y5 y6 y7 y8 z0 z1 z2); have HX := Aside0.mk HY.out; clear HY; have x3 := blk_cell HX.out.b0 3; have x4 := blk_cell HX.out.b0 4; have x5 := blk_cell HX.out.b0 5; have x6 := blk_cell HX.out.b0 6; have x7 := blk_cell HX.out.b0 7; have x8 := blk_cell HX.out.b0 8; have y3 := blk_cell HX.out.b1 3; have y4 := blk_cell HX.out.b1 4; have y5 := blk_cell HX.out.b1 5; have y6 := blk_cell HX.out.b1 6; have y7 := blk_cell HX.out.b1 7; have y8 := blk_cell HX.out.b1 8; have z0 := blk_cell HX.out.b2 0; have z1 := blk_cell HX.out.b2 1; have z2 := blk_cell HX.out.b2 2; simp only [List.getElem?_toArray, List.getElem?_cons_succ, List.getElem?_cons_zero] at x3 x4 x5 x6 x7 x8 y3 y4 y5 y6 y7 y8 z0 z1 z2; clear hb))
      have HY := Aside0.mk HX.out.drew; clear HX x3 x4 x5 x6 x7 x8 y3 y4 y5 y6 y7 y8 z0 z1 z2
      refine start_ (n := 16) (S := fun w' => BX3 w w' (.cells #[.int .i64 a0, .int .i64 a1, .int .i64 a2, .int .i64 p0, .int .u64 p1, .int .u64 p2, .int .i64 m0, .int .u64 m1, .int .u64 m2] 57 (0, 0)) (.cells #[.int .i64 b0, .int .i64 b1, .int .i64 b2, .int .i64 q0, .int .u64 q1, .int .u64 q2, .int .i64 n0, .int .u64 n1, .int .u64 n2] 57 (0, 0)) (.cells #[.int .i64 k0, .int .u64 k1, .int .u64 k2] 32 (0, 0))) (ds := []) #[false, false, false, false, false, false, false, false, false, false, false, false, false, false, false, false] (by kernel_rfl) rfl rfl HY.out (fun hHeld => ?_)
      generalize World.drew _ = W5 at HY hHeld ⊢
      refine pure_ (i := 0) (N := some 53) (v := ?_) (a' := ?_) #[true, false, false, false, false, false, false, false, false, false, false, false, false, false, false, false] rfl rfl (by kernel_rfl) (fun _ _ _ h => h) (Or.inl ⟨by rfl, ?_⟩) ?_ ?_
      rotate_left
      · intro w'
        go_simp
        with_reducible rfl
      rotate_left
      · simp only [Act.put, List.setIfInBounds_toArray, List.set_cons_zero, List.set_cons_succ, i64_w, i32_w]
        rfl
      refine take_ (i := 1) (N := some 54) (v := ?_) (a' := ?_) #[true, true, false, false, false, false, false, false, false, false, false, false, false, false, false, false] rfl rfl (by kernel_rfl) (fun _ _ _ h => h) (Or.inl ⟨by rfl, ?_⟩) hHeld ?_ ?_
      rotate_left
      · intro w' hs
        have x3 := blk_cell hs.b0 3
        have x4 := blk_cell hs.b0 4
        have x5 := blk_cell hs.b0 5
        simp only [List.getElem?_toArray, List.getElem?_cons_succ, List.getElem?_cons_zero] at x3 x4 x5
        go_simp
        with_reducible rfl
      rotate_left
      · simp only [Act.put, List.setIfInBounds_toArray, List.set_cons_zero, List.set_cons_succ, i64_w, i32_w]
        rfl
      refine pure_ (i := 3) (N := some 56) (v := ?_) (a' := ?_) #[true, true, false, true, false, false, false, false, false, false, false, false, false, false, false, false] rfl rfl (by kernel_rfl) (fun _ _ _ h => h) (Or.inl ⟨by rfl, ?_⟩) ?_ ?_
      rotate_left
      · intro w'
        go_simp
        with_reducible rfl
      rotate_left
      · simp only [Act.put, List.setIfInBounds_toArray, List.set_cons_zero, List.set_cons_succ, i64_w, i32_w]
        rfl
      refine take_ (i := 4) (N := some 57) (v := ?_) (a' := ?_) #[true, true, false, true, true, false, false, false, false, false, false, false, false, false, false, false] rfl rfl (by kernel_rfl) (fun _ _ _ h => h) (Or.inl ⟨by rfl, ?_⟩) hHeld ?_ ?_
      rotate_left
      · intro w' hs
        have x3 := blk_cell hs.b1 3
        have x4 := blk_cell hs.b1 4
        have x5 := blk_cell hs.b1 5
        simp only [List.getElem?_toArray, List.getElem?_cons_succ, List.getElem?_cons_zero] at x3 x4 x5
        go_simp
        with_reducible rfl
      rotate_left
      · simp only [Act.put, List.setIfInBounds_toArray, List.set_cons_zero, List.set_cons_succ, i64_w, i32_w]
        rfl
      refine pure_ (i := 6) (N := some 59) (v := ?_) (a' := ?_) #[true, true, false, true, true, false, true, false, false, false, false, false, false, false, false, false] rfl rfl (by kernel_rfl) (fun _ _ _ h => h) (Or.inl ⟨by rfl, ?_⟩) ?_ ?_
      rotate_left
      · intro w'
        go_simp
        with_reducible rfl
      rotate_left
      · simp only [Act.put, List.setIfInBounds_toArray, List.set_cons_zero, List.set_cons_succ, i64_w, i32_w]
        rfl
      refine take_ (i := 7) (N := some 60) (v := ?_) (a' := ?_) #[true, true, false, true, true, false, true, true, false, false, false, false, false, false, false, false] rfl rfl (by kernel_rfl) (fun _ _ _ h => h) (Or.inl ⟨by rfl, ?_⟩) hHeld ?_ ?_
      rotate_left
      · intro w' hs
        have x6 := blk_cell hs.b0 6
        have x7 := blk_cell hs.b0 7
        have x8 := blk_cell hs.b0 8
        simp only [List.getElem?_toArray, List.getElem?_cons_succ, List.getElem?_cons_zero] at x6 x7 x8
        go_simp
        with_reducible rfl
      rotate_left
      · simp only [Act.put, List.setIfInBounds_toArray, List.set_cons_zero, List.set_cons_succ, i64_w, i32_w]
        rfl
      refine pure_ (i := 9) (N := some 62) (v := ?_) (a' := ?_) #[true, true, false, true, true, false, true, true, false, true, false, false, false, false, false, false] rfl rfl (by kernel_rfl) (fun _ _ _ h => h) (Or.inl ⟨by rfl, ?_⟩) ?_ ?_
      rotate_left
      · intro w'
        go_simp
        with_reducible rfl
      rotate_left
      · simp only [Act.put, List.setIfInBounds_toArray, List.set_cons_zero, List.set_cons_succ, i64_w, i32_w]
        rfl
      refine take_ (i := 10) (N := some 63) (v := ?_) (a' := ?_) #[true, true, false, true, true, false, true, true, false, true, true, false, false, false, false, false] rfl rfl (by kernel_rfl) (fun _ _ _ h => h) (Or.inl ⟨by rfl, ?_⟩) hHeld ?_ ?_
      rotate_left
      · intro w' hs
        have x6 := blk_cell hs.b1 6
        have x7 := blk_cell hs.b1 7
        have x8 := blk_cell hs.b1 8
        simp only [List.getElem?_toArray, List.getElem?_cons_succ, List.getElem?_cons_zero] at x6 x7 x8
        go_simp
        with_reducible rfl
      rotate_left
      · simp only [Act.put, List.setIfInBounds_toArray, List.set_cons_zero, List.set_cons_succ, i64_w, i32_w]
        rfl
      refine one_ (i := 2) (N := some 55) #[true, true, true, true, true, false, true, true, false, true, true, false, false, false, false, false] rfl rfl (by kernel_rfl) (by decide) (fun K hK => ?_)
      refine goes_ Try.func36 (by kernel_rfl) rfl #[.agg #[.int .i64 p0, .int .u64 p1, .int .u64 p2]] (by rfl) rfl rfl (by simp only [List.map_toArray, List.map_cons, List.map_nil]; rfl) ?_
      with_reducible refine (shunterref02_Bits.calls p0 p1 p2 _ _ BP.out).mono ?_
      rintro e w1 ⟨v0, rfl, hR, hb⟩
      refine ⟨_, rfl, ?_⟩
      obtain ⟨Ap, cp, e0⟩ := Kd.R_slice hR
      rw [bitsN_length] at e0
      subst e0
      have Rp := Aside0.mk (show ∃ B0, Kd.R Kd.bool 4 w1 B0 (fun _ => True) (.slice Ap n cp) (bitsN P n) from ⟨_, hR⟩)
      have HX := Aside0.mk (HY.out.step hb)
      clear hR hb HY
      have HY := Aside0.mk HX.out
      clear HX
      refine hK.out _ _ HY.out (fun hHeld => ?_)
      clear hK K
      refine norm_ (a' := ?_) ?_ ?_
      rotate_left
      · show Act.put _ (some 55) _ = _
        simp only [Act.put, List.setIfInBounds_toArray, List.set_cons_zero, List.set_cons_succ, i64_w, i32_w]
        rfl
      refine one_ (i := 5) (N := some 58) #[true, true, true, true, true, true, true, true, false, true, true, false, false, false, false, false] rfl rfl (by kernel_rfl) (by decide) (fun K hK => ?_)
      refine goes_ Try.func36 (by kernel_rfl) rfl #[.agg #[.int .i64 q0, .int .u64 q1, .int .u64 q2]] (by rfl) rfl rfl (by simp only [List.map_toArray, List.map_cons, List.map_nil]; rfl) ?_
      with_reducible refine (shunterref02_Bits.calls q0 q1 q2 _ _ BQ.out).mono ?_
      rintro e w1 ⟨v0, rfl, hR, hb⟩
      refine ⟨_, rfl, ?_⟩
      obtain ⟨Aq, cq, e0⟩ := Kd.R_slice hR
      rw [bitsN_length] at e0
      subst e0
      have Rq := Aside0.mk (show ∃ B0, Kd.R Kd.bool 4 w1 B0 (fun _ => True) (.slice Aq n cq) (bitsN Q n) from ⟨_, hR⟩)
      have R_ := Aside0.mk (Rp.out.imp fun _ x => Kd.R_below x hb)
      clear Rp
      have Rp := Aside0.mk R_.out
      clear R_
      have HX := Aside0.mk (HY.out.step hb)
      clear hR hb HY
      have HY := Aside0.mk HX.out
      clear HX
      refine hK.out _ _ HY.out (fun hHeld => ?_)
      clear hK K
      refine norm_ (a' := ?_) ?_ ?_
      rotate_left
      · show Act.put _ (some 58) _ = _
        simp only [Act.put, List.setIfInBounds_toArray, List.set_cons_zero, List.set_cons_succ, i64_w, i32_w]
        rfl
      refine one_ (i := 8) (N := some 61) #[true, true, true, true, true, true, true, true, true, true, true, false, false, false, false, false] rfl rfl (by kernel_rfl) (by decide) (fun K hK => ?_)
      refine goes_ Try.func36 (by kernel_rfl) rfl #[.agg #[.int .i64 m0, .int .u64 m1, .int .u64 m2]] (by rfl) rfl rfl (by simp only [List.map_toArray, List.map_cons, List.map_nil]; rfl) ?_
      with_reducible refine (shunterref02_Bits.calls m0 m1 m2 _ _ BM.out).mono ?_
      rintro e w1 ⟨v0, rfl, hR, hb⟩
      refine ⟨_, rfl, ?_⟩
      obtain ⟨Aa, ca, e0⟩ := Kd.R_slice hR
      rw [bitsN_length] at e0
      subst e0
      have Ra := Aside0.mk (show ∃ B0, Kd.R Kd.bool 4 w1 B0 (fun _ => True) (.slice Aa n ca) (bitsN MA n) from ⟨_, hR⟩)
      have R_ := Aside0.mk (Rp.out.imp fun _ x => Kd.R_below x hb)
      clear Rp
      have Rp := Aside0.mk R_.out
      clear R_
      have R_ := Aside0.mk (Rq.out.imp fun _ x => Kd.R_below x hb)
      clear Rq
      have Rq := Aside0.mk R_.out
      clear R_
      have HX := Aside0.mk (HY.out.step hb)
      clear hR hb HY
      have HY := Aside0.mk HX.out
      clear HX
      refine hK.out _ _ HY.out (fun hHeld => ?_)
      clear hK K
      refine norm_ (a' := ?_) ?_ ?_
      rotate_left
      · show Act.put _ (some 61) _ = _
        simp only [Act.put, List.setIfInBounds_toArray, List.set_cons_zero, List.set_cons_succ, i64_w, i32_w]
        rfl
      refine one_ (i := 11) (N := some 64) #[true, true, true, true, true, true, true, true, true, true, true, true, false, false, false, false] rfl rfl (by kernel_rfl) (by decide) (fun K hK => ?_)
      refine goes_ Try.func36 (by kernel_rfl) rfl #[.agg #[.int .i64 n0, .int .u64 n1, .int .u64 n2]] (by rfl) rfl rfl (by simp only [List.map_toArray, List.map_cons, List.map_nil]; rfl) ?_
      with_reducible refine (shunterref02_Bits.calls n0 n1 n2 _ _ BB.out).mono ?_
      rintro e w1 ⟨v0, rfl, hR, hb⟩
      refine ⟨_, rfl, ?_⟩
      obtain ⟨Ab, cb, e0⟩ := Kd.R_slice hR
      rw [bitsN_length] at e0
      subst e0
      have Rb := Aside0.mk (show ∃ B0, Kd.R Kd.bool 4 w1 B0 (fun _ => True) (.slice Ab n cb) (bitsN MB n) from ⟨_, hR⟩)
      have R_ := Aside0.mk (Rp.out.imp fun _ x => Kd.R_below x hb)
      clear Rp
      have Rp := Aside0.mk R_.out
      clear R_
      have R_ := Aside0.mk (Rq.out.imp fun _ x => Kd.R_below x hb)
      clear Rq
      have Rq := Aside0.mk R_.out
      clear R_
      have R_ := Aside0.mk (Ra.out.imp fun _ x => Kd.R_below x hb)
      clear Ra
      have Ra := Aside0.mk R_.out
      clear R_
      have HX := Aside0.mk (HY.out.step hb)
      clear hR hb HY
      have HY := Aside0.mk HX.out
      clear HX
      refine hK.out _ _ HY.out (fun hHeld => ?_)
      clear hK K
      refine norm_ (a' := ?_) ?_ ?_
      rotate_left
      · show Act.put _ (some 64) _ = _
        simp only [Act.put, List.setIfInBounds_toArray, List.set_cons_zero, List.set_cons_succ, i64_w, i32_w]
        rfl
      refine pure_ (i := 12) (N := some 10) (v := ?_) (a' := ?_) #[true, true, true, true, true, true, true, true, true, true, true, true, true, false, false, false] rfl rfl (by kernel_rfl) (fun _ _ _ h => h) (Or.inl ⟨by rfl, ?_⟩) ?_ ?_
      rotate_left
      · intro w'
        go_simp
        with_reducible rfl
      rotate_left
      · simp only [Act.put, List.setIfInBounds_toArray, List.set_cons_zero, List.set_cons_succ, i64_w, i32_w]
        rfl
      refine pure_ (i := 13) (N := some 11) (v := ?_) (a' := ?_) #[true, true, true, true, true, true, true, true, true, true, true, true, true, true, false, false] rfl rfl (by kernel_rfl) (fun _ _ _ h => h) (Or.inl ⟨by rfl, ?_⟩) ?_ ?_
      rotate_left
      · intro w'
        go_simp
        with_reducible rfl
      rotate_left
      · simp only [Act.put, List.setIfInBounds_toArray, List.set_cons_zero, List.set_cons_succ, i64_w, i32_w]
        rfl
      refine pure_ (i := 14) (N := some 12) (v := ?_) (a' := ?_) #[true, true, true, true, true, true, true, true, true, true, true, true, true, true, true, false] rfl rfl (by kernel_rfl) (fun _ _ _ h => h) (Or.inl ⟨by rfl, ?_⟩) ?_ ?_
      rotate_left
      · intro w'
        go_simp
        with_reducible rfl
      rotate_left
      · simp only [Act.put, List.setIfInBounds_toArray, List.set_cons_zero, List.set_cons_succ, i64_w, i32_w]
        rfl
      refine pure_ (i := 15) (N := some 13) (v := ?_) (a' := ?_) #[true, true, true, true, true, true, true, true, true, true, true, true, true, true, true, true] rfl rfl (by kernel_rfl) (fun _ _ _ h => h) (Or.inl ⟨by rfl, ?_⟩) ?_ ?_
      rotate_left
      · intro w'
        go_simp
        with_reducible rfl
      rotate_left
      · simp only [Act.put, List.setIfInBounds_toArray, List.set_cons_zero, List.set_cons_succ, i64_w, i32_w]
        rfl
      refine done_ (by kernel_rfl) ?_
      have HX := Aside0.mk HY.out
      clear HY hHeld
      have x3 := blk_cell HX.out.b0 3
      have x4 := blk_cell HX.out.b0 4
      have x5 := blk_cell HX.out.b0 5
      have x6 := blk_cell HX.out.b0 6
      have x7 := blk_cell HX.out.b0 7
      have x8 := blk_cell HX.out.b0 8
      have y3 := blk_cell HX.out.b1 3
      have y4 := blk_cell HX.out.b1 4
      have y5 := blk_cell HX.out.b1 5
      have y6 := blk_cell HX.out.b1 6
      have y7 := blk_cell HX.out.b1 7
      have y8 := blk_cell HX.out.b1 8
      have z0 := blk_cell HX.out.b2 0
      have z1 := blk_cell HX.out.b2 1
      have z2 := blk_cell HX.out.b2 2
      simp only [List.getElem?_toArray, List.getElem?_cons_succ, List.getElem?_cons_zero] at x3 x4 x5 x6 x7 x8 y3 y4 y5 y6 y7 y8 z0 z1 z2
      go_wp2_with (first | (go_at_call 36; with_reducible refine (shunterref02_Bits.calls q0 q1 q2 _ _ BQ.out).mono ?_; rintro e w6 ⟨v0, rfl, hR, hb⟩; obtain ⟨Af, cf, e0⟩ := Kd.R_slice hR; rw [bitsN_length] at e0; subst e0; obtain ⟨N, hNe⟩ : ∃ N, N = w1.heap.size := ⟨_, rfl⟩; rw [← hNe] at hR; have hrs : RS w w6 (.cells #[.int .i64 a0, .int .i64 a1, .int .i64 a2, .int .i64 p0, .int .u64 p1, .int .u64 p2, .int .i64 m0, .int .u64 m1, .int .u64 m2] 57 (0, 0)) (.cells #[.int .i64 b0, .int .i64 b1, .int .i64 b2, .int .i64 q0, .int .u64 q1, .int .u64 q2, .int .i64 n0, .int .u64 n1, .int .u64 n2] 57 (0, 0)) (.cells #[.int .i64 k0, .int .u64 k1, .int .u64 k2] 32 (0, 0)) (bitsN P n) (bitsN Q n) (bitsN MA n) (bitsN MB n) (bitsN Q n) (.slice Ap n cp) (.slice Aq n cq) (.slice Aa n ca) (.slice Ab n cb) (.slice Af n cf) N := ⟨HX.out.step hb, Rp.out.imp fun _ x => Kd.R_below (Kd.R_mono (Kd.R_bound x) (fun k hk => by rw [hNe]; exact hk.2.2.1)) hb, Rq.out.imp fun _ x => Kd.R_below (Kd.R_mono (Kd.R_bound x) (fun k hk => by rw [hNe]; exact hk.2.2.1)) hb, Ra.out.imp fun _ x => Kd.R_below (Kd.R_mono (Kd.R_bound x) (fun k hk => by rw [hNe]; exact hk.2.2.1)) hb, Rb.out.imp fun _ x => Kd.R_below (Kd.R_mono (Kd.R_bound x) (fun k hk => by rw [hNe]; exact hk.2.2.1)) hb, hR, by rw [hNe]; have := blk_lt HX.out.b2; omega⟩; have HRS := Aside0.mk hrs; clear hrs Rp Rq Ra Rb HX hR hNe; (try clear x3 x4 x5 x6 x7 x8 y3 y4 y5 y6 y7 y8 z0 z1 z2); clear hb))
      rw [← freeN_zero MA MB P Q n] at HRS
      go_loopw [14, 16] (fun u14 u16 w' => ∃ i : Nat, i ≤ n ∧ u14 = .bool (wantB MA MB P Q i) ∧ u16 = .int .i64 i ∧ Aside0 (RS w w' (.cells #[.int .i64 a0, .int .i64 a1, .int .i64 a2, .int .i64 p0, .int .u64 p1, .int .u64 p2, .int .i64 m0, .int .u64 m1, .int .u64 m2] 57 (0, 0)) (.cells #[.int .i64 b0, .int .i64 b1, .int .i64 b2, .int .i64 q0, .int .u64 q1, .int .u64 q2, .int .i64 n0, .int .u64 n1, .int .u64 n2] 57 (0, 0)) (.cells #[.int .i64 k0, .int .u64 k1, .int .u64 k2] 32 (0, 0)) (bitsN P n) (bitsN Q n) (bitsN MA n) (bitsN MB n) (freeN MA MB P Q n i) (.slice Ap n cp) (.slice Aq n cq) (.slice Aa n ca) (.slice Ab n cb) (.slice Af n cf) N)) (fun u14 u16 _ => n - (intOf u16).toNat)
      case atStart => exact ⟨0, Nat.zero_le _, by simp [wantB], rfl, HRS⟩
      case round =>
        obtain ⟨i, hi, e14, rfl, HR⟩ := hrel
        clear HRS
        by_cases hlt : i < n
        · subst e14
          have hi0 : 0 ≤ (i : Int) := by omega
          have hil : (i : Int) < (n : Int) := by omega
          obtain ⟨Ba, ta⟩ := HR.out.ra
          obtain ⟨da, ea, ga⟩ := Kd.at_bool (Kd.R_reads' ta).2.2 (i : Int) hi0 (by rw [bitsN_length]; exact hil)
          subst ea
          rw [bitsN_rd MA n i hlt, Int.toNat_natCast] at ga
          clear ta
          obtain ⟨Bb, tb⟩ := HR.out.rb
          obtain ⟨db, eb, gb⟩ := Kd.at_bool (Kd.R_reads' tb).2.2 (i : Int) hi0 (by rw [bitsN_length]; exact hil)
          subst eb
          rw [bitsN_rd MB n i hlt, Int.toNat_natCast] at gb
          clear tb
          obtain ⟨Bp, tp⟩ := HR.out.rp
          obtain ⟨dp, ep, gp⟩ := Kd.at_bool (Kd.R_reads' tp).2.2 (i : Int) hi0 (by rw [bitsN_length]; exact hil)
          subst ep
          rw [bitsN_rd P n i hlt, Int.toNat_natCast] at gp
          clear tp
          obtain ⟨Bq, tq⟩ := HR.out.rq
          obtain ⟨dq, eq, gq⟩ := Kd.at_bool (Kd.R_reads' tq).2.2 (i : Int) hi0 (by rw [bitsN_length]; exact hil)
          subst eq
          rw [bitsN_rd Q n i hlt, Int.toNat_natCast] at gq
          clear tq
          have HQ := Aside0.mk (HR.out.step (below_drew1 (Below.refl _ _)))
          have HWS := Aside0.mk (want_succ MA MB P Q i)
          have HNX := Aside0.mk (freeN_same MA MB P Q n i)
          have HST := Aside0.mk (freeN_set MA MB P Q n i hlt)
          have HSV := Aside0.mk (show MA.testBit i = true → MB.testBit i = false → freeB MA MB P Q i = !P.testBit i from fun h1 h2 => by unfold freeB; rw [if_pos ⟨h1, h2⟩])
          obtain ⟨gf, cg, e1, hge, hlf, _⟩ := Kd.R_form HR.out.rf (by rw [freeN_length]; omega)
          injection e1 with e1 e2 e3
          subst e1
          clear e2 e3 hge hlf
          obtain ⟨hx, hf⟩ := Kd.R_celln false HQ.out.rf (i : Int) hi0 hil
          rw [Int.toNat_natCast] at hx hf
          cases hA : MA.testBit i with
          | false =>
            rw [hA] at ga
            cases hB : MB.testBit i with
            | false =>
              rw [hB] at gb
              go_wp2
              refine start_ (n := 22) (S := fun w' => w'.cell? (da.add i) = some (.bool false) ∧ w'.cell? (db.add i) = some (.bool false) ∧ w'.cell? (dp.add i) = some (.bool (P.testBit i)) ∧ w'.cell? (dq.add i) = some (.bool (Q.testBit i))) (ds := []) #[false, false, false, false, false, false, false, false, false, false, false, false, false, false, false, false, false, false, false, false, false, false] (by kernel_rfl) rfl rfl ⟨ga, gb, gp, gq⟩ (fun hHeld => ?_); refine with_tabW TernShadows.tab11 TernShadows.bits11 (fun HT_ HW_ => ?_)
              generalize World.drew _ = w7 at HQ hx hf hHeld ⊢
              clear ga gb gp gq
              refine pure_ (i := 0) (N := some 74) (v := ?_) (a' := ?_) #[true, false, false, false, false, false, false, false, false, false, false, false, false, false, false, false, false, false, false, false, false, false] rfl rfl (any_of HT_.out (by kernel_rfl)) (fun _ _ _ h => h) (Or.inl ⟨by rfl, ?_⟩) ?_ ?_
              rotate_left
              · intro w'
                go_simp
                with_reducible rfl
              rotate_left
              · simp only [Act.put, List.setIfInBounds_toArray, List.set_cons_zero, List.set_cons_succ, i64_w, i32_w]
                rfl
              refine pure_ (i := 1) (N := some 75) (v := ?_) (a' := ?_) #[true, true, false, false, false, false, false, false, false, false, false, false, false, false, false, false, false, false, false, false, false, false] rfl rfl (any_of HT_.out (by kernel_rfl)) (fun _ _ _ h => h) (Or.inl ⟨by rfl, ?_⟩) ?_ ?_
              rotate_left
              · intro w'
                go_simp
                with_reducible rfl
              rotate_left
              · simp only [Act.put, List.setIfInBounds_toArray, List.set_cons_zero, List.set_cons_succ, i64_w, i32_w]
                rfl
              refine pure_ (i := 2) (N := some 76) (v := ?_) (a' := ?_) #[true, true, true, false, false, false, false, false, false, false, false, false, false, false, false, false, false, false, false, false, false, false] rfl rfl (any_of HT_.out (by kernel_rfl)) (fun _ _ _ h => h) (Or.inl ⟨by rfl, ?_⟩) ?_ ?_
              rotate_left
              · intro w'
                go_simp
                with_reducible rfl
              rotate_left
              · simp only [Act.put, List.setIfInBounds_toArray, List.set_cons_zero, List.set_cons_succ, i64_w, i32_w]
                rfl
              refine take_ (i := 3) (N := some 77) (v := ?_) (a' := ?_) #[true, true, true, true, false, false, false, false, false, false, false, false, false, false, false, false, false, false, false, false, false, false] rfl rfl (take_ofW HT_.out HW_.out (by kernel_rfl)) (fun _ _ _ h => h) (Or.inl ⟨by rfl, ?_⟩) hHeld ?_ ?_
              rotate_left
              · rintro w' ⟨s0, s1, s2, s3⟩
                go_simp
                with_reducible rfl
              rotate_left
              · simp only [Act.put, List.setIfInBounds_toArray, List.set_cons_zero, List.set_cons_succ, i64_w, i32_w]
                rfl
              refine pure_ (i := 4) (N := some 78) (v := ?_) (a' := ?_) #[true, true, true, true, true, false, false, false, false, false, false, false, false, false, false, false, false, false, false, false, false, false] rfl rfl (any_of HT_.out (by kernel_rfl)) (fun _ _ _ h => h) (Or.inl ⟨by rfl, ?_⟩) ?_ ?_
              rotate_left
              · intro w'
                go_simp
                with_reducible rfl
              rotate_left
              · simp only [Act.put, List.setIfInBounds_toArray, List.set_cons_zero, List.set_cons_succ, i64_w, i32_w]
                rfl
              refine pure_ (i := 5) (N := some 79) (v := undef) (a' := ?_) #[true, true, true, true, true, true, false, false, false, false, false, false, false, false, false, false, false, false, false, false, false, false] rfl rfl (any_of HT_.out (by kernel_rfl)) (fun _ _ _ h => h) (Or.inr ⟨by rfl, rfl⟩) ?_ ?_
              rotate_left
              · simp only [Act.put, List.setIfInBounds_toArray, List.set_cons_zero, List.set_cons_succ, i64_w, i32_w]
                rfl
              refine pure_ (i := 6) (N := some 80) (v := undef) (a' := ?_) #[true, true, true, true, true, true, true, false, false, false, false, false, false, false, false, false, false, false, false, false, false, false] rfl rfl (any_of HT_.out (by kernel_rfl)) (fun _ _ _ h => h) (Or.inr ⟨by rfl, rfl⟩) ?_ ?_
              rotate_left
              · simp only [Act.put, List.setIfInBounds_toArray, List.set_cons_zero, List.set_cons_succ, i64_w, i32_w]
                rfl
              refine pure_ (i := 7) (N := some 81) (v := undef) (a' := ?_) #[true, true, true, true, true, true, true, true, false, false, false, false, false, false, false, false, false, false, false, false, false, false] rfl rfl (any_of HT_.out (by kernel_rfl)) (fun _ _ _ h => h) (Or.inr ⟨by rfl, rfl⟩) ?_ ?_
              rotate_left
              · simp only [Act.put, List.setIfInBounds_toArray, List.set_cons_zero, List.set_cons_succ, i64_w, i32_w]
                rfl
              refine pure_ (i := 8) (N := some 82) (v := undef) (a' := ?_) #[true, true, true, true, true, true, true, true, true, false, false, false, false, false, false, false, false, false, false, false, false, false] rfl rfl (any_of HT_.out (by kernel_rfl)) (fun _ _ _ h => h) (Or.inr ⟨by rfl, rfl⟩) ?_ ?_
              rotate_left
              · simp only [Act.put, List.setIfInBounds_toArray, List.set_cons_zero, List.set_cons_succ, i64_w, i32_w]
                rfl
              refine pure_ (i := 9) (N := some 83) (v := undef) (a' := ?_) #[true, true, true, true, true, true, true, true, true, true, false, false, false, false, false, false, false, false, false, false, false, false] rfl rfl (any_of HT_.out (by kernel_rfl)) (fun _ _ _ h => h) (Or.inr ⟨by rfl, rfl⟩) ?_ ?_
              rotate_left
              · simp only [Act.put, List.setIfInBounds_toArray, List.set_cons_zero, List.set_cons_succ, i64_w, i32_w]
                rfl
              refine pure_ (i := 10) (N := some 84) (v := undef) (a' := ?_) #[true, true, true, true, true, true, true, true, true, true, true, false, false, false, false, false, false, false, false, false, false, false] rfl rfl (any_of HT_.out (by kernel_rfl)) (fun _ _ _ h => h) (Or.inr ⟨by rfl, rfl⟩) ?_ ?_
              rotate_left
              · simp only [Act.put, List.setIfInBounds_toArray, List.set_cons_zero, List.set_cons_succ, i64_w, i32_w]
                rfl
              refine pure_ (i := 11) (N := some 85) (v := undef) (a' := ?_) #[true, true, true, true, true, true, true, true, true, true, true, true, false, false, false, false, false, false, false, false, false, false] rfl rfl (any_of HT_.out (by kernel_rfl)) (fun _ _ _ h => h) (Or.inr ⟨by rfl, rfl⟩) ?_ ?_
              rotate_left
              · simp only [Act.put, List.setIfInBounds_toArray, List.set_cons_zero, List.set_cons_succ, i64_w, i32_w]
                rfl
              refine pure_ (i := 12) (N := some 86) (v := undef) (a' := ?_) #[true, true, true, true, true, true, true, true, true, true, true, true, true, false, false, false, false, false, false, false, false, false] rfl rfl (any_of HT_.out (by kernel_rfl)) (fun _ _ _ h => h) (Or.inr ⟨by rfl, rfl⟩) ?_ ?_
              rotate_left
              · simp only [Act.put, List.setIfInBounds_toArray, List.set_cons_zero, List.set_cons_succ, i64_w, i32_w]
                rfl
              refine pure_ (i := 13) (N := some 87) (v := undef) (a' := ?_) #[true, true, true, true, true, true, true, true, true, true, true, true, true, true, false, false, false, false, false, false, false, false] rfl rfl (any_of HT_.out (by kernel_rfl)) (fun _ _ _ h => h) (Or.inr ⟨by rfl, rfl⟩) ?_ ?_
              rotate_left
              · simp only [Act.put, List.setIfInBounds_toArray, List.set_cons_zero, List.set_cons_succ, i64_w, i32_w]
                rfl
              refine pure_ (i := 14) (N := some 88) (v := undef) (a' := ?_) #[true, true, true, true, true, true, true, true, true, true, true, true, true, true, true, false, false, false, false, false, false, false] rfl rfl (any_of HT_.out (by kernel_rfl)) (fun _ _ _ h => h) (Or.inr ⟨by rfl, rfl⟩) ?_ ?_
              rotate_left
              · simp only [Act.put, List.setIfInBounds_toArray, List.set_cons_zero, List.set_cons_succ, i64_w, i32_w]
                rfl
              refine pure_ (i := 15) (N := some 89) (v := undef) (a' := ?_) #[true, true, true, true, true, true, true, true, true, true, true, true, true, true, true, true, false, false, false, false, false, false] rfl rfl (any_of HT_.out (by kernel_rfl)) (fun _ _ _ h => h) (Or.inr ⟨by rfl, rfl⟩) ?_ ?_
              rotate_left
              · simp only [Act.put, List.setIfInBounds_toArray, List.set_cons_zero, List.set_cons_succ, i64_w, i32_w]
                rfl
              refine pure_ (i := 16) (N := some 90) (v := undef) (a' := ?_) #[true, true, true, true, true, true, true, true, true, true, true, true, true, true, true, true, true, false, false, false, false, false] rfl rfl (any_of HT_.out (by kernel_rfl)) (fun _ _ _ h => h) (Or.inr ⟨by rfl, rfl⟩) ?_ ?_
              rotate_left
              · simp only [Act.put, List.setIfInBounds_toArray, List.set_cons_zero, List.set_cons_succ, i64_w, i32_w]
                rfl
              refine pure_ (i := 17) (N := some 91) (v := undef) (a' := ?_) #[true, true, true, true, true, true, true, true, true, true, true, true, true, true, true, true, true, true, false, false, false, false] rfl rfl (any_of HT_.out (by kernel_rfl)) (fun _ _ _ h => h) (Or.inr ⟨by rfl, rfl⟩) ?_ ?_
              rotate_left
              · simp only [Act.put, List.setIfInBounds_toArray, List.set_cons_zero, List.set_cons_succ, i64_w, i32_w]
                rfl
              refine pure_ (i := 18) (N := some 92) (v := undef) (a' := ?_) #[true, true, true, true, true, true, true, true, true, true, true, true, true, true, true, true, true, true, true, false, false, false] rfl rfl (any_of HT_.out (by kernel_rfl)) (fun _ _ _ h => h) (Or.inr ⟨by rfl, rfl⟩) ?_ ?_
              rotate_left
              · simp only [Act.put, List.setIfInBounds_toArray, List.set_cons_zero, List.set_cons_succ, i64_w, i32_w]
                rfl
              refine pure_ (i := 19) (N := some 93) (v := undef) (a' := ?_) #[true, true, true, true, true, true, true, true, true, true, true, true, true, true, true, true, true, true, true, true, false, false] rfl rfl (any_of HT_.out (by kernel_rfl)) (fun _ _ _ h => h) (Or.inr ⟨by rfl, rfl⟩) ?_ ?_
              rotate_left
              · simp only [Act.put, List.setIfInBounds_toArray, List.set_cons_zero, List.set_cons_succ, i64_w, i32_w]
                rfl
              refine pure_ (i := 20) (N := some 94) (v := undef) (a' := ?_) #[true, true, true, true, true, true, true, true, true, true, true, true, true, true, true, true, true, true, true, true, true, false] rfl rfl (any_of HT_.out (by kernel_rfl)) (fun _ _ _ h => h) (Or.inr ⟨by rfl, rfl⟩) ?_ ?_
              rotate_left
              · simp only [Act.put, List.setIfInBounds_toArray, List.set_cons_zero, List.set_cons_succ, i64_w, i32_w]
                rfl
              refine pure_ (i := 21) (N := some 95) (v := ?_) (a' := ?_) #[true, true, true, true, true, true, true, true, true, true, true, true, true, true, true, true, true, true, true, true, true, true] rfl rfl (any_of HT_.out (by kernel_rfl)) (fun _ _ _ h => h) (Or.inl ⟨by rfl, ?_⟩) ?_ ?_
              rotate_left
              · intro w'
                go_simp
                with_reducible rfl
              rotate_left
              · simp only [Act.put, List.setIfInBounds_toArray, List.set_cons_zero, List.set_cons_succ, i64_w, i32_w]
                rfl
              refine done_ (done_of HT_.out (by kernel_rfl)) ?_
              obtain ⟨s0, s1, s2, s3⟩ := hHeld
              go_wp2
              go_roundw
              case measure => first | (simp [intOf]; done) | (simp [intOf]; omega)
              case rel => exact ⟨i + 1, hlt, by rw [HWS.out, hA]; simp, by go_num, ⟨by rw [HNX.out (Or.inl hA)]; exact HQ.out⟩⟩
            | true =>
              rw [hB] at gb
              go_wp2
              refine start_ (n := 22) (S := fun w' => w'.cell? (da.add i) = some (.bool false) ∧ w'.cell? (db.add i) = some (.bool true) ∧ w'.cell? (dp.add i) = some (.bool (P.testBit i)) ∧ w'.cell? (dq.add i) = some (.bool (Q.testBit i))) (ds := []) #[false, false, false, false, false, false, false, false, false, false, false, false, false, false, false, false, false, false, false, false, false, false] (by kernel_rfl) rfl rfl ⟨ga, gb, gp, gq⟩ (fun hHeld => ?_); refine with_tabW TernShadows.tab11 TernShadows.bits11 (fun HT_ HW_ => ?_)
              generalize World.drew _ = w7 at HQ hx hf hHeld ⊢
              clear ga gb gp gq
              refine pure_ (i := 0) (N := some 74) (v := ?_) (a' := ?_) #[true, false, false, false, false, false, false, false, false, false, false, false, false, false, false, false, false, false, false, false, false, false] rfl rfl (any_of HT_.out (by kernel_rfl)) (fun _ _ _ h => h) (Or.inl ⟨by rfl, ?_⟩) ?_ ?_
              rotate_left
              · intro w'
                go_simp
                with_reducible rfl
              rotate_left
              · simp only [Act.put, List.setIfInBounds_toArray, List.set_cons_zero, List.set_cons_succ, i64_w, i32_w]
                rfl
              refine pure_ (i := 1) (N := some 75) (v := ?_) (a' := ?_) #[true, true, false, false, false, false, false, false, false, false, false, false, false, false, false, false, false, false, false, false, false, false] rfl rfl (any_of HT_.out (by kernel_rfl)) (fun _ _ _ h => h) (Or.inl ⟨by rfl, ?_⟩) ?_ ?_
              rotate_left
              · intro w'
                go_simp
                with_reducible rfl
              rotate_left
              · simp only [Act.put, List.setIfInBounds_toArray, List.set_cons_zero, List.set_cons_succ, i64_w, i32_w]
                rfl
              refine pure_ (i := 2) (N := some 76) (v := ?_) (a' := ?_) #[true, true, true, false, false, false, false, false, false, false, false, false, false, false, false, false, false, false, false, false, false, false] rfl rfl (any_of HT_.out (by kernel_rfl)) (fun _ _ _ h => h) (Or.inl ⟨by rfl, ?_⟩) ?_ ?_
              rotate_left
              · intro w'
                go_simp
                with_reducible rfl
              rotate_left
              · simp only [Act.put, List.setIfInBounds_toArray, List.set_cons_zero, List.set_cons_succ, i64_w, i32_w]
                rfl
              refine take_ (i := 3) (N := some 77) (v := ?_) (a' := ?_) #[true, true, true, true, false, false, false, false, false, false, false, false, false, false, false, false, false, false, false, false, false, false] rfl rfl (take_ofW HT_.out HW_.out (by kernel_rfl)) (fun _ _ _ h => h) (Or.inl ⟨by rfl, ?_⟩) hHeld ?_ ?_
              rotate_left
              · rintro w' ⟨s0, s1, s2, s3⟩
                go_simp
                with_reducible rfl
              rotate_left
              · simp only [Act.put, List.setIfInBounds_toArray, List.set_cons_zero, List.set_cons_succ, i64_w, i32_w]
                rfl
              refine pure_ (i := 4) (N := some 78) (v := ?_) (a' := ?_) #[true, true, true, true, true, false, false, false, false, false, false, false, false, false, false, false, false, false, false, false, false, false] rfl rfl (any_of HT_.out (by kernel_rfl)) (fun _ _ _ h => h) (Or.inl ⟨by rfl, ?_⟩) ?_ ?_
              rotate_left
              · intro w'
                go_simp
                with_reducible rfl
              rotate_left
              · simp only [Act.put, List.setIfInBounds_toArray, List.set_cons_zero, List.set_cons_succ, i64_w, i32_w]
                rfl
              refine pure_ (i := 5) (N := some 79) (v := undef) (a' := ?_) #[true, true, true, true, true, true, false, false, false, false, false, false, false, false, false, false, false, false, false, false, false, false] rfl rfl (any_of HT_.out (by kernel_rfl)) (fun _ _ _ h => h) (Or.inr ⟨by rfl, rfl⟩) ?_ ?_
              rotate_left
              · simp only [Act.put, List.setIfInBounds_toArray, List.set_cons_zero, List.set_cons_succ, i64_w, i32_w]
                rfl
              refine pure_ (i := 6) (N := some 80) (v := undef) (a' := ?_) #[true, true, true, true, true, true, true, false, false, false, false, false, false, false, false, false, false, false, false, false, false, false] rfl rfl (any_of HT_.out (by kernel_rfl)) (fun _ _ _ h => h) (Or.inr ⟨by rfl, rfl⟩) ?_ ?_
              rotate_left
              · simp only [Act.put, List.setIfInBounds_toArray, List.set_cons_zero, List.set_cons_succ, i64_w, i32_w]
                rfl
              refine pure_ (i := 7) (N := some 81) (v := undef) (a' := ?_) #[true, true, true, true, true, true, true, true, false, false, false, false, false, false, false, false, false, false, false, false, false, false] rfl rfl (any_of HT_.out (by kernel_rfl)) (fun _ _ _ h => h) (Or.inr ⟨by rfl, rfl⟩) ?_ ?_
              rotate_left
              · simp only [Act.put, List.setIfInBounds_toArray, List.set_cons_zero, List.set_cons_succ, i64_w, i32_w]
                rfl
              refine pure_ (i := 8) (N := some 82) (v := undef) (a' := ?_) #[true, true, true, true, true, true, true, true, true, false, false, false, false, false, false, false, false, false, false, false, false, false] rfl rfl (any_of HT_.out (by kernel_rfl)) (fun _ _ _ h => h) (Or.inr ⟨by rfl, rfl⟩) ?_ ?_
              rotate_left
              · simp only [Act.put, List.setIfInBounds_toArray, List.set_cons_zero, List.set_cons_succ, i64_w, i32_w]
                rfl
              refine pure_ (i := 9) (N := some 83) (v := undef) (a' := ?_) #[true, true, true, true, true, true, true, true, true, true, false, false, false, false, false, false, false, false, false, false, false, false] rfl rfl (any_of HT_.out (by kernel_rfl)) (fun _ _ _ h => h) (Or.inr ⟨by rfl, rfl⟩) ?_ ?_
              rotate_left
              · simp only [Act.put, List.setIfInBounds_toArray, List.set_cons_zero, List.set_cons_succ, i64_w, i32_w]
                rfl
              refine pure_ (i := 10) (N := some 84) (v := undef) (a' := ?_) #[true, true, true, true, true, true, true, true, true, true, true, false, false, false, false, false, false, false, false, false, false, false] rfl rfl (any_of HT_.out (by kernel_rfl)) (fun _ _ _ h => h) (Or.inr ⟨by rfl, rfl⟩) ?_ ?_
              rotate_left
              · simp only [Act.put, List.setIfInBounds_toArray, List.set_cons_zero, List.set_cons_succ, i64_w, i32_w]
                rfl
              refine pure_ (i := 11) (N := some 85) (v := undef) (a' := ?_) #[true, true, true, true, true, true, true, true, true, true, true, true, false, false, false, false, false, false, false, false, false, false] rfl rfl (any_of HT_.out (by kernel_rfl)) (fun _ _ _ h => h) (Or.inr ⟨by rfl, rfl⟩) ?_ ?_
              rotate_left
              · simp only [Act.put, List.setIfInBounds_toArray, List.set_cons_zero, List.set_cons_succ, i64_w, i32_w]
                rfl
              refine pure_ (i := 12) (N := some 86) (v := undef) (a' := ?_) #[true, true, true, true, true, true, true, true, true, true, true, true, true, false, false, false, false, false, false, false, false, false] rfl rfl (any_of HT_.out (by kernel_rfl)) (fun _ _ _ h => h) (Or.inr ⟨by rfl, rfl⟩) ?_ ?_
              rotate_left
              · simp only [Act.put, List.setIfInBounds_toArray, List.set_cons_zero, List.set_cons_succ, i64_w, i32_w]
                rfl
              refine pure_ (i := 13) (N := some 87) (v := undef) (a' := ?_) #[true, true, true, true, true, true, true, true, true, true, true, true, true, true, false, false, false, false, false, false, false, false] rfl rfl (any_of HT_.out (by kernel_rfl)) (fun _ _ _ h => h) (Or.inr ⟨by rfl, rfl⟩) ?_ ?_
              rotate_left
              · simp only [Act.put, List.setIfInBounds_toArray, List.set_cons_zero, List.set_cons_succ, i64_w, i32_w]
                rfl
              refine pure_ (i := 14) (N := some 88) (v := undef) (a' := ?_) #[true, true, true, true, true, true, true, true, true, true, true, true, true, true, true, false, false, false, false, false, false, false] rfl rfl (any_of HT_.out (by kernel_rfl)) (fun _ _ _ h => h) (Or.inr ⟨by rfl, rfl⟩) ?_ ?_
              rotate_left
              · simp only [Act.put, List.setIfInBounds_toArray, List.set_cons_zero, List.set_cons_succ, i64_w, i32_w]
                rfl
              refine pure_ (i := 15) (N := some 89) (v := undef) (a' := ?_) #[true, true, true, true, true, true, true, true, true, true, true, true, true, true, true, true, false, false, false, false, false, false] rfl rfl (any_of HT_.out (by kernel_rfl)) (fun _ _ _ h => h) (Or.inr ⟨by rfl, rfl⟩) ?_ ?_
              rotate_left
              · simp only [Act.put, List.setIfInBounds_toArray, List.set_cons_zero, List.set_cons_succ, i64_w, i32_w]
                rfl
              refine pure_ (i := 16) (N := some 90) (v := undef) (a' := ?_) #[true, true, true, true, true, true, true, true, true, true, true, true, true, true, true, true, true, false, false, false, false, false] rfl rfl (any_of HT_.out (by kernel_rfl)) (fun _ _ _ h => h) (Or.inr ⟨by rfl, rfl⟩) ?_ ?_
              rotate_left
              · simp only [Act.put, List.setIfInBounds_toArray, List.set_cons_zero, List.set_cons_succ, i64_w, i32_w]
                rfl
              refine pure_ (i := 17) (N := some 91) (v := undef) (a' := ?_) #[true, true, true, true, true, true, true, true, true, true, true, true, true, true, true, true, true, true, false, false, false, false] rfl rfl (any_of HT_.out (by kernel_rfl)) (fun _ _ _ h => h) (Or.inr ⟨by rfl, rfl⟩) ?_ ?_
              rotate_left
              · simp only [Act.put, List.setIfInBounds_toArray, List.set_cons_zero, List.set_cons_succ, i64_w, i32_w]
                rfl
              refine pure_ (i := 18) (N := some 92) (v := undef) (a' := ?_) #[true, true, true, true, true, true, true, true, true, true, true, true, true, true, true, true, true, true, true, false, false, false] rfl rfl (any_of HT_.out (by kernel_rfl)) (fun _ _ _ h => h) (Or.inr ⟨by rfl, rfl⟩) ?_ ?_
              rotate_left
              · simp only [Act.put, List.setIfInBounds_toArray, List.set_cons_zero, List.set_cons_succ, i64_w, i32_w]
                rfl
              refine pure_ (i := 19) (N := some 93) (v := undef) (a' := ?_) #[true, true, true, true, true, true, true, true, true, true, true, true, true, true, true, true, true, true, true, true, false, false] rfl rfl (any_of HT_.out (by kernel_rfl)) (fun _ _ _ h => h) (Or.inr ⟨by rfl, rfl⟩) ?_ ?_
              rotate_left
              · simp only [Act.put, List.setIfInBounds_toArray, List.set_cons_zero, List.set_cons_succ, i64_w, i32_w]
                rfl
              refine pure_ (i := 20) (N := some 94) (v := undef) (a' := ?_) #[true, true, true, true, true, true, true, true, true, true, true, true, true, true, true, true, true, true, true, true, true, false] rfl rfl (any_of HT_.out (by kernel_rfl)) (fun _ _ _ h => h) (Or.inr ⟨by rfl, rfl⟩) ?_ ?_
              rotate_left
              · simp only [Act.put, List.setIfInBounds_toArray, List.set_cons_zero, List.set_cons_succ, i64_w, i32_w]
                rfl
              refine pure_ (i := 21) (N := some 95) (v := ?_) (a' := ?_) #[true, true, true, true, true, true, true, true, true, true, true, true, true, true, true, true, true, true, true, true, true, true] rfl rfl (any_of HT_.out (by kernel_rfl)) (fun _ _ _ h => h) (Or.inl ⟨by rfl, ?_⟩) ?_ ?_
              rotate_left
              · intro w'
                go_simp
                with_reducible rfl
              rotate_left
              · simp only [Act.put, List.setIfInBounds_toArray, List.set_cons_zero, List.set_cons_succ, i64_w, i32_w]
                rfl
              refine done_ (done_of HT_.out (by kernel_rfl)) ?_
              obtain ⟨s0, s1, s2, s3⟩ := hHeld
              go_wp2
              go_roundw
              case measure => first | (simp [intOf]; done) | (simp [intOf]; omega)
              case rel => exact ⟨i + 1, hlt, by rw [HWS.out, hA]; simp, by go_num, ⟨by rw [HNX.out (Or.inl hA)]; exact HQ.out⟩⟩
          | true =>
            rw [hA] at ga
            cases hB : MB.testBit i with
            | false =>
              rw [hB] at gb
              go_wp2
              refine start_ (n := 22) (S := fun w' => w'.cell? (da.add i) = some (.bool true) ∧ w'.cell? (db.add i) = some (.bool false) ∧ w'.cell? (dp.add i) = some (.bool (P.testBit i)) ∧ w'.cell? (dq.add i) = some (.bool (Q.testBit i))) (ds := []) #[false, false, false, false, false, false, false, false, false, false, false, false, false, false, false, false, false, false, false, false, false, false] (by kernel_rfl) rfl rfl ⟨ga, gb, gp, gq⟩ (fun hHeld => ?_); refine with_tabW TernShadows.tab11 TernShadows.bits11 (fun HT_ HW_ => ?_)
              generalize World.drew _ = w7 at HQ hx hf hHeld ⊢
              clear ga gb gp gq
              refine pure_ (i := 0) (N := some 74) (v := ?_) (a' := ?_) #[true, false, false, false, false, false, false, false, false, false, false, false, false, false, false, false, false, false, false, false, false, false] rfl rfl (any_of HT_.out (by kernel_rfl)) (fun _ _ _ h => h) (Or.inl ⟨by rfl, ?_⟩) ?_ ?_
              rotate_left
              · intro w'
                go_simp
                with_reducible rfl
              rotate_left
              · simp only [Act.put, List.setIfInBounds_toArray, List.set_cons_zero, List.set_cons_succ, i64_w, i32_w]
                rfl
              refine pure_ (i := 1) (N := some 75) (v := ?_) (a' := ?_) #[true, true, false, false, false, false, false, false, false, false, false, false, false, false, false, false, false, false, false, false, false, false] rfl rfl (any_of HT_.out (by kernel_rfl)) (fun _ _ _ h => h) (Or.inl ⟨by rfl, ?_⟩) ?_ ?_
              rotate_left
              · intro w'
                go_simp
                with_reducible rfl
              rotate_left
              · simp only [Act.put, List.setIfInBounds_toArray, List.set_cons_zero, List.set_cons_succ, i64_w, i32_w]
                rfl
              refine pure_ (i := 2) (N := some 76) (v := ?_) (a' := ?_) #[true, true, true, false, false, false, false, false, false, false, false, false, false, false, false, false, false, false, false, false, false, false] rfl rfl (any_of HT_.out (by kernel_rfl)) (fun _ _ _ h => h) (Or.inl ⟨by rfl, ?_⟩) ?_ ?_
              rotate_left
              · intro w'
                go_simp
                with_reducible rfl
              rotate_left
              · simp only [Act.put, List.setIfInBounds_toArray, List.set_cons_zero, List.set_cons_succ, i64_w, i32_w]
                rfl
              refine take_ (i := 3) (N := some 77) (v := ?_) (a' := ?_) #[true, true, true, true, false, false, false, false, false, false, false, false, false, false, false, false, false, false, false, false, false, false] rfl rfl (take_ofW HT_.out HW_.out (by kernel_rfl)) (fun _ _ _ h => h) (Or.inl ⟨by rfl, ?_⟩) hHeld ?_ ?_
              rotate_left
              · rintro w' ⟨s0, s1, s2, s3⟩
                go_simp
                with_reducible rfl
              rotate_left
              · simp only [Act.put, List.setIfInBounds_toArray, List.set_cons_zero, List.set_cons_succ, i64_w, i32_w]
                rfl
              refine pure_ (i := 4) (N := some 78) (v := ?_) (a' := ?_) #[true, true, true, true, true, false, false, false, false, false, false, false, false, false, false, false, false, false, false, false, false, false] rfl rfl (any_of HT_.out (by kernel_rfl)) (fun _ _ _ h => h) (Or.inl ⟨by rfl, ?_⟩) ?_ ?_
              rotate_left
              · intro w'
                go_simp
                with_reducible rfl
              rotate_left
              · simp only [Act.put, List.setIfInBounds_toArray, List.set_cons_zero, List.set_cons_succ, i64_w, i32_w]
                rfl
              refine pure_ (i := 5) (N := some 79) (v := ?_) (a' := ?_) #[true, true, true, true, true, true, false, false, false, false, false, false, false, false, false, false, false, false, false, false, false, false] rfl rfl (any_of HT_.out (by kernel_rfl)) (fun _ _ _ h => h) (Or.inl ⟨by rfl, ?_⟩) ?_ ?_
              rotate_left
              · intro w'
                go_simp
                with_reducible rfl
              rotate_left
              · simp only [Act.put, List.setIfInBounds_toArray, List.set_cons_zero, List.set_cons_succ, i64_w, i32_w]
                rfl
              refine pure_ (i := 6) (N := some 80) (v := ?_) (a' := ?_) #[true, true, true, true, true, true, true, false, false, false, false, false, false, false, false, false, false, false, false, false, false, false] rfl rfl (any_of HT_.out (by kernel_rfl)) (fun _ _ _ h => h) (Or.inl ⟨by rfl, ?_⟩) ?_ ?_
              rotate_left
              · intro w'
                go_simp
                with_reducible rfl
              rotate_left
              · simp only [Act.put, List.setIfInBounds_toArray, List.set_cons_zero, List.set_cons_succ, i64_w, i32_w]
                rfl
              refine pure_ (i := 7) (N := some 81) (v := ?_) (a' := ?_) #[true, true, true, true, true, true, true, true, false, false, false, false, false, false, false, false, false, false, false, false, false, false] rfl rfl (any_of HT_.out (by kernel_rfl)) (fun _ _ _ h => h) (Or.inl ⟨by rfl, ?_⟩) ?_ ?_
              rotate_left
              · intro w'
                go_simp
                with_reducible rfl
              rotate_left
              · simp only [Act.put, List.setIfInBounds_toArray, List.set_cons_zero, List.set_cons_succ, i64_w, i32_w]
                rfl
              refine take_ (i := 8) (N := some 82) (v := ?_) (a' := ?_) #[true, true, true, true, true, true, true, true, true, false, false, false, false, false, false, false, false, false, false, false, false, false] rfl rfl (take_ofW HT_.out HW_.out (by kernel_rfl)) (fun _ _ _ h => h) (Or.inl ⟨by rfl, ?_⟩) hHeld ?_ ?_
              rotate_left
              · rintro w' ⟨s0, s1, s2, s3⟩
                go_simp
                with_reducible rfl
              rotate_left
              · simp only [Act.put, List.setIfInBounds_toArray, List.set_cons_zero, List.set_cons_succ, i64_w, i32_w]
                rfl
              refine pure_ (i := 9) (N := some 83) (v := ?_) (a' := ?_) #[true, true, true, true, true, true, true, true, true, true, false, false, false, false, false, false, false, false, false, false, false, false] rfl rfl (any_of HT_.out (by kernel_rfl)) (fun _ _ _ h => h) (Or.inl ⟨by rfl, ?_⟩) ?_ ?_
              rotate_left
              · intro w'
                go_simp
                with_reducible rfl
              rotate_left
              · simp only [Act.put, List.setIfInBounds_toArray, List.set_cons_zero, List.set_cons_succ, i64_w, i32_w]
                rfl
              refine pure_ (i := 10) (N := some 84) (v := ?_) (a' := ?_) #[true, true, true, true, true, true, true, true, true, true, true, false, false, false, false, false, false, false, false, false, false, false] rfl rfl (any_of HT_.out (by kernel_rfl)) (fun _ _ _ h => h) (Or.inl ⟨by rfl, ?_⟩) ?_ ?_
              rotate_left
              · intro w'
                go_simp
                with_reducible rfl
              rotate_left
              · simp only [Act.put, List.setIfInBounds_toArray, List.set_cons_zero, List.set_cons_succ, i64_w, i32_w]
                rfl
              refine pure_ (i := 11) (N := some 85) (v := undef) (a' := ?_) #[true, true, true, true, true, true, true, true, true, true, true, true, false, false, false, false, false, false, false, false, false, false] rfl rfl (any_of HT_.out (by kernel_rfl)) (fun _ _ _ h => h) (Or.inr ⟨by rfl, rfl⟩) ?_ ?_
              rotate_left
              · simp only [Act.put, List.setIfInBounds_toArray, List.set_cons_zero, List.set_cons_succ, i64_w, i32_w]
                rfl
              refine pure_ (i := 12) (N := some 86) (v := undef) (a' := ?_) #[true, true, true, true, true, true, true, true, true, true, true, true, true, false, false, false, false, false, false, false, false, false] rfl rfl (any_of HT_.out (by kernel_rfl)) (fun _ _ _ h => h) (Or.inr ⟨by rfl, rfl⟩) ?_ ?_
              rotate_left
              · simp only [Act.put, List.setIfInBounds_toArray, List.set_cons_zero, List.set_cons_succ, i64_w, i32_w]
                rfl
              refine pure_ (i := 13) (N := some 87) (v := undef) (a' := ?_) #[true, true, true, true, true, true, true, true, true, true, true, true, true, true, false, false, false, false, false, false, false, false] rfl rfl (any_of HT_.out (by kernel_rfl)) (fun _ _ _ h => h) (Or.inr ⟨by rfl, rfl⟩) ?_ ?_
              rotate_left
              · simp only [Act.put, List.setIfInBounds_toArray, List.set_cons_zero, List.set_cons_succ, i64_w, i32_w]
                rfl
              refine pure_ (i := 14) (N := some 88) (v := undef) (a' := ?_) #[true, true, true, true, true, true, true, true, true, true, true, true, true, true, true, false, false, false, false, false, false, false] rfl rfl (any_of HT_.out (by kernel_rfl)) (fun _ _ _ h => h) (Or.inr ⟨by rfl, rfl⟩) ?_ ?_
              rotate_left
              · simp only [Act.put, List.setIfInBounds_toArray, List.set_cons_zero, List.set_cons_succ, i64_w, i32_w]
                rfl
              refine pure_ (i := 15) (N := some 89) (v := undef) (a' := ?_) #[true, true, true, true, true, true, true, true, true, true, true, true, true, true, true, true, false, false, false, false, false, false] rfl rfl (any_of HT_.out (by kernel_rfl)) (fun _ _ _ h => h) (Or.inr ⟨by rfl, rfl⟩) ?_ ?_
              rotate_left
              · simp only [Act.put, List.setIfInBounds_toArray, List.set_cons_zero, List.set_cons_succ, i64_w, i32_w]
                rfl
              refine pure_ (i := 16) (N := some 90) (v := undef) (a' := ?_) #[true, true, true, true, true, true, true, true, true, true, true, true, true, true, true, true, true, false, false, false, false, false] rfl rfl (any_of HT_.out (by kernel_rfl)) (fun _ _ _ h => h) (Or.inr ⟨by rfl, rfl⟩) ?_ ?_
              rotate_left
              · simp only [Act.put, List.setIfInBounds_toArray, List.set_cons_zero, List.set_cons_succ, i64_w, i32_w]
                rfl
              refine pure_ (i := 17) (N := some 91) (v := undef) (a' := ?_) #[true, true, true, true, true, true, true, true, true, true, true, true, true, true, true, true, true, true, false, false, false, false] rfl rfl (any_of HT_.out (by kernel_rfl)) (fun _ _ _ h => h) (Or.inr ⟨by rfl, rfl⟩) ?_ ?_
              rotate_left
              · simp only [Act.put, List.setIfInBounds_toArray, List.set_cons_zero, List.set_cons_succ, i64_w, i32_w]
                rfl
              refine pure_ (i := 18) (N := some 92) (v := undef) (a' := ?_) #[true, true, true, true, true, true, true, true, true, true, true, true, true, true, true, true, true, true, true, false, false, false] rfl rfl (any_of HT_.out (by kernel_rfl)) (fun _ _ _ h => h) (Or.inr ⟨by rfl, rfl⟩) ?_ ?_
              rotate_left
              · simp only [Act.put, List.setIfInBounds_toArray, List.set_cons_zero, List.set_cons_succ, i64_w, i32_w]
                rfl
              refine pure_ (i := 19) (N := some 93) (v := undef) (a' := ?_) #[true, true, true, true, true, true, true, true, true, true, true, true, true, true, true, true, true, true, true, true, false, false] rfl rfl (any_of HT_.out (by kernel_rfl)) (fun _ _ _ h => h) (Or.inr ⟨by rfl, rfl⟩) ?_ ?_
              rotate_left
              · simp only [Act.put, List.setIfInBounds_toArray, List.set_cons_zero, List.set_cons_succ, i64_w, i32_w]
                rfl
              refine pure_ (i := 20) (N := some 94) (v := ?_) (a' := ?_) #[true, true, true, true, true, true, true, true, true, true, true, true, true, true, true, true, true, true, true, true, true, false] rfl rfl (any_of HT_.out (by kernel_rfl)) (fun _ _ _ h => h) (Or.inl ⟨by rfl, ?_⟩) ?_ ?_
              rotate_left
              · intro w'
                go_simp
                with_reducible rfl
              rotate_left
              · simp only [Act.put, List.setIfInBounds_toArray, List.set_cons_zero, List.set_cons_succ, i64_w, i32_w]
                rfl
              refine pure_ (i := 21) (N := some 95) (v := ?_) (a' := ?_) #[true, true, true, true, true, true, true, true, true, true, true, true, true, true, true, true, true, true, true, true, true, true] rfl rfl (any_of HT_.out (by kernel_rfl)) (fun _ _ _ h => h) (Or.inl ⟨by rfl, ?_⟩) ?_ ?_
              rotate_left
              · intro w'
                go_simp
                with_reducible rfl
              rotate_left
              · simp only [Act.put, List.setIfInBounds_toArray, List.set_cons_zero, List.set_cons_succ, i64_w, i32_w]
                rfl
              refine done_ (done_of HT_.out (by kernel_rfl)) ?_
              obtain ⟨s0, s1, s2, s3⟩ := hHeld
              go_wp2_with (first | ((with_reducible refine gate_store (t := 4) (p := 114) rfl ?_); refine store_event (t := 4) (p := 114) (v := ?vo) (w1 := (w7.setCell ⟨gf, i, none⟩ (.bool (!(P.testBit i))))) ?hg ?ho ?hn ?hr ?_; (case ho => rfl); (case hg => rfl); (case hn => rfl); (case hr => first | (go_simp; done) | (go_simp; rfl)); intro w8 hw; have HZ := Aside0.mk (show _ from HQ.out.put i (!(P.testBit i))); rw [← hw] at HZ; clear hw))
              go_roundw
              case measure => first | (simp [intOf]; done) | (simp [intOf]; omega)
              case rel => exact ⟨i + 1, hlt, by rw [HWS.out, hA, hB]; simp, by go_num, ⟨by rw [HST.out, HSV.out hA hB]; exact HZ.out⟩⟩
            | true =>
              rw [hB] at gb
              go_wp2
              refine start_ (n := 22) (S := fun w' => w'.cell? (da.add i) = some (.bool true) ∧ w'.cell? (db.add i) = some (.bool true) ∧ w'.cell? (dp.add i) = some (.bool (P.testBit i)) ∧ w'.cell? (dq.add i) = some (.bool (Q.testBit i))) (ds := []) #[false, false, false, false, false, false, false, false, false, false, false, false, false, false, false, false, false, false, false, false, false, false] (by kernel_rfl) rfl rfl ⟨ga, gb, gp, gq⟩ (fun hHeld => ?_); refine with_tabW TernShadows.tab11 TernShadows.bits11 (fun HT_ HW_ => ?_)
              generalize World.drew _ = w7 at HQ hx hf hHeld ⊢
              clear ga gb gp gq
              refine pure_ (i := 0) (N := some 74) (v := ?_) (a' := ?_) #[true, false, false, false, false, false, false, false, false, false, false, false, false, false, false, false, false, false, false, false, false, false] rfl rfl (any_of HT_.out (by kernel_rfl)) (fun _ _ _ h => h) (Or.inl ⟨by rfl, ?_⟩) ?_ ?_
              rotate_left
              · intro w'
                go_simp
                with_reducible rfl
              rotate_left
              · simp only [Act.put, List.setIfInBounds_toArray, List.set_cons_zero, List.set_cons_succ, i64_w, i32_w]
                rfl
              refine pure_ (i := 1) (N := some 75) (v := ?_) (a' := ?_) #[true, true, false, false, false, false, false, false, false, false, false, false, false, false, false, false, false, false, false, false, false, false] rfl rfl (any_of HT_.out (by kernel_rfl)) (fun _ _ _ h => h) (Or.inl ⟨by rfl, ?_⟩) ?_ ?_
              rotate_left
              · intro w'
                go_simp
                with_reducible rfl
              rotate_left
              · simp only [Act.put, List.setIfInBounds_toArray, List.set_cons_zero, List.set_cons_succ, i64_w, i32_w]
                rfl
              refine pure_ (i := 2) (N := some 76) (v := ?_) (a' := ?_) #[true, true, true, false, false, false, false, false, false, false, false, false, false, false, false, false, false, false, false, false, false, false] rfl rfl (any_of HT_.out (by kernel_rfl)) (fun _ _ _ h => h) (Or.inl ⟨by rfl, ?_⟩) ?_ ?_
              rotate_left
              · intro w'
                go_simp
                with_reducible rfl
              rotate_left
              · simp only [Act.put, List.setIfInBounds_toArray, List.set_cons_zero, List.set_cons_succ, i64_w, i32_w]
                rfl
              refine take_ (i := 3) (N := some 77) (v := ?_) (a' := ?_) #[true, true, true, true, false, false, false, false, false, false, false, false, false, false, false, false, false, false, false, false, false, false] rfl rfl (take_ofW HT_.out HW_.out (by kernel_rfl)) (fun _ _ _ h => h) (Or.inl ⟨by rfl, ?_⟩) hHeld ?_ ?_
              rotate_left
              · rintro w' ⟨s0, s1, s2, s3⟩
                go_simp
                with_reducible rfl
              rotate_left
              · simp only [Act.put, List.setIfInBounds_toArray, List.set_cons_zero, List.set_cons_succ, i64_w, i32_w]
                rfl
              refine pure_ (i := 4) (N := some 78) (v := ?_) (a' := ?_) #[true, true, true, true, true, false, false, false, false, false, false, false, false, false, false, false, false, false, false, false, false, false] rfl rfl (any_of HT_.out (by kernel_rfl)) (fun _ _ _ h => h) (Or.inl ⟨by rfl, ?_⟩) ?_ ?_
              rotate_left
              · intro w'
                go_simp
                with_reducible rfl
              rotate_left
              · simp only [Act.put, List.setIfInBounds_toArray, List.set_cons_zero, List.set_cons_succ, i64_w, i32_w]
                rfl
              refine pure_ (i := 5) (N := some 79) (v := ?_) (a' := ?_) #[true, true, true, true, true, true, false, false, false, false, false, false, false, false, false, false, false, false, false, false, false, false] rfl rfl (any_of HT_.out (by kernel_rfl)) (fun _ _ _ h => h) (Or.inl ⟨by rfl, ?_⟩) ?_ ?_
              rotate_left
              · intro w'
                go_simp
                with_reducible rfl
              rotate_left
              · simp only [Act.put, List.setIfInBounds_toArray, List.set_cons_zero, List.set_cons_succ, i64_w, i32_w]
                rfl
              refine pure_ (i := 6) (N := some 80) (v := ?_) (a' := ?_) #[true, true, true, true, true, true, true, false, false, false, false, false, false, false, false, false, false, false, false, false, false, false] rfl rfl (any_of HT_.out (by kernel_rfl)) (fun _ _ _ h => h) (Or.inl ⟨by rfl, ?_⟩) ?_ ?_
              rotate_left
              · intro w'
                go_simp
                with_reducible rfl
              rotate_left
              · simp only [Act.put, List.setIfInBounds_toArray, List.set_cons_zero, List.set_cons_succ, i64_w, i32_w]
                rfl
              refine pure_ (i := 7) (N := some 81) (v := ?_) (a' := ?_) #[true, true, true, true, true, true, true, true, false, false, false, false, false, false, false, false, false, false, false, false, false, false] rfl rfl (any_of HT_.out (by kernel_rfl)) (fun _ _ _ h => h) (Or.inl ⟨by rfl, ?_⟩) ?_ ?_
              rotate_left
              · intro w'
                go_simp
                with_reducible rfl
              rotate_left
              · simp only [Act.put, List.setIfInBounds_toArray, List.set_cons_zero, List.set_cons_succ, i64_w, i32_w]
                rfl
              refine take_ (i := 8) (N := some 82) (v := ?_) (a' := ?_) #[true, true, true, true, true, true, true, true, true, false, false, false, false, false, false, false, false, false, false, false, false, false] rfl rfl (take_ofW HT_.out HW_.out (by kernel_rfl)) (fun _ _ _ h => h) (Or.inl ⟨by rfl, ?_⟩) hHeld ?_ ?_
              rotate_left
              · rintro w' ⟨s0, s1, s2, s3⟩
                go_simp
                with_reducible rfl
              rotate_left
              · simp only [Act.put, List.setIfInBounds_toArray, List.set_cons_zero, List.set_cons_succ, i64_w, i32_w]
                rfl
              refine pure_ (i := 9) (N := some 83) (v := ?_) (a' := ?_) #[true, true, true, true, true, true, true, true, true, true, false, false, false, false, false, false, false, false, false, false, false, false] rfl rfl (any_of HT_.out (by kernel_rfl)) (fun _ _ _ h => h) (Or.inl ⟨by rfl, ?_⟩) ?_ ?_
              rotate_left
              · intro w'
                go_simp
                with_reducible rfl
              rotate_left
              · simp only [Act.put, List.setIfInBounds_toArray, List.set_cons_zero, List.set_cons_succ, i64_w, i32_w]
                rfl
              refine pure_ (i := 10) (N := some 84) (v := ?_) (a' := ?_) #[true, true, true, true, true, true, true, true, true, true, true, false, false, false, false, false, false, false, false, false, false, false] rfl rfl (any_of HT_.out (by kernel_rfl)) (fun _ _ _ h => h) (Or.inl ⟨by rfl, ?_⟩) ?_ ?_
              rotate_left
              · intro w'
                go_simp
                with_reducible rfl
              rotate_left
              · simp only [Act.put, List.setIfInBounds_toArray, List.set_cons_zero, List.set_cons_succ, i64_w, i32_w]
                rfl
              refine pure_ (i := 11) (N := some 85) (v := ?_) (a' := ?_) #[true, true, true, true, true, true, true, true, true, true, true, true, false, false, false, false, false, false, false, false, false, false] rfl rfl (any_of HT_.out (by kernel_rfl)) (fun _ _ _ h => h) (Or.inl ⟨by rfl, ?_⟩) ?_ ?_
              rotate_left
              · intro w'
                go_simp
                with_reducible rfl
              rotate_left
              · simp only [Act.put, List.setIfInBounds_toArray, List.set_cons_zero, List.set_cons_succ, i64_w, i32_w]
                rfl
              refine pure_ (i := 12) (N := some 86) (v := ?_) (a' := ?_) #[true, true, true, true, true, true, true, true, true, true, true, true, true, false, false, false, false, false, false, false, false, false] rfl rfl (any_of HT_.out (by kernel_rfl)) (fun _ _ _ h => h) (Or.inl ⟨by rfl, ?_⟩) ?_ ?_
              rotate_left
              · intro w'
                go_simp
                with_reducible rfl
              rotate_left
              · simp only [Act.put, List.setIfInBounds_toArray, List.set_cons_zero, List.set_cons_succ, i64_w, i32_w]
                rfl
              refine pure_ (i := 13) (N := some 87) (v := ?_) (a' := ?_) #[true, true, true, true, true, true, true, true, true, true, true, true, true, true, false, false, false, false, false, false, false, false] rfl rfl (any_of HT_.out (by kernel_rfl)) (fun _ _ _ h => h) (Or.inl ⟨by rfl, ?_⟩) ?_ ?_
              rotate_left
              · intro w'
                go_simp
                with_reducible rfl
              rotate_left
              · simp only [Act.put, List.setIfInBounds_toArray, List.set_cons_zero, List.set_cons_succ, i64_w, i32_w]
                rfl
              refine pure_ (i := 15) (N := some 89) (v := ?_) (a' := ?_) #[true, true, true, true, true, true, true, true, true, true, true, true, true, true, false, true, false, false, false, false, false, false] rfl rfl (any_of HT_.out (by kernel_rfl)) (fun _ _ _ h => h) (Or.inl ⟨by rfl, ?_⟩) ?_ ?_
              rotate_left
              · intro w'
                go_simp
                with_reducible rfl
              rotate_left
              · simp only [Act.put, List.setIfInBounds_toArray, List.set_cons_zero, List.set_cons_succ, i64_w, i32_w]
                rfl
              refine pure_ (i := 16) (N := some 90) (v := ?_) (a' := ?_) #[true, true, true, true, true, true, true, true, true, true, true, true, true, true, false, true, true, false, false, false, false, false] rfl rfl (any_of HT_.out (by kernel_rfl)) (fun _ _ _ h => h) (Or.inl ⟨by rfl, ?_⟩) ?_ ?_
              rotate_left
              · intro w'
                go_simp
                with_reducible rfl
              rotate_left
              · simp only [Act.put, List.setIfInBounds_toArray, List.set_cons_zero, List.set_cons_succ, i64_w, i32_w]
                rfl
              refine pure_ (i := 17) (N := some 91) (v := ?_) (a' := ?_) #[true, true, true, true, true, true, true, true, true, true, true, true, true, true, false, true, true, true, false, false, false, false] rfl rfl (any_of HT_.out (by kernel_rfl)) (fun _ _ _ h => h) (Or.inl ⟨by rfl, ?_⟩) ?_ ?_
              rotate_left
              · intro w'
                go_simp
                with_reducible rfl
              rotate_left
              · simp only [Act.put, List.setIfInBounds_toArray, List.set_cons_zero, List.set_cons_succ, i64_w, i32_w]
                rfl
              refine take_ (i := 14) (N := some 88) (v := ?_) (a' := ?_) #[true, true, true, true, true, true, true, true, true, true, true, true, true, true, true, true, true, true, false, false, false, false] rfl rfl (take_ofW HT_.out HW_.out (by kernel_rfl)) (fun _ _ _ h => h) (Or.inl ⟨by rfl, ?_⟩) hHeld ?_ ?_
              rotate_left
              · rintro w' ⟨s0, s1, s2, s3⟩
                go_simp
                with_reducible rfl
              rotate_left
              · simp only [Act.put, List.setIfInBounds_toArray, List.set_cons_zero, List.set_cons_succ, i64_w, i32_w]
                rfl
              refine take_ (i := 18) (N := some 92) (v := ?_) (a' := ?_) #[true, true, true, true, true, true, true, true, true, true, true, true, true, true, true, true, true, true, true, false, false, false] rfl rfl (take_ofW HT_.out HW_.out (by kernel_rfl)) (fun _ _ _ h => h) (Or.inl ⟨by rfl, ?_⟩) hHeld ?_ ?_
              rotate_left
              · rintro w' ⟨s0, s1, s2, s3⟩
                go_simp
                with_reducible rfl
              rotate_left
              · simp only [Act.put, List.setIfInBounds_toArray, List.set_cons_zero, List.set_cons_succ, i64_w, i32_w]
                rfl
              refine pure_ (i := 19) (N := some 93) (v := ?_) (a' := ?_) #[true, true, true, true, true, true, true, true, true, true, true, true, true, true, true, true, true, true, true, true, false, false] rfl rfl (any_of HT_.out (by kernel_rfl)) (fun _ _ _ h => h) (Or.inl ⟨by rfl, ?_⟩) ?_ ?_
              rotate_left
              · intro w'
                go_simp
                with_reducible rfl
              rotate_left
              · simp only [Act.put, List.setIfInBounds_toArray, List.set_cons_zero, List.set_cons_succ, i64_w, i32_w]
                rfl
              refine pure_ (i := 20) (N := some 94) (v := ?_) (a' := ?_) #[true, true, true, true, true, true, true, true, true, true, true, true, true, true, true, true, true, true, true, true, true, false] rfl rfl (any_of HT_.out (by kernel_rfl)) (fun _ _ _ h => h) (Or.inl ⟨by rfl, ?_⟩) ?_ ?_
              rotate_left
              · intro w'
                go_simp
                with_reducible rfl
              rotate_left
              · simp only [Act.put, List.setIfInBounds_toArray, List.set_cons_zero, List.set_cons_succ, i64_w, i32_w]
                rfl
              refine pure_ (i := 21) (N := some 95) (v := ?_) (a' := ?_) #[true, true, true, true, true, true, true, true, true, true, true, true, true, true, true, true, true, true, true, true, true, true] rfl rfl (any_of HT_.out (by kernel_rfl)) (fun _ _ _ h => h) (Or.inl ⟨by rfl, ?_⟩) ?_ ?_
              rotate_left
              · intro w'
                go_simp
                with_reducible rfl
              rotate_left
              · simp only [Act.put, List.setIfInBounds_toArray, List.set_cons_zero, List.set_cons_succ, i64_w, i32_w]
                rfl
              refine done_ (done_of HT_.out (by kernel_rfl)) ?_
              obtain ⟨s0, s1, s2, s3⟩ := hHeld
              cases hx2 : (!(P.testBit i == Q.testBit i)) with
              | false =>
                go_wp2
                go_roundw
                case measure => first | (simp [intOf]; done) | (simp [intOf]; omega)
                case rel => exact ⟨i + 1, hlt, by rw [HWS.out, hA, hB]; simp at hx2 ⊢; simp [hx2], by go_num, ⟨by rw [HNX.out (Or.inr hB)]; exact HQ.out⟩⟩
              | true =>
                go_wp2
                go_roundw
                case measure => first | (simp [intOf]; done) | (simp [intOf]; omega)
                case rel => exact ⟨i + 1, hlt, by rw [HWS.out, hA, hB]; simp at hx2 ⊢; simp [hx2], by go_num, ⟨by rw [HNX.out (Or.inr hB)]; exact HQ.out⟩⟩
        · have hie : i = n := by omega
          subst hie
          have hgw := HGW.out
          cases hw : wantB MA MB P Q i with
          | false =>
            rw [hw] at e14 hgw
            subst e14
            subst hgw
            have HM1 := Aside0.mk (HMM.out rfl).1
            have HM2 := Aside0.mk (HMM.out rfl).2
            go_upto_region 18 with (first | (go_at_call 37; with_reducible refine (rOf_at Af cf (freeN MA MB P Q i i) i (freeN_length ..) o0 o1 o2 _ (by have := (Kd.R_reads' HR.out.rf).2.2; rw [freeN_length] at this; exact this) (Kd.R_reads' HR.out.rf).2.1 HOF.out).mono ?_; rintro e w1 ⟨rfl, hb⟩; have HX := Aside0.mk (HR.out.bx.step hb); clear hb) | ((with_reducible refine gate_dst (N := 17) rfl ?_); refine box_event ?hg (N := 17) ?hd (cs := #[.int .i64 0, .int .u64 0, .int .u64 0]) (t := 32) ?hr ?_; (case hd => rfl); (case hg => rfl); (case hr => first | (go_simp; done) | (go_simp; rfl)); intro gk hgk w2 hbox hb; have HGE := Aside0.mk (show w.heap.size + 3 ≤ gk from by rw [hgk]; have := blk_lt HX.out.b2; omega); have HY := Aside0.mk (HX.out.step hb); have HO := Aside0.mk hbox; clear hgk hbox hb; have o_0 := blk_cell HO.out 0; have o_1 := blk_cell HO.out 1; have o_2 := blk_cell HO.out 2; simp only [List.getElem?_toArray, List.getElem?_cons_succ, List.getElem?_cons_zero] at o_0 o_1 o_2; have f_0 := blk_frozen HO.out 0; have f_1 := blk_frozen HO.out 1; have f_2 := blk_frozen HO.out 2))
            have hp3 := blk_set (blk_set (blk_set HO.out 0 (.int .i64 o0)) 1 (.int .u64 o1)) 2 (.int .u64 o2)
            simp only [List.setIfInBounds_toArray, List.set_cons_zero, List.set_cons_succ] at hp3
            have hb3 := ((HY.out.far HGE.out 0 (.int .i64 o0)).far HGE.out 1 (.int .u64 o1)).far HGE.out 2 (.int .u64 o2)
            generalize ((w2.setCell ⟨gk, 0, none⟩ (.int .i64 o0)).setCell ⟨gk, 1, none⟩ (.int .u64 o1)).setCell ⟨gk, 2, none⟩ (.int .u64 o2) = w3 at hp3 hb3 ⊢
            clear HX HO o_0 o_1 o_2 f_0 f_1 f_2 HY
            have HX := Aside0.mk hb3
            have HO := Aside0.mk hp3
            clear hp3 hb3
            have x3 := blk_cell HX.out.b0 3
            have x4 := blk_cell HX.out.b0 4
            have x5 := blk_cell HX.out.b0 5
            have x6 := blk_cell HX.out.b0 6
            have x7 := blk_cell HX.out.b0 7
            have x8 := blk_cell HX.out.b0 8
            have y3 := blk_cell HX.out.b1 3
            have y4 := blk_cell HX.out.b1 4
            have y5 := blk_cell HX.out.b1 5
            have y6 := blk_cell HX.out.b1 6
            have y7 := blk_cell HX.out.b1 7
            have y8 := blk_cell HX.out.b1 8
            have z0 := blk_cell HX.out.b2 0
            have z1 := blk_cell HX.out.b2 1
            have z2 := blk_cell HX.out.b2 2
            simp only [List.getElem?_toArray, List.getElem?_cons_succ, List.getElem?_cons_zero] at x3 x4 x5 x6 x7 x8 y3 y4 y5 y6 y7 y8 z0 z1 z2
            have t0 := blk_cell HO.out 0
            have t1 := blk_cell HO.out 1
            have t2 := blk_cell HO.out 2
            simp only [List.getElem?_toArray, List.getElem?_cons_succ, List.getElem?_cons_zero] at t0 t1 t2
            go_wp2_with (first | (go_at_call 38; with_reducible refine (shunterref02_Meets.calls 130 o0 o1 o2 q0 q1 q2 n0 n1 n2 true _ HM1.out).mono ?_; rintro e w1 ⟨rfl, hb⟩; have HY := Aside0.mk (HX.out.step hb); have HP2 := Aside0.mk (blk_below HO.out hb); clear HX HO; (try clear x3 x4 x5 x6 x7 x8 y3 y4 y5 y6 y7 y8 z0 z1 z2); (try clear t0 t1 t2); have HX := Aside0.mk HY.out; have HO := Aside0.mk HP2.out; clear HY HP2; have x3 := blk_cell HX.out.b0 3; have x4 := blk_cell HX.out.b0 4; have x5 := blk_cell HX.out.b0 5; have x6 := blk_cell HX.out.b0 6; have x7 := blk_cell HX.out.b0 7; have x8 := blk_cell HX.out.b0 8; have y3 := blk_cell HX.out.b1 3; have y4 := blk_cell HX.out.b1 4; have y5 := blk_cell HX.out.b1 5; have y6 := blk_cell HX.out.b1 6; have y7 := blk_cell HX.out.b1 7; have y8 := blk_cell HX.out.b1 8; have z0 := blk_cell HX.out.b2 0; have z1 := blk_cell HX.out.b2 1; have z2 := blk_cell HX.out.b2 2; simp only [List.getElem?_toArray, List.getElem?_cons_succ, List.getElem?_cons_zero] at x3 x4 x5 x6 x7 x8 y3 y4 y5 y6 y7 y8 z0 z1 z2; have t0 := blk_cell HO.out 0; have t1 := blk_cell HO.out 1; have t2 := blk_cell HO.out 2; simp only [List.getElem?_toArray, List.getElem?_cons_succ, List.getElem?_cons_zero] at t0 t1 t2; clear hb) | (go_at_call 38; with_reducible refine (shunterref02_Meets.calls 130 o0 o1 o2 p0 p1 p2 m0 m1 m2 false _ HM2.out).mono ?_; rintro e w1 ⟨rfl, hb⟩; have HY := Aside0.mk (HX.out.step hb); have HP2 := Aside0.mk (blk_below HO.out hb); clear HX HO; (try clear x3 x4 x5 x6 x7 x8 y3 y4 y5 y6 y7 y8 z0 z1 z2); (try clear t0 t1 t2); have HX := Aside0.mk HY.out; have HO := Aside0.mk HP2.out; clear HY HP2; have x3 := blk_cell HX.out.b0 3; have x4 := blk_cell HX.out.b0 4; have x5 := blk_cell HX.out.b0 5; have x6 := blk_cell HX.out.b0 6; have x7 := blk_cell HX.out.b0 7; have x8 := blk_cell HX.out.b0 8; have y3 := blk_cell HX.out.b1 3; have y4 := blk_cell HX.out.b1 4; have y5 := blk_cell HX.out.b1 5; have y6 := blk_cell HX.out.b1 6; have y7 := blk_cell HX.out.b1 7; have y8 := blk_cell HX.out.b1 8; have z0 := blk_cell HX.out.b2 0; have z1 := blk_cell HX.out.b2 1; have z2 := blk_cell HX.out.b2 2; simp only [List.getElem?_toArray, List.getElem?_cons_succ, List.getElem?_cons_zero] at x3 x4 x5 x6 x7 x8 y3 y4 y5 y6 y7 y8 z0 z1 z2; have t0 := blk_cell HO.out 0; have t1 := blk_cell HO.out 1; have t2 := blk_cell HO.out 2; simp only [List.getElem?_toArray, List.getElem?_cons_succ, List.getElem?_cons_zero] at t0 t1 t2; clear hb) | (go_at_call 35; with_reducible refine (lives_calls _).mono ?_; rintro e w1 ⟨rfl, hb⟩; have HY := Aside0.mk (HX.out.step hb); have HP2 := Aside0.mk (blk_below HO.out hb); clear HX HO; (try clear x3 x4 x5 x6 x7 x8 y3 y4 y5 y6 y7 y8 z0 z1 z2); (try clear t0 t1 t2); have HX := Aside0.mk HY.out; have HO := Aside0.mk HP2.out; clear HY HP2; have x3 := blk_cell HX.out.b0 3; have x4 := blk_cell HX.out.b0 4; have x5 := blk_cell HX.out.b0 5; have x6 := blk_cell HX.out.b0 6; have x7 := blk_cell HX.out.b0 7; have x8 := blk_cell HX.out.b0 8; have y3 := blk_cell HX.out.b1 3; have y4 := blk_cell HX.out.b1 4; have y5 := blk_cell HX.out.b1 5; have y6 := blk_cell HX.out.b1 6; have y7 := blk_cell HX.out.b1 7; have y8 := blk_cell HX.out.b1 8; have z0 := blk_cell HX.out.b2 0; have z1 := blk_cell HX.out.b2 1; have z2 := blk_cell HX.out.b2 2; simp only [List.getElem?_toArray, List.getElem?_cons_succ, List.getElem?_cons_zero] at x3 x4 x5 x6 x7 x8 y3 y4 y5 y6 y7 y8 z0 z1 z2; have t0 := blk_cell HO.out 0; have t1 := blk_cell HO.out 1; have t2 := blk_cell HO.out 2; simp only [List.getElem?_toArray, List.getElem?_cons_succ, List.getElem?_cons_zero] at t0 t1 t2; clear hb))
            go_ret
            exact ⟨rfl, HX.out.below⟩
          | true =>
            rw [hw] at e14 hgw
            subst e14
            subst hgw
            have HI2 := Aside0.mk (HIMP.out rfl)
            go_upto_region 18 with (first | (go_at_call 37; with_reducible refine (rOf_at Af cf (freeN MA MB P Q i i) i (freeN_length ..) o0 o1 o2 _ (by have := (Kd.R_reads' HR.out.rf).2.2; rw [freeN_length] at this; exact this) (Kd.R_reads' HR.out.rf).2.1 HOF.out).mono ?_; rintro e w1 ⟨rfl, hb⟩; have HX := Aside0.mk (HR.out.bx.step hb); clear hb) | ((with_reducible refine gate_dst (N := 17) rfl ?_); refine box_event ?hg (N := 17) ?hd (cs := #[.int .i64 0, .int .u64 0, .int .u64 0]) (t := 32) ?hr ?_; (case hd => rfl); (case hg => rfl); (case hr => first | (go_simp; done) | (go_simp; rfl)); intro gk hgk w2 hbox hb; have HGE := Aside0.mk (show w.heap.size + 3 ≤ gk from by rw [hgk]; have := blk_lt HX.out.b2; omega); have HY := Aside0.mk (HX.out.step hb); have HO := Aside0.mk hbox; clear hgk hbox hb; have o_0 := blk_cell HO.out 0; have o_1 := blk_cell HO.out 1; have o_2 := blk_cell HO.out 2; simp only [List.getElem?_toArray, List.getElem?_cons_succ, List.getElem?_cons_zero] at o_0 o_1 o_2; have f_0 := blk_frozen HO.out 0; have f_1 := blk_frozen HO.out 1; have f_2 := blk_frozen HO.out 2))
            have hp3 := blk_set (blk_set (blk_set HO.out 0 (.int .i64 o0)) 1 (.int .u64 o1)) 2 (.int .u64 o2)
            simp only [List.setIfInBounds_toArray, List.set_cons_zero, List.set_cons_succ] at hp3
            have hb3 := ((HY.out.far HGE.out 0 (.int .i64 o0)).far HGE.out 1 (.int .u64 o1)).far HGE.out 2 (.int .u64 o2)
            generalize ((w2.setCell ⟨gk, 0, none⟩ (.int .i64 o0)).setCell ⟨gk, 1, none⟩ (.int .u64 o1)).setCell ⟨gk, 2, none⟩ (.int .u64 o2) = w3 at hp3 hb3 ⊢
            clear HX HO o_0 o_1 o_2 f_0 f_1 f_2 HY
            have HX := Aside0.mk hb3
            have HO := Aside0.mk hp3
            clear hp3 hb3
            have x3 := blk_cell HX.out.b0 3
            have x4 := blk_cell HX.out.b0 4
            have x5 := blk_cell HX.out.b0 5
            have x6 := blk_cell HX.out.b0 6
            have x7 := blk_cell HX.out.b0 7
            have x8 := blk_cell HX.out.b0 8
            have y3 := blk_cell HX.out.b1 3
            have y4 := blk_cell HX.out.b1 4
            have y5 := blk_cell HX.out.b1 5
            have y6 := blk_cell HX.out.b1 6
            have y7 := blk_cell HX.out.b1 7
            have y8 := blk_cell HX.out.b1 8
            have z0 := blk_cell HX.out.b2 0
            have z1 := blk_cell HX.out.b2 1
            have z2 := blk_cell HX.out.b2 2
            simp only [List.getElem?_toArray, List.getElem?_cons_succ, List.getElem?_cons_zero] at x3 x4 x5 x6 x7 x8 y3 y4 y5 y6 y7 y8 z0 z1 z2
            have t0 := blk_cell HO.out 0
            have t1 := blk_cell HO.out 1
            have t2 := blk_cell HO.out 2
            simp only [List.getElem?_toArray, List.getElem?_cons_succ, List.getElem?_cons_zero] at t0 t1 t2
            cases KB with
            | false =>
              go_wp2_with (first | (go_at_call 38; with_reducible refine (shunterref02_Meets.calls 130 k0 k1 k2 q0 q1 q2 n0 n1 n2 false _ HKB.out).mono ?_; rintro e w1 ⟨rfl, hb⟩; have HY := Aside0.mk (HX.out.step hb); have HP2 := Aside0.mk (blk_below HO.out hb); clear HX HO; (try clear x3 x4 x5 x6 x7 x8 y3 y4 y5 y6 y7 y8 z0 z1 z2); (try clear t0 t1 t2); have HX := Aside0.mk HY.out; have HO := Aside0.mk HP2.out; clear HY HP2; have x3 := blk_cell HX.out.b0 3; have x4 := blk_cell HX.out.b0 4; have x5 := blk_cell HX.out.b0 5; have x6 := blk_cell HX.out.b0 6; have x7 := blk_cell HX.out.b0 7; have x8 := blk_cell HX.out.b0 8; have y3 := blk_cell HX.out.b1 3; have y4 := blk_cell HX.out.b1 4; have y5 := blk_cell HX.out.b1 5; have y6 := blk_cell HX.out.b1 6; have y7 := blk_cell HX.out.b1 7; have y8 := blk_cell HX.out.b1 8; have z0 := blk_cell HX.out.b2 0; have z1 := blk_cell HX.out.b2 1; have z2 := blk_cell HX.out.b2 2; simp only [List.getElem?_toArray, List.getElem?_cons_succ, List.getElem?_cons_zero] at x3 x4 x5 x6 x7 x8 y3 y4 y5 y6 y7 y8 z0 z1 z2; have t0 := blk_cell HO.out 0; have t1 := blk_cell HO.out 1; have t2 := blk_cell HO.out 2; simp only [List.getElem?_toArray, List.getElem?_cons_succ, List.getElem?_cons_zero] at t0 t1 t2; clear hb) | (go_at_call 35; with_reducible refine (lives_calls _).mono ?_; rintro e w1 ⟨rfl, hb⟩; have HY := Aside0.mk (HX.out.step hb); have HP2 := Aside0.mk (blk_below HO.out hb); clear HX HO; (try clear x3 x4 x5 x6 x7 x8 y3 y4 y5 y6 y7 y8 z0 z1 z2); (try clear t0 t1 t2); have HX := Aside0.mk HY.out; have HO := Aside0.mk HP2.out; clear HY HP2; have x3 := blk_cell HX.out.b0 3; have x4 := blk_cell HX.out.b0 4; have x5 := blk_cell HX.out.b0 5; have x6 := blk_cell HX.out.b0 6; have x7 := blk_cell HX.out.b0 7; have x8 := blk_cell HX.out.b0 8; have y3 := blk_cell HX.out.b1 3; have y4 := blk_cell HX.out.b1 4; have y5 := blk_cell HX.out.b1 5; have y6 := blk_cell HX.out.b1 6; have y7 := blk_cell HX.out.b1 7; have y8 := blk_cell HX.out.b1 8; have z0 := blk_cell HX.out.b2 0; have z1 := blk_cell HX.out.b2 1; have z2 := blk_cell HX.out.b2 2; simp only [List.getElem?_toArray, List.getElem?_cons_succ, List.getElem?_cons_zero] at x3 x4 x5 x6 x7 x8 y3 y4 y5 y6 y7 y8 z0 z1 z2; have t0 := blk_cell HO.out 0; have t1 := blk_cell HO.out 1; have t2 := blk_cell HO.out 2; simp only [List.getElem?_toArray, List.getElem?_cons_succ, List.getElem?_cons_zero] at t0 t1 t2; clear hb))
              go_ret
              exact ⟨rfl, HX.out.below⟩
            | true =>
              obtain rfl := HI2.out rfl
              go_wp2_with (first | (go_at_call 38; with_reducible refine (shunterref02_Meets.calls 130 k0 k1 k2 q0 q1 q2 n0 n1 n2 true _ HKB.out).mono ?_; rintro e w1 ⟨rfl, hb⟩; have HY := Aside0.mk (HX.out.step hb); have HP2 := Aside0.mk (blk_below HO.out hb); clear HX HO; (try clear x3 x4 x5 x6 x7 x8 y3 y4 y5 y6 y7 y8 z0 z1 z2); (try clear t0 t1 t2); have HX := Aside0.mk HY.out; have HO := Aside0.mk HP2.out; clear HY HP2; have x3 := blk_cell HX.out.b0 3; have x4 := blk_cell HX.out.b0 4; have x5 := blk_cell HX.out.b0 5; have x6 := blk_cell HX.out.b0 6; have x7 := blk_cell HX.out.b0 7; have x8 := blk_cell HX.out.b0 8; have y3 := blk_cell HX.out.b1 3; have y4 := blk_cell HX.out.b1 4; have y5 := blk_cell HX.out.b1 5; have y6 := blk_cell HX.out.b1 6; have y7 := blk_cell HX.out.b1 7; have y8 := blk_cell HX.out.b1 8; have z0 := blk_cell HX.out.b2 0; have z1 := blk_cell HX.out.b2 1; have z2 := blk_cell HX.out.b2 2; simp only [List.getElem?_toArray, List.getElem?_cons_succ, List.getElem?_cons_zero] at x3 x4 x5 x6 x7 x8 y3 y4 y5 y6 y7 y8 z0 z1 z2; have t0 := blk_cell HO.out 0; have t1 := blk_cell HO.out 1; have t2 := blk_cell HO.out 2; simp only [List.getElem?_toArray, List.getElem?_cons_succ, List.getElem?_cons_zero] at t0 t1 t2; clear hb) | (go_at_call 38; with_reducible refine (shunterref02_Meets.calls 130 k0 k1 k2 p0 p1 p2 m0 m1 m2 true _ HKA.out).mono ?_; rintro e w1 ⟨rfl, hb⟩; have HY := Aside0.mk (HX.out.step hb); have HP2 := Aside0.mk (blk_below HO.out hb); clear HX HO; (try clear x3 x4 x5 x6 x7 x8 y3 y4 y5 y6 y7 y8 z0 z1 z2); (try clear t0 t1 t2); have HX := Aside0.mk HY.out; have HO := Aside0.mk HP2.out; clear HY HP2; have x3 := blk_cell HX.out.b0 3; have x4 := blk_cell HX.out.b0 4; have x5 := blk_cell HX.out.b0 5; have x6 := blk_cell HX.out.b0 6; have x7 := blk_cell HX.out.b0 7; have x8 := blk_cell HX.out.b0 8; have y3 := blk_cell HX.out.b1 3; have y4 := blk_cell HX.out.b1 4; have y5 := blk_cell HX.out.b1 5; have y6 := blk_cell HX.out.b1 6; have y7 := blk_cell HX.out.b1 7; have y8 := blk_cell HX.out.b1 8; have z0 := blk_cell HX.out.b2 0; have z1 := blk_cell HX.out.b2 1; have z2 := blk_cell HX.out.b2 2; simp only [List.getElem?_toArray, List.getElem?_cons_succ, List.getElem?_cons_zero] at x3 x4 x5 x6 x7 x8 y3 y4 y5 y6 y7 y8 z0 z1 z2; have t0 := blk_cell HO.out 0; have t1 := blk_cell HO.out 1; have t2 := blk_cell HO.out 2; simp only [List.getElem?_toArray, List.getElem?_cons_succ, List.getElem?_cons_zero] at t0 t1 t2; clear hb) | (go_at_call 35; with_reducible refine (lives_calls _).mono ?_; rintro e w1 ⟨rfl, hb⟩; have HY := Aside0.mk (HX.out.step hb); have HP2 := Aside0.mk (blk_below HO.out hb); clear HX HO; (try clear x3 x4 x5 x6 x7 x8 y3 y4 y5 y6 y7 y8 z0 z1 z2); (try clear t0 t1 t2); have HX := Aside0.mk HY.out; have HO := Aside0.mk HP2.out; clear HY HP2; have x3 := blk_cell HX.out.b0 3; have x4 := blk_cell HX.out.b0 4; have x5 := blk_cell HX.out.b0 5; have x6 := blk_cell HX.out.b0 6; have x7 := blk_cell HX.out.b0 7; have x8 := blk_cell HX.out.b0 8; have y3 := blk_cell HX.out.b1 3; have y4 := blk_cell HX.out.b1 4; have y5 := blk_cell HX.out.b1 5; have y6 := blk_cell HX.out.b1 6; have y7 := blk_cell HX.out.b1 7; have y8 := blk_cell HX.out.b1 8; have z0 := blk_cell HX.out.b2 0; have z1 := blk_cell HX.out.b2 1; have z2 := blk_cell HX.out.b2 2; simp only [List.getElem?_toArray, List.getElem?_cons_succ, List.getElem?_cons_zero] at x3 x4 x5 x6 x7 x8 y3 y4 y5 y6 y7 y8 z0 z1 z2; have t0 := blk_cell HO.out 0; have t1 := blk_cell HO.out 1; have t2 := blk_cell HO.out 2; simp only [List.getElem?_toArray, List.getElem?_cons_succ, List.getElem?_cons_zero] at t0 t1 t2; clear hb))
              go_ret
              exact ⟨rfl, HX.out.below⟩
end Go.Proofs.Ytfdbcnbakchcgaa.XT
