import Derived.Test.YtfdbcnbakchcgaaSv
import Derived.Test.YtfdbcnbakchcgaaXQx0
import Derived.Test.YtfdbcnbakchcgaaXQx6
import Derived.Test.YtfdbcnbakchcgaaXQx8
namespace Go.Proofs.Ytfdbcnbakchcgaa.XQ
open Go.RowKit Go.Proofs.YtfdbcnbakchcgaaW.PrintWords Go.Proofs.YtfdbcnbakchcgaaW.PrintLast Go.Proofs.YtfdbcnbakchcgaaW.PrintMore
attribute [local go_sem] max2_int min2_int max_two min_two max_three min_three max_four min_four
set_option linter.unusedVariables false
set_option linter.unusedSimpArgs false
-- EXT shunter/shunterref02.Two ROUNDS=0 MAKING=1 DEPS=shunter/shunterref02.May;shunter/shunterref02.Bits;shunter/shunterref02.Of;shunter/vec.And
def andL (x y : List Bool) (n : Nat) : List Bool := (List.range n).map fun i => (x.getD i false && y.getD i false)
theorem andL_length (x y : List Bool) (n : Nat) : (andL x y n).length = n := by simp [andL]
theorem andL_succ (x y : List Bool) (n : Nat) (b : Bool) (h : (x.getD n false && y.getD n false) = b) : andL x y (n + 1) = andL x y n ++ [b] := by simp [andL, List.range_succ, ← h]
def lessGo (x y : List Bool) : Nat → Bool
 | 0 => false
 | n + 1 => if x.getD n false = y.getD n false then lessGo x y n else y.getD n false
theorem rdOf_nat {α : Type} (d : α) (xs : List α) (i : Nat) : rdOf d xs (i : Int) = xs.getD i d := by simp [rdOf]
theorem Bits_length (a0 a1 a2 : Int) (x : List Bool) (h : shunterref02_Bits.f a0 a1 a2 = some x) : x.length = min a0.toNat 128 := by
 unfold shunterref02_Bits.f at h
 split at h
 ·rw [← Option.some.inj h]; simp
 ·cases h
theorem rOf_at (A0 : Option Addr) (c0 : Nat) (l0 : List Bool) (n : Nat) (hn : l0.length = n) (r1 r2 r3 : Int) (w : World) (hr0 : Kd.C Kd.bool w A0 n l0) (hc0 : n ≤ c0) (h : shunterref02_Of.f l0 = some (r1, r2, r3)) :
 Calls Try.prog 37 #[.slice A0 n c0] w fun e w' => e = .returned (.agg #[.int .i64 r1, .int .u64 r2, .int .u64 r3]) ∧ Below w.heap.size w w' := by
 subst hn
 exact shunterref02_Of.calls A0 c0 l0 r1 r2 r3 w hr0 hc0 h
def shunterref02_Two.f (op : ByteArray) (a0 a1 a2 b0 b1 b2 : Int) : Option (Int × Int × Int × Int) :=
 (shunterref02_May.f a0 a1 a2).bind fun ma => if ma = true then (shunterref02_May.f b0 b1 b2).bind fun mb => if mb = true then (if a0 = b0 then (shunterref02_Bits.f a0 a1 a2).bind fun x => (shunterref02_Bits.f b0 b1 b2).bind fun y =>
  (if op.data.toList = [97, 110, 100] then (shunterref02_Of.f (andL x y x.length)).bind fun r => some (r.1, r.2.1, r.2.2, 0)
   else if op.data.toList = [108, 101, 115, 115] then (shunterref02_Of.f [lessGo x y x.length]).bind fun r => some (r.1, r.2.1, r.2.2, 0) else none) else some (0, 0, 0, 9)) else some (0, 0, 0, 1) else some (0, 0, 0, 1)
set_option maxHeartbeats 400000 in
set_option maxRecDepth 100000 in
theorem rtwo_a (op : ByteArray) (a0 a1 a2 b0 b1 b2 : Int) (w : World) (hA : shunterref02_May.f a0 a1 a2 = some false) :
 Calls Try.prog 89 #[.string op, .agg #[.int .i64 a0, .int .u64 a1, .int .u64 a2], .agg #[.int .i64 b0, .int .u64 b1, .int .u64 b2]] w fun e w' => e = .returned (.tuple #[.agg #[.int .i64 0, .int .u64 0, .int .u64 0], .int .i64 1]) ∧ Below w.heap.size w w' := by
 have HA := Aside0.mk hA
 clear hA
 have H0 := Aside0.mk (BX3.start w (.cells #[.int .i64 a0, .int .u64 a1, .int .u64 a2] 32 (0, 0)) (.cells #[.int .i64 b0, .int .u64 b1, .int .u64 b2] 32 (0, 0)) (.cells #[.int .i64 0, .int .u64 0, .int .u64 0] 32 (0, 0)))
 go_enter Try.func89, Try.ntmps89
 go_wp2_with (first | (go_at_call 20; with_reducible refine (shunterref02_May.calls a0 a1 a2 false _ HA.out).mono ?_; rintro e w1 ⟨rfl, hb⟩; have H1 := Aside0.mk (H0.out.step hb); clear hb; (try clear cx0 cx1 cx2 cy0 cy1 cy2 cz0 cz1 cz2 zf); have cx0 := blk_cell H1.out.b0 0; have cx1 := blk_cell H1.out.b0 1; have cx2 := blk_cell H1.out.b0 2; have cy0 := blk_cell H1.out.b1 0; have cy1 := blk_cell H1.out.b1 1; have cy2 := blk_cell H1.out.b1 2; have cz0 := blk_cell H1.out.b2 0; have cz1 := blk_cell H1.out.b2 1; have cz2 := blk_cell H1.out.b2 2; have zf := blk_frozen H1.out.b2; simp only [List.getElem?_toArray, List.getElem?_cons_succ, List.getElem?_cons_zero] at cx0 cx1 cx2 cy0 cy1 cy2 cz0 cz1 cz2))
 refine bodyPost_ret (results_ct rfl _ _ (w.heap.size + 1 + 1) 32 _ (0, 0) _ rfl (blk_set (blk_set (blk_set H1.out.b2 0 _) 1 _) 2 _) Try.underlying32 rfl (by kernel_rfl)) rfl ⟨rfl, ?_⟩
 exact below_set (below_set (below_set H1.out.below (by omega)) (by omega)) (by omega)
set_option maxHeartbeats 400000 in
set_option maxRecDepth 100000 in
theorem rtwo_b (op : ByteArray) (a0 a1 a2 b0 b1 b2 : Int) (w : World) (hA : shunterref02_May.f a0 a1 a2 = some true) (hB : shunterref02_May.f b0 b1 b2 = some false) :
 Calls Try.prog 89 #[.string op, .agg #[.int .i64 a0, .int .u64 a1, .int .u64 a2], .agg #[.int .i64 b0, .int .u64 b1, .int .u64 b2]] w fun e w' => e = .returned (.tuple #[.agg #[.int .i64 0, .int .u64 0, .int .u64 0], .int .i64 1]) ∧ Below w.heap.size w w' := by
 have HA := Aside0.mk hA
 have HB := Aside0.mk hB
 clear hA hB
 have H0 := Aside0.mk (BX3.start w (.cells #[.int .i64 a0, .int .u64 a1, .int .u64 a2] 32 (0, 0)) (.cells #[.int .i64 b0, .int .u64 b1, .int .u64 b2] 32 (0, 0)) (.cells #[.int .i64 0, .int .u64 0, .int .u64 0] 32 (0, 0)))
 go_enter Try.func89, Try.ntmps89
 go_wp2_with (first | (go_at_call 20; with_reducible refine (shunterref02_May.calls a0 a1 a2 true _ HA.out).mono ?_; rintro e w1 ⟨rfl, hb⟩; have H1 := Aside0.mk (H0.out.step hb); clear hb; (try clear cx0 cx1 cx2 cy0 cy1 cy2 cz0 cz1 cz2 zf); have cx0 := blk_cell H1.out.b0 0; have cx1 := blk_cell H1.out.b0 1; have cx2 := blk_cell H1.out.b0 2; have cy0 := blk_cell H1.out.b1 0; have cy1 := blk_cell H1.out.b1 1; have cy2 := blk_cell H1.out.b1 2; have cz0 := blk_cell H1.out.b2 0; have cz1 := blk_cell H1.out.b2 1; have cz2 := blk_cell H1.out.b2 2; have zf := blk_frozen H1.out.b2; simp only [List.getElem?_toArray, List.getElem?_cons_succ, List.getElem?_cons_zero] at cx0 cx1 cx2 cy0 cy1 cy2 cz0 cz1 cz2) | (go_at_call 20; with_reducible refine (shunterref02_May.calls b0 b1 b2 false _ HB.out).mono ?_; rintro e w2 ⟨rfl, hb⟩; have H2 := Aside0.mk (H1.out.step hb); clear hb; (try clear cx0 cx1 cx2 cy0 cy1 cy2 cz0 cz1 cz2 zf); have cx0 := blk_cell H2.out.b0 0; have cx1 := blk_cell H2.out.b0 1; have cx2 := blk_cell H2.out.b0 2; have cy0 := blk_cell H2.out.b1 0; have cy1 := blk_cell H2.out.b1 1; have cy2 := blk_cell H2.out.b1 2; have cz0 := blk_cell H2.out.b2 0; have cz1 := blk_cell H2.out.b2 1; have cz2 := blk_cell H2.out.b2 2; have zf := blk_frozen H2.out.b2; simp only [List.getElem?_toArray, List.getElem?_cons_succ, List.getElem?_cons_zero] at cx0 cx1 cx2 cy0 cy1 cy2 cz0 cz1 cz2))
 refine bodyPost_ret (results_ct rfl _ _ (w.heap.size + 1 + 1) 32 _ (0, 0) _ rfl (blk_set (blk_set (blk_set H2.out.b2 0 _) 1 _) 2 _) Try.underlying32 rfl (by kernel_rfl)) rfl ⟨rfl, ?_⟩
 exact below_set (below_set (below_set H2.out.below (by omega)) (by omega)) (by omega)
set_option maxHeartbeats 400000 in
set_option maxRecDepth 100000 in
theorem rtwo_w (op : ByteArray) (a0 a1 a2 b0 b1 b2 : Int) (w : World) (hA : shunterref02_May.f a0 a1 a2 = some true) (hB : shunterref02_May.f b0 b1 b2 = some true) (hw : (a0 != b0) = true) :
 Calls Try.prog 89 #[.string op, .agg #[.int .i64 a0, .int .u64 a1, .int .u64 a2], .agg #[.int .i64 b0, .int .u64 b1, .int .u64 b2]] w fun e w' => e = .returned (.tuple #[.agg #[.int .i64 0, .int .u64 0, .int .u64 0], .int .i64 9]) ∧ Below w.heap.size w w' := by
 have HA := Aside0.mk hA
 have HB := Aside0.mk hB
 clear hA hB
 have H0 := Aside0.mk (BX3.start w (.cells #[.int .i64 a0, .int .u64 a1, .int .u64 a2] 32 (0, 0)) (.cells #[.int .i64 b0, .int .u64 b1, .int .u64 b2] 32 (0, 0)) (.cells #[.int .i64 0, .int .u64 0, .int .u64 0] 32 (0, 0)))
 go_enter Try.func89, Try.ntmps89
 go_wp2_with (first | (go_at_call 20; with_reducible refine (shunterref02_May.calls a0 a1 a2 true _ HA.out).mono ?_; rintro e w1 ⟨rfl, hb⟩; have H1 := Aside0.mk (H0.out.step hb); clear hb; (try clear cx0 cx1 cx2 cy0 cy1 cy2 cz0 cz1 cz2 zf); have cx0 := blk_cell H1.out.b0 0; have cx1 := blk_cell H1.out.b0 1; have cx2 := blk_cell H1.out.b0 2; have cy0 := blk_cell H1.out.b1 0; have cy1 := blk_cell H1.out.b1 1; have cy2 := blk_cell H1.out.b1 2; have cz0 := blk_cell H1.out.b2 0; have cz1 := blk_cell H1.out.b2 1; have cz2 := blk_cell H1.out.b2 2; have zf := blk_frozen H1.out.b2; simp only [List.getElem?_toArray, List.getElem?_cons_succ, List.getElem?_cons_zero] at cx0 cx1 cx2 cy0 cy1 cy2 cz0 cz1 cz2) | (go_at_call 20; with_reducible refine (shunterref02_May.calls b0 b1 b2 true _ HB.out).mono ?_; rintro e w2 ⟨rfl, hb⟩; have H2 := Aside0.mk (H1.out.step hb); clear hb; (try clear cx0 cx1 cx2 cy0 cy1 cy2 cz0 cz1 cz2 zf); have cx0 := blk_cell H2.out.b0 0; have cx1 := blk_cell H2.out.b0 1; have cx2 := blk_cell H2.out.b0 2; have cy0 := blk_cell H2.out.b1 0; have cy1 := blk_cell H2.out.b1 1; have cy2 := blk_cell H2.out.b1 2; have cz0 := blk_cell H2.out.b2 0; have cz1 := blk_cell H2.out.b2 1; have cz2 := blk_cell H2.out.b2 2; have zf := blk_frozen H2.out.b2; simp only [List.getElem?_toArray, List.getElem?_cons_succ, List.getElem?_cons_zero] at cx0 cx1 cx2 cy0 cy1 cy2 cz0 cz1 cz2))
 refine bodyPost_ret (results_ct rfl _ _ (w.heap.size + 1 + 1) 32 _ (0, 0) _ rfl (blk_set (blk_set (blk_set H2.out.b2 0 _) 1 _) 2 _) Try.underlying32 rfl (by kernel_rfl)) rfl ⟨rfl, ?_⟩
 exact below_set (below_set (below_set H2.out.below (by omega)) (by omega)) (by omega)
set_option maxHeartbeats 400000 in
set_option maxRecDepth 100000 in
theorem rtwo_less (a0 a1 a2 b1 b2 r1 r2 r3 : Int) (x y : List Bool) (w : World) (hA : shunterref02_May.f a0 a1 a2 = some true) (hB : shunterref02_May.f a0 b1 b2 = some true) (hX : shunterref02_Bits.f a0 a1 a2 = some x) (hY : shunterref02_Bits.f a0 b1 b2 = some y) (hO : shunterref02_Of.f [lessGo x y x.length] = some (r1, r2, r3)) :
 Calls Try.prog 89 #[.string (⟨#[108, 101, 115, 115]⟩ : ByteArray), .agg #[.int .i64 a0, .int .u64 a1, .int .u64 a2], .agg #[.int .i64 a0, .int .u64 b1, .int .u64 b2]] w fun e w' => e = .returned (.tuple #[.agg #[.int .i64 r1, .int .u64 r2, .int .u64 r3], .int .i64 0]) ∧ Below w.heap.size w w' := by
 have HA := Aside0.mk hA
 have HB := Aside0.mk hB
 have HX := Aside0.mk hX
 have HY := Aside0.mk hY
 have hne : (a0 != a0) = false := by simp
 have hxl := Bits_length _ _ _ _ hX
 have hyl : y.length = x.length := by rw [hxl]; exact Bits_length _ _ _ _ hY
 have hx128 : x.length ≤ 128 := by omega
 obtain ⟨n, hn⟩ : ∃ n, x.length = n := ⟨_, rfl⟩
 have HN := Aside0.mk hn
 have HYL := Aside0.mk hyl
 have hn128 : n ≤ 128 := by omega
 clear hA hB hX hY hxl hyl hx128 hn
 have H0 := Aside0.mk (BX3.start w (.cells #[.int .i64 a0, .int .u64 a1, .int .u64 a2] 32 (0, 0)) (.cells #[.int .i64 a0, .int .u64 b1, .int .u64 b2] 32 (0, 0)) (.cells #[.int .i64 0, .int .u64 0, .int .u64 0] 32 (0, 0)))
 go_enter Try.func89, Try.ntmps89
 go_wp2_with (first | (go_at_call 20; with_reducible refine (shunterref02_May.calls a0 a1 a2 true _ HA.out).mono ?_; rintro e w1 ⟨rfl, hb⟩; have H1 := Aside0.mk (H0.out.step hb); clear hb; (try clear cx0 cx1 cx2 cy0 cy1 cy2 cz0 cz1 cz2 zf); have cx0 := blk_cell H1.out.b0 0; have cx1 := blk_cell H1.out.b0 1; have cx2 := blk_cell H1.out.b0 2; have cy0 := blk_cell H1.out.b1 0; have cy1 := blk_cell H1.out.b1 1; have cy2 := blk_cell H1.out.b1 2; have cz0 := blk_cell H1.out.b2 0; have cz1 := blk_cell H1.out.b2 1; have cz2 := blk_cell H1.out.b2 2; have zf := blk_frozen H1.out.b2; simp only [List.getElem?_toArray, List.getElem?_cons_succ, List.getElem?_cons_zero] at cx0 cx1 cx2 cy0 cy1 cy2 cz0 cz1 cz2) | (go_at_call 20; with_reducible refine (shunterref02_May.calls a0 b1 b2 true _ HB.out).mono ?_; rintro e w2 ⟨rfl, hb⟩; have H2 := Aside0.mk (H1.out.step hb); clear hb; (try clear cx0 cx1 cx2 cy0 cy1 cy2 cz0 cz1 cz2 zf); have cx0 := blk_cell H2.out.b0 0; have cx1 := blk_cell H2.out.b0 1; have cx2 := blk_cell H2.out.b0 2; have cy0 := blk_cell H2.out.b1 0; have cy1 := blk_cell H2.out.b1 1; have cy2 := blk_cell H2.out.b1 2; have cz0 := blk_cell H2.out.b2 0; have cz1 := blk_cell H2.out.b2 1; have cz2 := blk_cell H2.out.b2 2; have zf := blk_frozen H2.out.b2; simp only [List.getElem?_toArray, List.getElem?_cons_succ, List.getElem?_cons_zero] at cx0 cx1 cx2 cy0 cy1 cy2 cz0 cz1 cz2))
 refine start_ (n := 6) (S := fun w' => w'.cell? ⟨w.heap.size, 0, none⟩ = some (.int .i64 a0) ∧ w'.cell? ⟨w.heap.size, 1, none⟩ = some (.int .u64 a1) ∧ w'.cell? ⟨w.heap.size, 2, none⟩ = some (.int .u64 a2) ∧ w'.cell? ⟨w.heap.size + 1, 0, none⟩ = some (.int .i64 a0) ∧ w'.cell? ⟨w.heap.size + 1, 1, none⟩ = some (.int .u64 b1) ∧ w'.cell? ⟨w.heap.size + 1, 2, none⟩ = some (.int .u64 b2)) (ds := []) #[false, false, false, false, false, false] (by kernel_rfl) rfl rfl ⟨cx0, cx1, cx2, cy0, cy1, cy2⟩ (fun hHeld => ?_)
 refine pl_ [0, 2] ?_
 iterate 2 refine yT hHeld rfl rfl ?_ (by rintro w' ⟨s0, s1, s2, s3, s4, s5⟩; go_simp; with_reducible rfl)
 refine pl0 ?_
 refine one_ (i := 1) (N := some 37) #[true, true, true, false, false, false] rfl rfl (by kernel_rfl) (by decide) (fun K hK => ?_)
 refine goes_ Try.func36 (by kernel_rfl) rfl #[.agg #[.int .i64 a0, .int .u64 a1, .int .u64 a2]] (by rfl) rfl rfl (by simp only [List.map_toArray, List.map_cons, List.map_nil]; rfl) ?_
 with_reducible refine (shunterref02_Bits.calls a0 a1 a2 x _ HX.out).mono ?_
 rintro e w3 ⟨vx, rfl, ho, hb⟩
 refine ⟨_, rfl, ?_⟩
 obtain ⟨Ax, cx, rfl⟩ := Kd.R_slice ho
 have Cx := Aside0.mk (Kd.R_reads' ho).2
 have H3 := Aside0.mk (H2.out.drew.step hb)
 clear hb ho
 (try clear cx0 cx1 cx2 cy0 cy1 cy2 cz0 cz1 cz2 zf)
 have cx0 := blk_cell H3.out.b0 0
 have cx1 := blk_cell H3.out.b0 1
 have cx2 := blk_cell H3.out.b0 2
 have cy0 := blk_cell H3.out.b1 0
 have cy1 := blk_cell H3.out.b1 1
 have cy2 := blk_cell H3.out.b1 2
 have cz0 := blk_cell H3.out.b2 0
 have cz1 := blk_cell H3.out.b2 1
 have cz2 := blk_cell H3.out.b2 2
 have zf := blk_frozen H3.out.b2
 simp only [List.getElem?_toArray, List.getElem?_cons_succ, List.getElem?_cons_zero] at cx0 cx1 cx2 cy0 cy1 cy2 cz0 cz1 cz2
 refine hK.out _ _ ⟨cx0, cx1, cx2, cy0, cy1, cy2⟩ (fun hHeld => ?_)
 clear hK K
 refine norm_ (a' := ?_) ?_ ?_
 rotate_left
 ·show Act.put _ (some 37) _ = _
  simp only [Act.put, List.setIfInBounds_toArray, List.set_cons_zero, List.set_cons_succ, i64_w, i32_w]
  rfl
 refine one_ (i := 3) (N := some 39) #[true, true, true, true, false, false] rfl rfl (by kernel_rfl) (by decide) (fun K hK => ?_)
 refine goes_ Try.func36 (by kernel_rfl) rfl #[.agg #[.int .i64 a0, .int .u64 b1, .int .u64 b2]] (by rfl) rfl rfl (by simp only [List.map_toArray, List.map_cons, List.map_nil]; rfl) ?_
 with_reducible refine (shunterref02_Bits.calls a0 b1 b2 y _ HY.out).mono ?_
 rintro e w4 ⟨vy, rfl, ho, hb⟩
 refine ⟨_, rfl, ?_⟩
 obtain ⟨Ay, cy, rfl⟩ := Kd.R_slice ho
 have Cy := Aside0.mk (Kd.R_reads' ho).2
 have H4 := Aside0.mk (H3.out.step hb)
 have Cx1 := Aside0.mk (Kd.C_below Cx.out.2 hb)
 clear hb ho
 (try clear cx0 cx1 cx2 cy0 cy1 cy2 cz0 cz1 cz2 zf)
 have cx0 := blk_cell H4.out.b0 0
 have cx1 := blk_cell H4.out.b0 1
 have cx2 := blk_cell H4.out.b0 2
 have cy0 := blk_cell H4.out.b1 0
 have cy1 := blk_cell H4.out.b1 1
 have cy2 := blk_cell H4.out.b1 2
 have cz0 := blk_cell H4.out.b2 0
 have cz1 := blk_cell H4.out.b2 1
 have cz2 := blk_cell H4.out.b2 2
 have zf := blk_frozen H4.out.b2
 simp only [List.getElem?_toArray, List.getElem?_cons_succ, List.getElem?_cons_zero] at cx0 cx1 cx2 cy0 cy1 cy2 cz0 cz1 cz2
 refine hK.out _ _ ⟨cx0, cx1, cx2, cy0, cy1, cy2⟩ (fun hHeld => ?_)
 clear hK K
 refine norm_ (a' := ?_) ?_ ?_
 rotate_left
 ·show Act.put _ (some 39) _ = _
  simp only [Act.put, List.setIfInBounds_toArray, List.set_cons_zero, List.set_cons_succ, i64_w, i32_w]
  rfl
 refine pl_ [4, 5] ?_
 iterate 2 refine qP rfl rfl ?_
 refine pl0 ?_
 refine done_ (by kernel_rfl) ?_
 (try clear cx0 cx1 cx2 cy0 cy1 cy2 cz0 cz1 cz2 zf)
 have HCX := Aside0.mk (HN.out ▸ Cx1.out : Kd.C Kd.bool w4 Ax n x)
 have HCY := Aside0.mk ((HYL.out.trans HN.out) ▸ Cy.out.2 : Kd.C Kd.bool w4 Ay n y)
 rw [HYL.out, HN.out]
 go_wp2
 go_loopw [10, 11, 12] (fun u10 u11 u12 w' => ∃ i : Nat, ∃ s : Bool, i ≤ n ∧ u12 = .int .i64 i ∧ u10 = .bool (lessGo x y i) ∧ u11 = .bool s ∧ Aside0 (Below w4.heap.size w4 w')) (fun _ _ u12 _ => n - (intOf u12).toNat)
 case atStart => exact ⟨0, true, Nat.zero_le _, rfl, rfl, rfl, ⟨Below.refl _ _⟩⟩
 case round =>
  obtain ⟨i, s, hi, rfl, rfl, rfl, HB4⟩ := hrel
  by_cases hlt : i < n
  ·obtain ⟨adx, hAx, px⟩ := Kd.at_bool HCX.out (i : Int) (by omega) (by omega)
   subst hAx
   obtain ⟨ady, hAy, py⟩ := Kd.at_bool HCY.out (i : Int) (by omega) (by omega)
   subst hAy
   rw [Int.toNat_natCast, rdOf_nat] at px py
   replace px := (HB4.out.cell (World.block_lt_of_cell? _ _ px)).trans px
   replace py := (HB4.out.cell (World.block_lt_of_cell? _ _ py)).trans py
   have HLG := Aside0.mk (show lessGo x y (i + 1) = if x.getD i false = y.getD i false then lessGo x y i else y.getD i false from rfl)
   have hi0 : 0 ≤ (i : Int) := by omega
   have hil : (i : Int) < (n : Int) := by omega
   generalize x.getD i false = p at *
   generalize y.getD i false = q at *
   have HB5 := Aside0.mk (below_drew1 HB4.out)
   cases p <;> cases q
   ·go_wp2
    refine start_ (n := 9) (S := fun w' => w'.cell? (adx.add i) = some (.bool false) ∧ w'.cell? (ady.add i) = some (.bool false)) (ds := []) #[false, false, false, false, false, false, false, false, false] (by kernel_rfl) rfl rfl ⟨px, py⟩ (fun hHeld => ?_)
    refine pl_ [0, 1, 2, 4, 5, 6, 3, 7, 8] ?_
    iterate 6 refine qP rfl rfl ?_
    iterate 2 refine yT hHeld rfl rfl ?_ (by rintro w' ⟨s0, s1⟩; go_simp; with_reducible rfl)
    refine qP rfl rfl ?_
    refine pl0 ?_
    refine done_ (by kernel_rfl) ?_
    go_wp2
    go_roundw
    case measure => first | (simp [intOf]; done) | (simp [intOf]; omega)
    case rel => exact ⟨i + 1, _, hlt, by go_num, by rw [HLG.out]; rfl, rfl, HB5⟩
   ·go_wp2
    refine start_ (n := 9) (S := fun w' => w'.cell? (adx.add i) = some (.bool false) ∧ w'.cell? (ady.add i) = some (.bool true)) (ds := []) #[false, false, false, false, false, false, false, false, false] (by kernel_rfl) rfl rfl ⟨px, py⟩ (fun hHeld => ?_)
    refine pl_ [0, 1, 2, 4, 5, 6, 3, 7, 8] ?_
    iterate 6 refine qP rfl rfl ?_
    iterate 2 refine yT hHeld rfl rfl ?_ (by rintro w' ⟨s0, s1⟩; go_simp; with_reducible rfl)
    refine qP rfl rfl ?_
    refine pl0 ?_
    refine done_ (by kernel_rfl) ?_
    go_wp2
    go_roundw
    case measure => first | (simp [intOf]; done) | (simp [intOf]; omega)
    case rel => exact ⟨i + 1, _, hlt, by go_num, by rw [HLG.out]; rfl, rfl, HB5⟩
   ·go_wp2
    refine start_ (n := 9) (S := fun w' => w'.cell? (adx.add i) = some (.bool true) ∧ w'.cell? (ady.add i) = some (.bool false)) (ds := []) #[false, false, false, false, false, false, false, false, false] (by kernel_rfl) rfl rfl ⟨px, py⟩ (fun hHeld => ?_)
    refine pl_ [0, 1, 2, 4, 5, 6, 3, 7, 8] ?_
    iterate 6 refine qP rfl rfl ?_
    iterate 2 refine yT hHeld rfl rfl ?_ (by rintro w' ⟨s0, s1⟩; go_simp; with_reducible rfl)
    refine qP rfl rfl ?_
    refine pl0 ?_
    refine done_ (by kernel_rfl) ?_
    go_wp2
    go_roundw
    case measure => first | (simp [intOf]; done) | (simp [intOf]; omega)
    case rel => exact ⟨i + 1, _, hlt, by go_num, by rw [HLG.out]; rfl, rfl, HB5⟩
   ·go_wp2
    refine start_ (n := 9) (S := fun w' => w'.cell? (adx.add i) = some (.bool true) ∧ w'.cell? (ady.add i) = some (.bool true)) (ds := []) #[false, false, false, false, false, false, false, false, false] (by kernel_rfl) rfl rfl ⟨px, py⟩ (fun hHeld => ?_)
    refine pl_ [0, 1, 2, 4, 5, 6, 3, 7, 8] ?_
    iterate 6 refine qP rfl rfl ?_
    iterate 2 refine yT hHeld rfl rfl ?_ (by rintro w' ⟨s0, s1⟩; go_simp; with_reducible rfl)
    refine qP rfl rfl ?_
    refine pl0 ?_
    refine done_ (by kernel_rfl) ?_
    go_wp2
    go_roundw
    case measure => first | (simp [intOf]; done) | (simp [intOf]; omega)
    case rel => exact ⟨i + 1, _, hlt, by go_num, by rw [HLG.out]; rfl, rfl, HB5⟩
  ·have hie : i = n := by omega
   subst hie
   have H5 := Aside0.mk (H4.out.step HB4.out)
   have KX := Aside0.mk (Kd.C_below HCX.out HB4.out)
   have KY := Aside0.mk (Kd.C_below HCY.out HB4.out)
   clear H0 H1 H2 H3 H4 HCX HCY HB4 Cx Cx1 Cy
   have cx0 := blk_cell H5.out.b0 0
   have cx1 := blk_cell H5.out.b0 1
   have cx2 := blk_cell H5.out.b0 2
   have cy0 := blk_cell H5.out.b1 0
   have cy1 := blk_cell H5.out.b1 1
   have cy2 := blk_cell H5.out.b1 2
   have cz0 := blk_cell H5.out.b2 0
   have cz1 := blk_cell H5.out.b2 1
   have cz2 := blk_cell H5.out.b2 2
   have zf := blk_frozen H5.out.b2
   simp only [List.getElem?_toArray, List.getElem?_cons_succ, List.getElem?_cons_zero] at cx0 cx1 cx2 cy0 cy1 cy2 cz0 cz1 cz2
   generalize hbb : lessGo x y i = b at *
   have HOF := Aside0.mk (show shunterref02_Of.f [b] = some (r1, r2, r3) from by rw [← hbb, ← HN.out]; exact hO)
   clear hO hbb
   go_wp2_with (first
    | ((with_reducible refine gate_dst (N := 67) rfl ?_); refine Kd.R_lit Kd.bool _ 4 ?hg (N := 67) ?hd (xs := ([b] : List Bool)) (inner := [.bool b]) (ok := fun _ => True) (okp := fun _ => True) ?hr ?hp (fun _ hk => hk) trivial (Below.refl _ _) (Nat.le_refl _) (by simp) ?_; (case hd => rfl); (case hg => rfl); (case hr => first | (go_simp; done) | (go_simp; rfl)); (case hp => exact (Reps.one (show Kd.M Kd.bool _ _ _ b [.bool b] from rfl) (Reps.none _ _))); intro v6 w6 ho hb hg_ hnew_; clear hg_ hnew_; obtain ⟨A6, c6, rfl⟩ := Kd.R_slice ho; have C6 := Aside0.mk (Kd.R_reads' ho).2; have H6 := Aside0.mk (H5.out.step hb); clear hb ho; (try clear cx0 cx1 cx2 cy0 cy1 cy2 cz0 cz1 cz2 zf); have cx0 := blk_cell H6.out.b0 0; have cx1 := blk_cell H6.out.b0 1; have cx2 := blk_cell H6.out.b0 2; have cy0 := blk_cell H6.out.b1 0; have cy1 := blk_cell H6.out.b1 1; have cy2 := blk_cell H6.out.b1 2; have cz0 := blk_cell H6.out.b2 0; have cz1 := blk_cell H6.out.b2 1; have cz2 := blk_cell H6.out.b2 2; have zf := blk_frozen H6.out.b2; simp only [List.getElem?_toArray, List.getElem?_cons_succ, List.getElem?_cons_zero] at cx0 cx1 cx2 cy0 cy1 cy2 cz0 cz1 cz2)
    | (go_at_call 37; with_reducible refine (rOf_at _ _ [b] 1 rfl r1 r2 r3 _ C6.out.2 C6.out.1 HOF.out).mono ?_; rintro e w7 ⟨rfl, hb⟩; have H7 := Aside0.mk (H6.out.step hb); clear hb; (try clear cx0 cx1 cx2 cy0 cy1 cy2 cz0 cz1 cz2 zf); have cx0 := blk_cell H7.out.b0 0; have cx1 := blk_cell H7.out.b0 1; have cx2 := blk_cell H7.out.b0 2; have cy0 := blk_cell H7.out.b1 0; have cy1 := blk_cell H7.out.b1 1; have cy2 := blk_cell H7.out.b1 2; have cz0 := blk_cell H7.out.b2 0; have cz1 := blk_cell H7.out.b2 1; have cz2 := blk_cell H7.out.b2 2; have zf := blk_frozen H7.out.b2; simp only [List.getElem?_toArray, List.getElem?_cons_succ, List.getElem?_cons_zero] at cx0 cx1 cx2 cy0 cy1 cy2 cz0 cz1 cz2))
   refine bodyPost_ret (results_ct rfl _ _ (w.heap.size + 1 + 1) 32 _ (0, 0) _ rfl (blk_set (blk_set (blk_set H7.out.b2 0 _) 1 _) 2 _) Try.underlying32 rfl (by kernel_rfl)) rfl ⟨rfl, ?_⟩
   exact below_set (below_set (below_set H7.out.below (by omega)) (by omega)) (by omega)
set_option maxHeartbeats 2000000 in
set_option maxRecDepth 100000 in
theorem rtwo_and (a0 a1 a2 b1 b2 r1 r2 r3 : Int) (x y : List Bool) (w : World) (hA : shunterref02_May.f a0 a1 a2 = some true) (hB : shunterref02_May.f a0 b1 b2 = some true) (hX : shunterref02_Bits.f a0 a1 a2 = some x) (hY : shunterref02_Bits.f a0 b1 b2 = some y) (hO : shunterref02_Of.f (andL x y x.length) = some (r1, r2, r3)) :
 Calls Try.prog 89 #[.string (⟨#[97, 110, 100]⟩ : ByteArray), .agg #[.int .i64 a0, .int .u64 a1, .int .u64 a2], .agg #[.int .i64 a0, .int .u64 b1, .int .u64 b2]] w fun e w' => e = .returned (.tuple #[.agg #[.int .i64 r1, .int .u64 r2, .int .u64 r3], .int .i64 0]) ∧ Below w.heap.size w w' := by
 have HA := Aside0.mk hA
 have HB := Aside0.mk hB
 have HX := Aside0.mk hX
 have HY := Aside0.mk hY
 have hne : (a0 != a0) = false := by simp
 have hxl := Bits_length _ _ _ _ hX
 have hyl : y.length = x.length := by rw [hxl]; exact Bits_length _ _ _ _ hY
 have hx128 : x.length ≤ 128 := by omega
 obtain ⟨n, hn⟩ : ∃ n, x.length = n := ⟨_, rfl⟩
 have HN := Aside0.mk hn
 have HYL := Aside0.mk hyl
 have hn128 : n ≤ 128 := by omega
 clear hA hB hX hY hxl hyl hx128 hn
 have H0 := Aside0.mk (BX3.start w (.cells #[.int .i64 a0, .int .u64 a1, .int .u64 a2] 32 (0, 0)) (.cells #[.int .i64 a0, .int .u64 b1, .int .u64 b2] 32 (0, 0)) (.cells #[.int .i64 0, .int .u64 0, .int .u64 0] 32 (0, 0)))
 go_enter Try.func89, Try.ntmps89
 go_wp2_with (first | (go_at_call 20; with_reducible refine (shunterref02_May.calls a0 a1 a2 true _ HA.out).mono ?_; rintro e w1 ⟨rfl, hb⟩; have H1 := Aside0.mk (H0.out.step hb); clear hb; (try clear cx0 cx1 cx2 cy0 cy1 cy2 cz0 cz1 cz2 zf); have cx0 := blk_cell H1.out.b0 0; have cx1 := blk_cell H1.out.b0 1; have cx2 := blk_cell H1.out.b0 2; have cy0 := blk_cell H1.out.b1 0; have cy1 := blk_cell H1.out.b1 1; have cy2 := blk_cell H1.out.b1 2; have cz0 := blk_cell H1.out.b2 0; have cz1 := blk_cell H1.out.b2 1; have cz2 := blk_cell H1.out.b2 2; have zf := blk_frozen H1.out.b2; simp only [List.getElem?_toArray, List.getElem?_cons_succ, List.getElem?_cons_zero] at cx0 cx1 cx2 cy0 cy1 cy2 cz0 cz1 cz2) | (go_at_call 20; with_reducible refine (shunterref02_May.calls a0 b1 b2 true _ HB.out).mono ?_; rintro e w2 ⟨rfl, hb⟩; have H2 := Aside0.mk (H1.out.step hb); clear hb; (try clear cx0 cx1 cx2 cy0 cy1 cy2 cz0 cz1 cz2 zf); have cx0 := blk_cell H2.out.b0 0; have cx1 := blk_cell H2.out.b0 1; have cx2 := blk_cell H2.out.b0 2; have cy0 := blk_cell H2.out.b1 0; have cy1 := blk_cell H2.out.b1 1; have cy2 := blk_cell H2.out.b1 2; have cz0 := blk_cell H2.out.b2 0; have cz1 := blk_cell H2.out.b2 1; have cz2 := blk_cell H2.out.b2 2; have zf := blk_frozen H2.out.b2; simp only [List.getElem?_toArray, List.getElem?_cons_succ, List.getElem?_cons_zero] at cx0 cx1 cx2 cy0 cy1 cy2 cz0 cz1 cz2))
 refine start_ (n := 6) (S := fun w' => w'.cell? ⟨w.heap.size, 0, none⟩ = some (.int .i64 a0) ∧ w'.cell? ⟨w.heap.size, 1, none⟩ = some (.int .u64 a1) ∧ w'.cell? ⟨w.heap.size, 2, none⟩ = some (.int .u64 a2) ∧ w'.cell? ⟨w.heap.size + 1, 0, none⟩ = some (.int .i64 a0) ∧ w'.cell? ⟨w.heap.size + 1, 1, none⟩ = some (.int .u64 b1) ∧ w'.cell? ⟨w.heap.size + 1, 2, none⟩ = some (.int .u64 b2)) (ds := []) #[false, false, false, false, false, false] (by kernel_rfl) rfl rfl ⟨cx0, cx1, cx2, cy0, cy1, cy2⟩ (fun hHeld => ?_)
 refine pl_ [0, 2] ?_
 iterate 2 refine yT hHeld rfl rfl ?_ (by rintro w' ⟨s0, s1, s2, s3, s4, s5⟩; go_simp; with_reducible rfl)
 refine pl0 ?_
 refine one_ (i := 1) (N := some 37) #[true, true, true, false, false, false] rfl rfl (by kernel_rfl) (by decide) (fun K hK => ?_)
 refine goes_ Try.func36 (by kernel_rfl) rfl #[.agg #[.int .i64 a0, .int .u64 a1, .int .u64 a2]] (by rfl) rfl rfl (by simp only [List.map_toArray, List.map_cons, List.map_nil]; rfl) ?_
 with_reducible refine (shunterref02_Bits.calls a0 a1 a2 x _ HX.out).mono ?_
 rintro e w3 ⟨vx, rfl, ho, hb⟩
 refine ⟨_, rfl, ?_⟩
 obtain ⟨Ax, cx, rfl⟩ := Kd.R_slice ho
 have Cx := Aside0.mk (Kd.R_reads' ho).2
 have H3 := Aside0.mk (H2.out.drew.step hb)
 clear hb ho
 (try clear cx0 cx1 cx2 cy0 cy1 cy2 cz0 cz1 cz2 zf)
 have cx0 := blk_cell H3.out.b0 0
 have cx1 := blk_cell H3.out.b0 1
 have cx2 := blk_cell H3.out.b0 2
 have cy0 := blk_cell H3.out.b1 0
 have cy1 := blk_cell H3.out.b1 1
 have cy2 := blk_cell H3.out.b1 2
 have cz0 := blk_cell H3.out.b2 0
 have cz1 := blk_cell H3.out.b2 1
 have cz2 := blk_cell H3.out.b2 2
 have zf := blk_frozen H3.out.b2
 simp only [List.getElem?_toArray, List.getElem?_cons_succ, List.getElem?_cons_zero] at cx0 cx1 cx2 cy0 cy1 cy2 cz0 cz1 cz2
 refine hK.out _ _ ⟨cx0, cx1, cx2, cy0, cy1, cy2⟩ (fun hHeld => ?_)
 clear hK K
 refine norm_ (a' := ?_) ?_ ?_
 rotate_left
 ·show Act.put _ (some 37) _ = _
  simp only [Act.put, List.setIfInBounds_toArray, List.set_cons_zero, List.set_cons_succ, i64_w, i32_w]
  rfl
 refine one_ (i := 3) (N := some 39) #[true, true, true, true, false, false] rfl rfl (by kernel_rfl) (by decide) (fun K hK => ?_)
 refine goes_ Try.func36 (by kernel_rfl) rfl #[.agg #[.int .i64 a0, .int .u64 b1, .int .u64 b2]] (by rfl) rfl rfl (by simp only [List.map_toArray, List.map_cons, List.map_nil]; rfl) ?_
 with_reducible refine (shunterref02_Bits.calls a0 b1 b2 y _ HY.out).mono ?_
 rintro e w4 ⟨vy, rfl, ho, hb⟩
 refine ⟨_, rfl, ?_⟩
 obtain ⟨Ay, cy, rfl⟩ := Kd.R_slice ho
 have Cy := Aside0.mk (Kd.R_reads' ho).2
 have H4 := Aside0.mk (H3.out.step hb)
 have Cx1 := Aside0.mk (Kd.C_below Cx.out.2 hb)
 clear hb ho
 (try clear cx0 cx1 cx2 cy0 cy1 cy2 cz0 cz1 cz2 zf)
 have cx0 := blk_cell H4.out.b0 0
 have cx1 := blk_cell H4.out.b0 1
 have cx2 := blk_cell H4.out.b0 2
 have cy0 := blk_cell H4.out.b1 0
 have cy1 := blk_cell H4.out.b1 1
 have cy2 := blk_cell H4.out.b1 2
 have cz0 := blk_cell H4.out.b2 0
 have cz1 := blk_cell H4.out.b2 1
 have cz2 := blk_cell H4.out.b2 2
 have zf := blk_frozen H4.out.b2
 simp only [List.getElem?_toArray, List.getElem?_cons_succ, List.getElem?_cons_zero] at cx0 cx1 cx2 cy0 cy1 cy2 cz0 cz1 cz2
 refine hK.out _ _ ⟨cx0, cx1, cx2, cy0, cy1, cy2⟩ (fun hHeld => ?_)
 clear hK K
 refine norm_ (a' := ?_) ?_ ?_
 rotate_left
 ·show Act.put _ (some 39) _ = _
  simp only [Act.put, List.setIfInBounds_toArray, List.set_cons_zero, List.set_cons_succ, i64_w, i32_w]
  rfl
 refine pl_ [4, 5] ?_
 iterate 2 refine qP rfl rfl ?_
 refine pl0 ?_
 refine done_ (by kernel_rfl) ?_
 (try clear cx0 cx1 cx2 cy0 cy1 cy2 cz0 cz1 cz2 zf)
 have HCX := Aside0.mk (HN.out ▸ Cx1.out : Kd.C Kd.bool w4 Ax n x)
 have HCY := Aside0.mk ((HYL.out.trans HN.out) ▸ Cy.out.2 : Kd.C Kd.bool w4 Ay n y)
 rw [HYL.out, HN.out]
 go_wp2
 go_loopw [10, 11, 12] (fun u10 u11 u12 w' => ∃ i : Nat, ∃ s : Bool, i ≤ n ∧ u12 = .int .i64 i ∧ u10 = .bool (lessGo x y i) ∧ u11 = .bool s ∧ Aside0 (Below w4.heap.size w4 w')) (fun _ _ u12 _ => n - (intOf u12).toNat)
 case atStart => exact ⟨0, true, Nat.zero_le _, rfl, rfl, rfl, ⟨Below.refl _ _⟩⟩
 case round =>
  obtain ⟨i, s, hi, rfl, rfl, rfl, HB4⟩ := hrel
  by_cases hlt : i < n
  ·obtain ⟨adx, hAx, px⟩ := Kd.at_bool HCX.out (i : Int) (by omega) (by omega)
   subst hAx
   obtain ⟨ady, hAy, py⟩ := Kd.at_bool HCY.out (i : Int) (by omega) (by omega)
   subst hAy
   rw [Int.toNat_natCast, rdOf_nat] at px py
   replace px := (HB4.out.cell (World.block_lt_of_cell? _ _ px)).trans px
   replace py := (HB4.out.cell (World.block_lt_of_cell? _ _ py)).trans py
   have HLG := Aside0.mk (show lessGo x y (i + 1) = if x.getD i false = y.getD i false then lessGo x y i else y.getD i false from rfl)
   have hi0 : 0 ≤ (i : Int) := by omega
   have hil : (i : Int) < (n : Int) := by omega
   generalize x.getD i false = p at *
   generalize y.getD i false = q at *
   have HB5 := Aside0.mk (below_drew1 HB4.out)
   cases p <;> cases q
   ·go_wp2
    refine start_ (n := 9) (S := fun w' => w'.cell? (adx.add i) = some (.bool false) ∧ w'.cell? (ady.add i) = some (.bool false)) (ds := []) #[false, false, false, false, false, false, false, false, false] (by kernel_rfl) rfl rfl ⟨px, py⟩ (fun hHeld => ?_)
    refine pl_ [0, 1, 2, 4, 5, 6, 3, 7, 8] ?_
    iterate 6 refine qP rfl rfl ?_
    iterate 2 refine yT hHeld rfl rfl ?_ (by rintro w' ⟨s0, s1⟩; go_simp; with_reducible rfl)
    refine qP rfl rfl ?_
    refine pl0 ?_
    refine done_ (by kernel_rfl) ?_
    go_wp2
    go_roundw
    case measure => first | (simp [intOf]; done) | (simp [intOf]; omega)
    case rel => exact ⟨i + 1, _, hlt, by go_num, by rw [HLG.out]; rfl, rfl, HB5⟩
   ·go_wp2
    refine start_ (n := 9) (S := fun w' => w'.cell? (adx.add i) = some (.bool false) ∧ w'.cell? (ady.add i) = some (.bool true)) (ds := []) #[false, false, false, false, false, false, false, false, false] (by kernel_rfl) rfl rfl ⟨px, py⟩ (fun hHeld => ?_)
    refine pl_ [0, 1, 2, 4, 5, 6, 3, 7, 8] ?_
    iterate 6 refine qP rfl rfl ?_
    iterate 2 refine yT hHeld rfl rfl ?_ (by rintro w' ⟨s0, s1⟩; go_simp; with_reducible rfl)
    refine qP rfl rfl ?_
    refine pl0 ?_
    refine done_ (by kernel_rfl) ?_
    go_wp2
    go_roundw
    case measure => first | (simp [intOf]; done) | (simp [intOf]; omega)
    case rel => exact ⟨i + 1, _, hlt, by go_num, by rw [HLG.out]; rfl, rfl, HB5⟩
   ·go_wp2
    refine start_ (n := 9) (S := fun w' => w'.cell? (adx.add i) = some (.bool true) ∧ w'.cell? (ady.add i) = some (.bool false)) (ds := []) #[false, false, false, false, false, false, false, false, false] (by kernel_rfl) rfl rfl ⟨px, py⟩ (fun hHeld => ?_)
    refine pl_ [0, 1, 2, 4, 5, 6, 3, 7, 8] ?_
    iterate 6 refine qP rfl rfl ?_
    iterate 2 refine yT hHeld rfl rfl ?_ (by rintro w' ⟨s0, s1⟩; go_simp; with_reducible rfl)
    refine qP rfl rfl ?_
    refine pl0 ?_
    refine done_ (by kernel_rfl) ?_
    go_wp2
    go_roundw
    case measure => first | (simp [intOf]; done) | (simp [intOf]; omega)
    case rel => exact ⟨i + 1, _, hlt, by go_num, by rw [HLG.out]; rfl, rfl, HB5⟩
   ·go_wp2
    refine start_ (n := 9) (S := fun w' => w'.cell? (adx.add i) = some (.bool true) ∧ w'.cell? (ady.add i) = some (.bool true)) (ds := []) #[false, false, false, false, false, false, false, false, false] (by kernel_rfl) rfl rfl ⟨px, py⟩ (fun hHeld => ?_)
    refine pl_ [0, 1, 2, 4, 5, 6, 3, 7, 8] ?_
    iterate 6 refine qP rfl rfl ?_
    iterate 2 refine yT hHeld rfl rfl ?_ (by rintro w' ⟨s0, s1⟩; go_simp; with_reducible rfl)
    refine qP rfl rfl ?_
    refine pl0 ?_
    refine done_ (by kernel_rfl) ?_
    go_wp2
    go_roundw
    case measure => first | (simp [intOf]; done) | (simp [intOf]; omega)
    case rel => exact ⟨i + 1, _, hlt, by go_num, by rw [HLG.out]; rfl, rfl, HB5⟩
  ·have hie : i = n := by omega
   subst hie
   have H5 := Aside0.mk (H4.out.step HB4.out)
   have KX := Aside0.mk (Kd.C_below HCX.out HB4.out)
   have KY := Aside0.mk (Kd.C_below HCY.out HB4.out)
   clear H0 H1 H2 H3 H4 HCX HCY HB4 Cx Cx1 Cy
   obtain ⟨w5, hw5⟩ : ∃ w5, w5 = wr := ⟨_, rfl⟩
   rw [← hw5] at H5 KX KY ⊢
   clear hw5
   go_wp2
   go_loopw [13, 14, 15] (fun u13 u14 u15 w' => ∃ j : Nat, ∃ c : Bool, j ≤ i ∧ u15 = .int .i64 j ∧ u14 = .bool c ∧ Aside0 (Kd.R Kd.bool 4 w' w5.heap.size (fun _ => True) u13 (andL x y j)) ∧ Aside0 (Below w5.heap.size w5 w')) (fun _ _ u15 _ => i - (intOf u15).toNat)
   case atStart => exact ⟨0, false, Nat.zero_le _, rfl, rfl, ⟨Kd.R_nil _ _ _ _ _⟩, ⟨Below.refl _ _⟩⟩
   case round =>
    obtain ⟨j, c, hj, rfl, rfl, HR0, HB60⟩ := hrel
    obtain ⟨A5, c5, rfl⟩ := Kd.R_slice HR0.out
    by_cases hlt : j < i
    ·obtain ⟨adx, hAx, px⟩ := Kd.at_bool KX.out (j : Int) (by omega) (by omega)
     subst hAx
     obtain ⟨ady, hAy, py⟩ := Kd.at_bool KY.out (j : Int) (by omega) (by omega)
     subst hAy
     rw [Int.toNat_natCast, rdOf_nat] at px py
     replace px := (HB60.out.cell (World.block_lt_of_cell? _ _ px)).trans px
     replace py := (HB60.out.cell (World.block_lt_of_cell? _ _ py)).trans py
     have HAS := Aside0.mk (andL_succ x y j)
     have hj0 : 0 ≤ (j : Int) := by omega
     have hjl : (j : Int) < (i : Int) := by omega
     rw [andL_length]
     generalize x.getD j false = p at *
     generalize y.getD j false = q at *
     have HB6 := Aside0.mk (below_drew1 HB60.out)
     have HR := Aside0.mk (Kd.R_drew HR0.out)
     rw [andL_length] at HR
     cases p <;> cases q <;> cases c
     ·go_wp2
      refine start_ (n := 10) (S := fun w' => w'.cell? (adx.add j) = some (.bool false) ∧ w'.cell? (ady.add j) = some (.bool false)) (ds := []) #[false, false, false, false, false, false, false, false, false, false] (by kernel_rfl) rfl rfl ⟨px, py⟩ (fun hHeld => ?_)
      generalize wr.drew = wq at HB6 HR hHeld ⊢
      refine pl_ [0, 1, 2, 4, 5, 6, 3, 8, 7, 9] ?_
      iterate 6 refine qP rfl rfl ?_
      refine yT hHeld rfl rfl ?_ (by rintro w' ⟨s0, s1⟩; go_simp; with_reducible rfl)
      refine qP rfl rfl ?_
      refine yT hHeld rfl rfl ?_ (by rintro w' ⟨s0, s1⟩; go_simp; with_reducible rfl)
      refine qP rfl rfl ?_
      refine pl0 ?_
      refine done_ (by kernel_rfl) ?_
      go_wp2_with ((with_reducible refine gate_builtin (b := .append) (xs := #[.tmp 128, .tmp 130]) rfl ?_); at_builtin; refine Kd.R_append Kd.bool (w0 := w5) w5.heap.size rfl (.tmp 128) (.tmp 130) 63 4 (.bool false) 1 rfl Try.underlying63 info4x rfl (by decide) (by omega) _ (andL x y j) false [.bool false] (fun _ => True) (fun _ => False) rfl rfl ?aP (fun _ hk => hk.elim) ?aF ?aO ?aB ?aS ?aL ?_; (case aP => exact rfl); (case aB => exact HB6.out); (case aF => exact fun _ _ => trivial); (case aO => exact HR.out); (case aS => exact below_size HB6.out); (case aL => simp [andL_length]; omega); intro v7 w7 ho hb hg hat; obtain ⟨A7, c7, rfl⟩ := Kd.R_slice ho; have HR7 := Aside0.mk ho; have HB7 := Aside0.mk hb; clear ho hb hg hat)
      have hz7 := HR7.out
      rw [← HAS.out false rfl] at hz7
      go_roundw
      case measure => first | (simp [intOf]; done) | (simp [intOf]; omega)
      case rel => exact ⟨j + 1, _, hlt, by go_num, rfl, ⟨by simpa [andL_length] using hz7⟩, HB7⟩
     ·go_wp2
      refine start_ (n := 10) (S := fun w' => w'.cell? (adx.add j) = some (.bool false) ∧ w'.cell? (ady.add j) = some (.bool false)) (ds := []) #[false, false, false, false, false, false, false, false, false, false] (by kernel_rfl) rfl rfl ⟨px, py⟩ (fun hHeld => ?_)
      generalize wr.drew = wq at HB6 HR hHeld ⊢
      refine pl_ [0, 1, 2, 4, 5, 6, 3, 8, 7, 9] ?_
      iterate 6 refine qP rfl rfl ?_
      refine yT hHeld rfl rfl ?_ (by rintro w' ⟨s0, s1⟩; go_simp; with_reducible rfl)
      refine qP rfl rfl ?_
      refine yT hHeld rfl rfl ?_ (by rintro w' ⟨s0, s1⟩; go_simp; with_reducible rfl)
      refine qP rfl rfl ?_
      refine pl0 ?_
      refine done_ (by kernel_rfl) ?_
      go_wp2_with ((with_reducible refine gate_builtin (b := .append) (xs := #[.tmp 128, .tmp 130]) rfl ?_); at_builtin; refine Kd.R_append Kd.bool (w0 := w5) w5.heap.size rfl (.tmp 128) (.tmp 130) 63 4 (.bool false) 1 rfl Try.underlying63 info4x rfl (by decide) (by omega) _ (andL x y j) false [.bool false] (fun _ => True) (fun _ => False) rfl rfl ?aP (fun _ hk => hk.elim) ?aF ?aO ?aB ?aS ?aL ?_; (case aP => exact rfl); (case aB => exact HB6.out); (case aF => exact fun _ _ => trivial); (case aO => exact HR.out); (case aS => exact below_size HB6.out); (case aL => simp [andL_length]; omega); intro v7 w7 ho hb hg hat; obtain ⟨A7, c7, rfl⟩ := Kd.R_slice ho; have HR7 := Aside0.mk ho; have HB7 := Aside0.mk hb; clear ho hb hg hat)
      have hz7 := HR7.out
      rw [← HAS.out false rfl] at hz7
      go_roundw
      case measure => first | (simp [intOf]; done) | (simp [intOf]; omega)
      case rel => exact ⟨j + 1, _, hlt, by go_num, rfl, ⟨by simpa [andL_length] using hz7⟩, HB7⟩
     ·go_wp2
      refine start_ (n := 10) (S := fun w' => w'.cell? (adx.add j) = some (.bool false) ∧ w'.cell? (ady.add j) = some (.bool true)) (ds := []) #[false, false, false, false, false, false, false, false, false, false] (by kernel_rfl) rfl rfl ⟨px, py⟩ (fun hHeld => ?_)
      generalize wr.drew = wq at HB6 HR hHeld ⊢
      refine pl_ [0, 1, 2, 4, 5, 6, 3, 8, 7, 9] ?_
      iterate 6 refine qP rfl rfl ?_
      refine yT hHeld rfl rfl ?_ (by rintro w' ⟨s0, s1⟩; go_simp; with_reducible rfl)
      refine qP rfl rfl ?_
      refine yT hHeld rfl rfl ?_ (by rintro w' ⟨s0, s1⟩; go_simp; with_reducible rfl)
      refine qP rfl rfl ?_
      refine pl0 ?_
      refine done_ (by kernel_rfl) ?_
      go_wp2_with ((with_reducible refine gate_builtin (b := .append) (xs := #[.tmp 128, .tmp 130]) rfl ?_); at_builtin; refine Kd.R_append Kd.bool (w0 := w5) w5.heap.size rfl (.tmp 128) (.tmp 130) 63 4 (.bool false) 1 rfl Try.underlying63 info4x rfl (by decide) (by omega) _ (andL x y j) false [.bool false] (fun _ => True) (fun _ => False) rfl rfl ?aP (fun _ hk => hk.elim) ?aF ?aO ?aB ?aS ?aL ?_; (case aP => exact rfl); (case aB => exact HB6.out); (case aF => exact fun _ _ => trivial); (case aO => exact HR.out); (case aS => exact below_size HB6.out); (case aL => simp [andL_length]; omega); intro v7 w7 ho hb hg hat; obtain ⟨A7, c7, rfl⟩ := Kd.R_slice ho; have HR7 := Aside0.mk ho; have HB7 := Aside0.mk hb; clear ho hb hg hat)
      have hz7 := HR7.out
      rw [← HAS.out false rfl] at hz7
      go_roundw
      case measure => first | (simp [intOf]; done) | (simp [intOf]; omega)
      case rel => exact ⟨j + 1, _, hlt, by go_num, rfl, ⟨by simpa [andL_length] using hz7⟩, HB7⟩
     ·go_wp2
      refine start_ (n := 10) (S := fun w' => w'.cell? (adx.add j) = some (.bool false) ∧ w'.cell? (ady.add j) = some (.bool true)) (ds := []) #[false, false, false, false, false, false, false, false, false, false] (by kernel_rfl) rfl rfl ⟨px, py⟩ (fun hHeld => ?_)
      generalize wr.drew = wq at HB6 HR hHeld ⊢
      refine pl_ [0, 1, 2, 4, 5, 6, 3, 8, 7, 9] ?_
      iterate 6 refine qP rfl rfl ?_
      refine yT hHeld rfl rfl ?_ (by rintro w' ⟨s0, s1⟩; go_simp; with_reducible rfl)
      refine qP rfl rfl ?_
      refine yT hHeld rfl rfl ?_ (by rintro w' ⟨s0, s1⟩; go_simp; with_reducible rfl)
      refine qP rfl rfl ?_
      refine pl0 ?_
      refine done_ (by kernel_rfl) ?_
      go_wp2_with ((with_reducible refine gate_builtin (b := .append) (xs := #[.tmp 128, .tmp 130]) rfl ?_); at_builtin; refine Kd.R_append Kd.bool (w0 := w5) w5.heap.size rfl (.tmp 128) (.tmp 130) 63 4 (.bool false) 1 rfl Try.underlying63 info4x rfl (by decide) (by omega) _ (andL x y j) false [.bool false] (fun _ => True) (fun _ => False) rfl rfl ?aP (fun _ hk => hk.elim) ?aF ?aO ?aB ?aS ?aL ?_; (case aP => exact rfl); (case aB => exact HB6.out); (case aF => exact fun _ _ => trivial); (case aO => exact HR.out); (case aS => exact below_size HB6.out); (case aL => simp [andL_length]; omega); intro v7 w7 ho hb hg hat; obtain ⟨A7, c7, rfl⟩ := Kd.R_slice ho; have HR7 := Aside0.mk ho; have HB7 := Aside0.mk hb; clear ho hb hg hat)
      have hz7 := HR7.out
      rw [← HAS.out false rfl] at hz7
      go_roundw
      case measure => first | (simp [intOf]; done) | (simp [intOf]; omega)
      case rel => exact ⟨j + 1, _, hlt, by go_num, rfl, ⟨by simpa [andL_length] using hz7⟩, HB7⟩
     ·go_wp2
      refine start_ (n := 10) (S := fun w' => w'.cell? (adx.add j) = some (.bool true) ∧ w'.cell? (ady.add j) = some (.bool false)) (ds := []) #[false, false, false, false, false, false, false, false, false, false] (by kernel_rfl) rfl rfl ⟨px, py⟩ (fun hHeld => ?_)
      generalize wr.drew = wq at HB6 HR hHeld ⊢
      refine pl_ [0, 1, 2, 4, 5, 6, 3, 8, 7, 9] ?_
      iterate 6 refine qP rfl rfl ?_
      refine yT hHeld rfl rfl ?_ (by rintro w' ⟨s0, s1⟩; go_simp; with_reducible rfl)
      refine qP rfl rfl ?_
      refine yT hHeld rfl rfl ?_ (by rintro w' ⟨s0, s1⟩; go_simp; with_reducible rfl)
      refine qP rfl rfl ?_
      refine pl0 ?_
      refine done_ (by kernel_rfl) ?_
      go_wp2_with ((with_reducible refine gate_builtin (b := .append) (xs := #[.tmp 128, .tmp 130]) rfl ?_); at_builtin; refine Kd.R_append Kd.bool (w0 := w5) w5.heap.size rfl (.tmp 128) (.tmp 130) 63 4 (.bool false) 1 rfl Try.underlying63 info4x rfl (by decide) (by omega) _ (andL x y j) false [.bool false] (fun _ => True) (fun _ => False) rfl rfl ?aP (fun _ hk => hk.elim) ?aF ?aO ?aB ?aS ?aL ?_; (case aP => exact rfl); (case aB => exact HB6.out); (case aF => exact fun _ _ => trivial); (case aO => exact HR.out); (case aS => exact below_size HB6.out); (case aL => simp [andL_length]; omega); intro v7 w7 ho hb hg hat; obtain ⟨A7, c7, rfl⟩ := Kd.R_slice ho; have HR7 := Aside0.mk ho; have HB7 := Aside0.mk hb; clear ho hb hg hat)
      have hz7 := HR7.out
      rw [← HAS.out false rfl] at hz7
      go_roundw
      case measure => first | (simp [intOf]; done) | (simp [intOf]; omega)
      case rel => exact ⟨j + 1, _, hlt, by go_num, rfl, ⟨by simpa [andL_length] using hz7⟩, HB7⟩
     ·go_wp2
      refine start_ (n := 10) (S := fun w' => w'.cell? (adx.add j) = some (.bool true) ∧ w'.cell? (ady.add j) = some (.bool false)) (ds := []) #[false, false, false, false, false, false, false, false, false, false] (by kernel_rfl) rfl rfl ⟨px, py⟩ (fun hHeld => ?_)
      generalize wr.drew = wq at HB6 HR hHeld ⊢
      refine pl_ [0, 1, 2, 4, 5, 6, 3, 8, 7, 9] ?_
      iterate 6 refine qP rfl rfl ?_
      refine yT hHeld rfl rfl ?_ (by rintro w' ⟨s0, s1⟩; go_simp; with_reducible rfl)
      refine qP rfl rfl ?_
      refine yT hHeld rfl rfl ?_ (by rintro w' ⟨s0, s1⟩; go_simp; with_reducible rfl)
      refine qP rfl rfl ?_
      refine pl0 ?_
      refine done_ (by kernel_rfl) ?_
      go_wp2_with ((with_reducible refine gate_builtin (b := .append) (xs := #[.tmp 128, .tmp 130]) rfl ?_); at_builtin; refine Kd.R_append Kd.bool (w0 := w5) w5.heap.size rfl (.tmp 128) (.tmp 130) 63 4 (.bool false) 1 rfl Try.underlying63 info4x rfl (by decide) (by omega) _ (andL x y j) false [.bool false] (fun _ => True) (fun _ => False) rfl rfl ?aP (fun _ hk => hk.elim) ?aF ?aO ?aB ?aS ?aL ?_; (case aP => exact rfl); (case aB => exact HB6.out); (case aF => exact fun _ _ => trivial); (case aO => exact HR.out); (case aS => exact below_size HB6.out); (case aL => simp [andL_length]; omega); intro v7 w7 ho hb hg hat; obtain ⟨A7, c7, rfl⟩ := Kd.R_slice ho; have HR7 := Aside0.mk ho; have HB7 := Aside0.mk hb; clear ho hb hg hat)
      have hz7 := HR7.out
      rw [← HAS.out false rfl] at hz7
      go_roundw
      case measure => first | (simp [intOf]; done) | (simp [intOf]; omega)
      case rel => exact ⟨j + 1, _, hlt, by go_num, rfl, ⟨by simpa [andL_length] using hz7⟩, HB7⟩
     ·go_wp2
      refine start_ (n := 10) (S := fun w' => w'.cell? (adx.add j) = some (.bool true) ∧ w'.cell? (ady.add j) = some (.bool true)) (ds := []) #[false, false, false, false, false, false, false, false, false, false] (by kernel_rfl) rfl rfl ⟨px, py⟩ (fun hHeld => ?_)
      generalize wr.drew = wq at HB6 HR hHeld ⊢
      refine pl_ [0, 1, 2, 4, 5, 6, 3, 8, 7, 9] ?_
      iterate 6 refine qP rfl rfl ?_
      refine yT hHeld rfl rfl ?_ (by rintro w' ⟨s0, s1⟩; go_simp; with_reducible rfl)
      refine qP rfl rfl ?_
      refine yT hHeld rfl rfl ?_ (by rintro w' ⟨s0, s1⟩; go_simp; with_reducible rfl)
      refine qP rfl rfl ?_
      refine pl0 ?_
      refine done_ (by kernel_rfl) ?_
      go_wp2_with ((with_reducible refine gate_builtin (b := .append) (xs := #[.tmp 128, .tmp 130]) rfl ?_); at_builtin; refine Kd.R_append Kd.bool (w0 := w5) w5.heap.size rfl (.tmp 128) (.tmp 130) 63 4 (.bool false) 1 rfl Try.underlying63 info4x rfl (by decide) (by omega) _ (andL x y j) true [.bool true] (fun _ => True) (fun _ => False) rfl rfl ?aP (fun _ hk => hk.elim) ?aF ?aO ?aB ?aS ?aL ?_; (case aP => exact rfl); (case aB => exact HB6.out); (case aF => exact fun _ _ => trivial); (case aO => exact HR.out); (case aS => exact below_size HB6.out); (case aL => simp [andL_length]; omega); intro v7 w7 ho hb hg hat; obtain ⟨A7, c7, rfl⟩ := Kd.R_slice ho; have HR7 := Aside0.mk ho; have HB7 := Aside0.mk hb; clear ho hb hg hat)
      have hz7 := HR7.out
      rw [← HAS.out true rfl] at hz7
      go_roundw
      case measure => first | (simp [intOf]; done) | (simp [intOf]; omega)
      case rel => exact ⟨j + 1, _, hlt, by go_num, rfl, ⟨by simpa [andL_length] using hz7⟩, HB7⟩
     ·go_wp2
      refine start_ (n := 10) (S := fun w' => w'.cell? (adx.add j) = some (.bool true) ∧ w'.cell? (ady.add j) = some (.bool true)) (ds := []) #[false, false, false, false, false, false, false, false, false, false] (by kernel_rfl) rfl rfl ⟨px, py⟩ (fun hHeld => ?_)
      generalize wr.drew = wq at HB6 HR hHeld ⊢
      refine pl_ [0, 1, 2, 4, 5, 6, 3, 8, 7, 9] ?_
      iterate 6 refine qP rfl rfl ?_
      refine yT hHeld rfl rfl ?_ (by rintro w' ⟨s0, s1⟩; go_simp; with_reducible rfl)
      refine qP rfl rfl ?_
      refine yT hHeld rfl rfl ?_ (by rintro w' ⟨s0, s1⟩; go_simp; with_reducible rfl)
      refine qP rfl rfl ?_
      refine pl0 ?_
      refine done_ (by kernel_rfl) ?_
      go_wp2_with ((with_reducible refine gate_builtin (b := .append) (xs := #[.tmp 128, .tmp 130]) rfl ?_); at_builtin; refine Kd.R_append Kd.bool (w0 := w5) w5.heap.size rfl (.tmp 128) (.tmp 130) 63 4 (.bool false) 1 rfl Try.underlying63 info4x rfl (by decide) (by omega) _ (andL x y j) true [.bool true] (fun _ => True) (fun _ => False) rfl rfl ?aP (fun _ hk => hk.elim) ?aF ?aO ?aB ?aS ?aL ?_; (case aP => exact rfl); (case aB => exact HB6.out); (case aF => exact fun _ _ => trivial); (case aO => exact HR.out); (case aS => exact below_size HB6.out); (case aL => simp [andL_length]; omega); intro v7 w7 ho hb hg hat; obtain ⟨A7, c7, rfl⟩ := Kd.R_slice ho; have HR7 := Aside0.mk ho; have HB7 := Aside0.mk hb; clear ho hb hg hat)
      have hz7 := HR7.out
      rw [← HAS.out true rfl] at hz7
      go_roundw
      case measure => first | (simp [intOf]; done) | (simp [intOf]; omega)
      case rel => exact ⟨j + 1, _, hlt, by go_num, rfl, ⟨by simpa [andL_length] using hz7⟩, HB7⟩
    ·have hje : j = i := by omega
     subst hje
     have H6 := Aside0.mk (H5.out.step HB60.out)
     have C6 := Aside0.mk (Kd.R_reads' HR0.out).2
     have HOF := Aside0.mk (show shunterref02_Of.f (andL x y j) = some (r1, r2, r3) from by rw [← HN.out]; exact hO)
     clear hO
     have cx0 := blk_cell H6.out.b0 0
     have cx1 := blk_cell H6.out.b0 1
     have cx2 := blk_cell H6.out.b0 2
     have cy0 := blk_cell H6.out.b1 0
     have cy1 := blk_cell H6.out.b1 1
     have cy2 := blk_cell H6.out.b1 2
     have cz0 := blk_cell H6.out.b2 0
     have cz1 := blk_cell H6.out.b2 1
     have cz2 := blk_cell H6.out.b2 2
     have zf := blk_frozen H6.out.b2
     simp only [List.getElem?_toArray, List.getElem?_cons_succ, List.getElem?_cons_zero] at cx0 cx1 cx2 cy0 cy1 cy2 cz0 cz1 cz2
     rw [andL_length] at C6
     rw [andL_length]
     go_wp2
     go_loopw [20] (fun u20 w' => ∃ k : Nat, k ≤ j ∧ u20 = .int .i64 k ∧ w' = wr) (fun u20 _ => j - (intOf u20).toNat)
     case atStart => exact ⟨0, Nat.zero_le _, rfl, rfl⟩
     case round =>
      obtain ⟨k, hk, rfl, rfl⟩ := hrel
      by_cases hkk : k < j
      ·go_wp2
       go_roundw
       case measure => first | (simp [intOf]; done) | (simp [intOf]; omega)
       case rel => exact ⟨k + 1, hkk, by go_num, trivial⟩
      ·go_wp2_with (go_at_call 37; with_reducible refine (rOf_at _ _ (andL x y j) j (andL_length _ _ _) r1 r2 r3 _ C6.out.2 C6.out.1 HOF.out).mono ?_; rintro e w7 ⟨rfl, hb⟩; have H7 := Aside0.mk (H6.out.step hb); clear hb; (try clear cx0 cx1 cx2 cy0 cy1 cy2 cz0 cz1 cz2 zf); have cx0 := blk_cell H7.out.b0 0; have cx1 := blk_cell H7.out.b0 1; have cx2 := blk_cell H7.out.b0 2; have cy0 := blk_cell H7.out.b1 0; have cy1 := blk_cell H7.out.b1 1; have cy2 := blk_cell H7.out.b1 2; have cz0 := blk_cell H7.out.b2 0; have cz1 := blk_cell H7.out.b2 1; have cz2 := blk_cell H7.out.b2 2; have zf := blk_frozen H7.out.b2; simp only [List.getElem?_toArray, List.getElem?_cons_succ, List.getElem?_cons_zero] at cx0 cx1 cx2 cy0 cy1 cy2 cz0 cz1 cz2)
       refine bodyPost_ret (results_ct rfl _ _ (w.heap.size + 1 + 1) 32 _ (0, 0) _ rfl (blk_set (blk_set (blk_set H7.out.b2 0 _) 1 _) 2 _) Try.underlying32 rfl (by kernel_rfl)) rfl ⟨rfl, ?_⟩
       exact below_set (below_set (below_set H7.out.below (by omega)) (by omega)) (by omega)
theorem shunterref02_Two.calls (op : ByteArray) (a0 a1 a2 b0 b1 b2 r1 r2 r3 r4 : Int) (w : World) (h : shunterref02_Two.f op a0 a1 a2 b0 b1 b2 = some (r1, r2, r3, r4)) :
 Calls Try.prog 89 #[.string op, .agg #[.int .i64 a0, .int .u64 a1, .int .u64 a2], .agg #[.int .i64 b0, .int .u64 b1, .int .u64 b2]] w fun e w' => e = .returned (.tuple #[.agg #[.int .i64 r1, .int .u64 r2, .int .u64 r3], .int .i64 r4]) ∧ Below w.heap.size w w' := by
 unfold shunterref02_Two.f at h
 obtain ⟨ma, hA, h⟩ := Option.bind_eq_some_iff.mp h
 cases ma with
 | false =>
  rw [if_neg (by simp)] at h
  simp only [Option.some.injEq, Prod.mk.injEq] at h
  obtain ⟨rfl, rfl, rfl, rfl⟩ := h
  exact rtwo_a op a0 a1 a2 b0 b1 b2 w hA
 | true =>
  rw [if_pos rfl] at h
  obtain ⟨mb, hB, h⟩ := Option.bind_eq_some_iff.mp h
  cases mb with
  | false =>
   rw [if_neg (by simp)] at h
   simp only [Option.some.injEq, Prod.mk.injEq] at h
   obtain ⟨rfl, rfl, rfl, rfl⟩ := h
   exact rtwo_b op a0 a1 a2 b0 b1 b2 w hA hB
  | true =>
   rw [if_pos rfl] at h
   by_cases hw : a0 = b0
   ·subst hw
    rw [if_pos rfl] at h
    obtain ⟨x, hX, h⟩ := Option.bind_eq_some_iff.mp h
    obtain ⟨y, hY, h⟩ := Option.bind_eq_some_iff.mp h
    by_cases o1 : op.data.toList = [97, 110, 100]
    ·rw [if_pos o1] at h
     obtain ⟨⟨q1, q2, q3⟩, hO, h⟩ := Option.bind_eq_some_iff.mp h
     simp only [Option.some.injEq, Prod.mk.injEq] at h
     obtain ⟨rfl, rfl, rfl, rfl⟩ := h
     obtain rfl : op = (⟨#[97, 110, 100]⟩ : ByteArray) := by cases op with | mk d => cases d; cases o1; rfl
     exact rtwo_and a0 a1 a2 b1 b2 q1 q2 q3 x y w hA hB hX hY hO
    ·rw [if_neg o1] at h
     by_cases o2 : op.data.toList = [108, 101, 115, 115]
     ·rw [if_pos o2] at h
      obtain ⟨⟨q1, q2, q3⟩, hO, h⟩ := Option.bind_eq_some_iff.mp h
      simp only [Option.some.injEq, Prod.mk.injEq] at h
      obtain ⟨rfl, rfl, rfl, rfl⟩ := h
      obtain rfl : op = (⟨#[108, 101, 115, 115]⟩ : ByteArray) := by cases op with | mk d => cases d; cases o2; rfl
      exact rtwo_less a0 a1 a2 b1 b2 q1 q2 q3 x y w hA hB hX hY hO
     ·rw [if_neg o2] at h
      cases h
   ·rw [if_neg hw] at h
    simp only [Option.some.injEq, Prod.mk.injEq] at h
    obtain ⟨rfl, rfl, rfl, rfl⟩ := h
    exact rtwo_w op a0 a1 a2 b0 b1 b2 w hA hB (by simpa using hw)
end Go.Proofs.Ytfdbcnbakchcgaa.XQ
