import Derived.Test.YtfdbcnbakchcgaaSq
import Derived.Test.YtfdbcnbakchcgaaTl
namespace Go.Proofs.Ytfdbcnbakchcgaa.XT
open Go.RowKit Go.Proofs.YtfdbcnbakchcgaaW.PrintWords Go.Proofs.YtfdbcnbakchcgaaW.PrintLast Go.Proofs.YtfdbcnbakchcgaaW.PrintMore
attribute [local go_sem] max2_int min2_int max_two min_two max_three min_three max_four min_four   -- for this text's walks alone
set_option linter.unusedVariables false
set_option linter.unusedSimpArgs false
/-- The rules behind some operations. -/
def runI (W m : Int) (x : List S78) (ops : List S57) : List S78 := ops.foldl (fun x y => stepL W m x y.f0 (opX y)) x
theorem runI_take (W m : Int) (x : List S78) (ops : List S57) (i : Nat) (hi : i < ops.length) : runI W m x (ops.take (i + 1)) = stepL W m (runI W m x (ops.take i)) (ops[i]).f0 (opX ops[i]) := by
 unfold runI
 rw [List.take_succ_eq_append_getElem hi, List.foldl_append]; rfl
theorem runI_ok (W m : Int) (x : List S78) (hx : SI x m) (ops : List S57) (hok : ∀ y ∈ ops, okI (opX y)) : ∀ i, i ≤ ops.length → SI (runI W m x (ops.take i)) m ∧ (runI W m x (ops.take i)).length ≤ x.length + i
 | 0, _ => ⟨by simpa [runI] using hx, by simp [runI]⟩
 | i + 1, h => by
  obtain ⟨h1, h2⟩ := runI_ok W m x hx ops hok i (by omega)
  rw [runI_take W m x ops i (by omega)]
  refine ⟨h1.step W _ _ (hok _ (List.getElem_mem _)), ?_⟩
  have := stepL_length W m (runI W m x (ops.take i)) (ops[i]).f0 (opX ops[i])
  omega
theorem SI_nil (m : Int) (h : 0 ≤ m) : SI [] m := ⟨List.Pairwise.nil, fun y hy => by simp at hy, by simpa using h⟩
theorem neq59 (w : World) (a b c d e f g h : Int) : (binOp .neq 59 (.agg #[.int .i64 a, .int .u64 b, .int .u64 c, .int .i64 d, .int .u64 e, .int .u64 f, .int .i64 g, .int .i64 h]) (.agg #[.int .i64 a, .int .u64 b, .int .u64 c, .int .i64 d, .int .u64 e, .int .u64 f, .int .i64 g, .int .i64 h])).run Try.prog w = .ok (.bool false) w := by
 have h0 := eqA59 9997 w ⟨⟨a, b, c⟩, ⟨d, e, f⟩, g, h⟩ ⟨⟨a, b, c⟩, ⟨d, e, f⟩, g, h⟩
 simp only [binOp]
 simp only [Op.equal, Op.maxDepth]
 dsimp only at h0
 simp [h0]
set_option maxHeartbeats 1000000 in
set_option maxRecDepth 100000 in
theorem TernCopies_many1 (A B : Option Addr) (c d : Nat) (ops more : List S57) (w : World) (hl : 100 < ops.length) :
 Calls Try.prog 11 #[.slice A ops.length c, .slice B more.length d] w fun e_ w' => e_ = .returned (.bool true) ∧ Below w.heap.size w w' := by
 have HPN := Aside0.mk (fun w => (show Calls Try.prog 46 #[.pointer none, .agg #[.int .i64 1, .int .u64 0, .int .u64 0, .int .i64 1, .int .u64 0, .int .u64 0, .int .i64 0, .int .i64 0]] w (fun e_ w' => e_ = .returned (.int .i64 1) ∧ Below w.heap.size w w') from Put_nil ⟨⟨1, 0, 0⟩, ⟨1, 0, 0⟩, 0, 0⟩ w))
 have HSN := Aside0.mk (fun w => (show Calls Try.prog 47 #[.pointer none, .agg #[.int .i64 1, .int .u64 0, .int .u64 0, .int .i64 1, .int .u64 0, .int .u64 0, .int .i64 0, .int .i64 0]] w (fun e_ w' => e_ = .returned (.int .i64 1) ∧ Below w.heap.size w w') from Set_nil ⟨⟨1, 0, 0⟩, ⟨1, 0, 0⟩, 0, 0⟩ w))
 have HDN := Aside0.mk (fun w => (show Calls Try.prog 48 #[.pointer none, .agg #[.int .i64 1, .int .u64 0, .int .u64 0, .int .i64 1, .int .u64 0, .int .u64 0, .int .i64 0, .int .i64 0]] w (fun e_ w' => e_ = .returned (.int .i64 1) ∧ Below w.heap.size w w') from Drop_nil ⟨⟨1, 0, 0⟩, ⟨1, 0, 0⟩, 0, 0⟩ w))
 have g5 : decide ((100 : Int) < (ops.length : Int)) = true := decide_eq_true (by omega)
 clear hl
 go_enter Try.func11, Try.ntmps11
 go_upto_region 3 with (first | (go_at_call 32; with_reducible refine (shunterlaw21_mine.calls 0 0 0 1 0 0 1 0 0 1 0 0 1 0 0 0 0 _ rfl).mono ?_; rintro e_ w1 ⟨rfl, hb⟩; have HB1 := Aside0.mk hb; clear hb))
 have HX1 := Aside0.mk (blk_new w1 (.cells #[.int .i64 1, .int .u64 0, .int .u64 0, .int .i64 1, .int .u64 0, .int .u64 0, .int .i64 0, .int .i64 0] 59 (0, 0)))
 have HB2 := Aside0.mk (below_alloc HB1.out (.cells #[.int .i64 1, .int .u64 0, .int .u64 0, .int .i64 1, .int .u64 0, .int .u64 0, .int .i64 0, .int .i64 0] 59 (0, 0)))
 generalize w1.alloc (.cells #[.int .i64 1, .int .u64 0, .int .u64 0, .int .i64 1, .int .u64 0, .int .u64 0, .int .i64 0, .int .i64 0] 59 (0, 0)) = w2 at HX1 HB2 ⊢
 generalize w1.heap.size = gx at HX1 ⊢
 clear HB1
 have b0 := blk_cell HX1.out 0
 have b1 := blk_cell HX1.out 1
 have b2 := blk_cell HX1.out 2
 have b3 := blk_cell HX1.out 3
 have b4 := blk_cell HX1.out 4
 have b5 := blk_cell HX1.out 5
 have b6 := blk_cell HX1.out 6
 have b7 := blk_cell HX1.out 7
 simp only [List.getElem?_toArray, List.getElem?_cons_succ, List.getElem?_cons_zero] at b0 b1 b2 b3 b4 b5 b6 b7
 go_wp2_with (first | (go_at_call 41; with_reducible refine (Get_nil 1 0 0 _).mono ?_; rintro e_ w3 ⟨rfl, hb⟩; have HB3 := Aside0.mk (below_step HB2.out hb); have HX2 := Aside0.mk (blk_below HX1.out hb); clear HB2 HX1 hb b0 b1 b2 b3 b4 b5 b6 b7; have HB2 := Aside0.mk HB3.out; have HX1 := Aside0.mk HX2.out; clear HB3 HX2; have b0 := blk_cell HX1.out 0; have b1 := blk_cell HX1.out 1; have b2 := blk_cell HX1.out 2; have b3 := blk_cell HX1.out 3; have b4 := blk_cell HX1.out 4; have b5 := blk_cell HX1.out 5; have b6 := blk_cell HX1.out 6; have b7 := blk_cell HX1.out 7; simp only [List.getElem?_toArray, List.getElem?_cons_succ, List.getElem?_cons_zero] at b0 b1 b2 b3 b4 b5 b6 b7) | (go_at_call 46; with_reducible refine (HPN.out _).mono ?_; rintro e_ w4 ⟨rfl, hb⟩; have HB3 := Aside0.mk (below_step HB2.out hb); have HX2 := Aside0.mk (blk_below HX1.out hb); clear HB2 HX1 hb b0 b1 b2 b3 b4 b5 b6 b7; have HB2 := Aside0.mk HB3.out; have HX1 := Aside0.mk HX2.out; clear HB3 HX2; have b0 := blk_cell HX1.out 0; have b1 := blk_cell HX1.out 1; have b2 := blk_cell HX1.out 2; have b3 := blk_cell HX1.out 3; have b4 := blk_cell HX1.out 4; have b5 := blk_cell HX1.out 5; have b6 := blk_cell HX1.out 6; have b7 := blk_cell HX1.out 7; simp only [List.getElem?_toArray, List.getElem?_cons_succ, List.getElem?_cons_zero] at b0 b1 b2 b3 b4 b5 b6 b7) | (go_at_call 47; with_reducible refine (HSN.out _).mono ?_; rintro e_ w5 ⟨rfl, hb⟩; have HB3 := Aside0.mk (below_step HB2.out hb); have HX2 := Aside0.mk (blk_below HX1.out hb); clear HB2 HX1 hb b0 b1 b2 b3 b4 b5 b6 b7; have HB2 := Aside0.mk HB3.out; have HX1 := Aside0.mk HX2.out; clear HB3 HX2; have b0 := blk_cell HX1.out 0; have b1 := blk_cell HX1.out 1; have b2 := blk_cell HX1.out 2; have b3 := blk_cell HX1.out 3; have b4 := blk_cell HX1.out 4; have b5 := blk_cell HX1.out 5; have b6 := blk_cell HX1.out 6; have b7 := blk_cell HX1.out 7; simp only [List.getElem?_toArray, List.getElem?_cons_succ, List.getElem?_cons_zero] at b0 b1 b2 b3 b4 b5 b6 b7) | (go_at_call 48; with_reducible refine (HDN.out _).mono ?_; rintro e_ w6 ⟨rfl, hb⟩; have HB3 := Aside0.mk (below_step HB2.out hb); have HX2 := Aside0.mk (blk_below HX1.out hb); clear HB2 HX1 hb b0 b1 b2 b3 b4 b5 b6 b7; have HB2 := Aside0.mk HB3.out; have HX1 := Aside0.mk HX2.out; clear HB3 HX2; have b0 := blk_cell HX1.out 0; have b1 := blk_cell HX1.out 1; have b2 := blk_cell HX1.out 2; have b3 := blk_cell HX1.out 3; have b4 := blk_cell HX1.out 4; have b5 := blk_cell HX1.out 5; have b6 := blk_cell HX1.out 6; have b7 := blk_cell HX1.out 7; simp only [List.getElem?_toArray, List.getElem?_cons_succ, List.getElem?_cons_zero] at b0 b1 b2 b3 b4 b5 b6 b7) | (go_at_call 43; with_reducible refine (Len_nil _).mono ?_; rintro e_ w7 ⟨rfl, h_⟩; rw [h_]; clear h_ w7) | (go_at_call 42; with_reducible refine (List_nil _).mono ?_; rintro e_ w7 ⟨rfl, h_⟩; rw [h_]; clear h_ w7) | (go_at_call 49; with_reducible refine (Copy_nil _).mono ?_; rintro e_ w7 ⟨rfl, h_⟩; rw [h_]; clear h_ w7) | (go_at_call 35; with_reducible refine (lives_calls _).mono ?_; rintro e_ w8 ⟨rfl, hb⟩; have HZ := Aside0.mk (below_step HB2.out hb); clear hb))
 go_ret
 exact ⟨rfl, HZ.out⟩
set_option maxHeartbeats 1000000 in
set_option maxRecDepth 100000 in
theorem TernCopies_many2 (A B : Option Addr) (c d : Nat) (ops more : List S57) (w : World) (hk : ¬ 100 < ops.length) (hl : 100 < more.length) :
 Calls Try.prog 11 #[.slice A ops.length c, .slice B more.length d] w fun e_ w' => e_ = .returned (.bool true) ∧ Below w.heap.size w w' := by
 have HPN := Aside0.mk (fun w => (show Calls Try.prog 46 #[.pointer none, .agg #[.int .i64 1, .int .u64 0, .int .u64 0, .int .i64 1, .int .u64 0, .int .u64 0, .int .i64 0, .int .i64 0]] w (fun e_ w' => e_ = .returned (.int .i64 1) ∧ Below w.heap.size w w') from Put_nil ⟨⟨1, 0, 0⟩, ⟨1, 0, 0⟩, 0, 0⟩ w))
 have HSN := Aside0.mk (fun w => (show Calls Try.prog 47 #[.pointer none, .agg #[.int .i64 1, .int .u64 0, .int .u64 0, .int .i64 1, .int .u64 0, .int .u64 0, .int .i64 0, .int .i64 0]] w (fun e_ w' => e_ = .returned (.int .i64 1) ∧ Below w.heap.size w w') from Set_nil ⟨⟨1, 0, 0⟩, ⟨1, 0, 0⟩, 0, 0⟩ w))
 have HDN := Aside0.mk (fun w => (show Calls Try.prog 48 #[.pointer none, .agg #[.int .i64 1, .int .u64 0, .int .u64 0, .int .i64 1, .int .u64 0, .int .u64 0, .int .i64 0, .int .i64 0]] w (fun e_ w' => e_ = .returned (.int .i64 1) ∧ Below w.heap.size w w') from Drop_nil ⟨⟨1, 0, 0⟩, ⟨1, 0, 0⟩, 0, 0⟩ w))
 have g5 : decide ((100 : Int) < (ops.length : Int)) = false := decide_eq_false (by omega)
 have g6 : decide ((100 : Int) < (more.length : Int)) = true := decide_eq_true (by omega)
 clear hl hk
 go_enter Try.func11, Try.ntmps11
 go_upto_region 3 with (first | (go_at_call 32; with_reducible refine (shunterlaw21_mine.calls 0 0 0 1 0 0 1 0 0 1 0 0 1 0 0 0 0 _ rfl).mono ?_; rintro e_ w1 ⟨rfl, hb⟩; have HB1 := Aside0.mk hb; clear hb))
 have HX1 := Aside0.mk (blk_new w1 (.cells #[.int .i64 1, .int .u64 0, .int .u64 0, .int .i64 1, .int .u64 0, .int .u64 0, .int .i64 0, .int .i64 0] 59 (0, 0)))
 have HB2 := Aside0.mk (below_alloc HB1.out (.cells #[.int .i64 1, .int .u64 0, .int .u64 0, .int .i64 1, .int .u64 0, .int .u64 0, .int .i64 0, .int .i64 0] 59 (0, 0)))
 generalize w1.alloc (.cells #[.int .i64 1, .int .u64 0, .int .u64 0, .int .i64 1, .int .u64 0, .int .u64 0, .int .i64 0, .int .i64 0] 59 (0, 0)) = w2 at HX1 HB2 ⊢
 generalize w1.heap.size = gx at HX1 ⊢
 clear HB1
 have b0 := blk_cell HX1.out 0
 have b1 := blk_cell HX1.out 1
 have b2 := blk_cell HX1.out 2
 have b3 := blk_cell HX1.out 3
 have b4 := blk_cell HX1.out 4
 have b5 := blk_cell HX1.out 5
 have b6 := blk_cell HX1.out 6
 have b7 := blk_cell HX1.out 7
 simp only [List.getElem?_toArray, List.getElem?_cons_succ, List.getElem?_cons_zero] at b0 b1 b2 b3 b4 b5 b6 b7
 go_wp2_with (first | (go_at_call 41; with_reducible refine (Get_nil 1 0 0 _).mono ?_; rintro e_ w3 ⟨rfl, hb⟩; have HB3 := Aside0.mk (below_step HB2.out hb); have HX2 := Aside0.mk (blk_below HX1.out hb); clear HB2 HX1 hb b0 b1 b2 b3 b4 b5 b6 b7; have HB2 := Aside0.mk HB3.out; have HX1 := Aside0.mk HX2.out; clear HB3 HX2; have b0 := blk_cell HX1.out 0; have b1 := blk_cell HX1.out 1; have b2 := blk_cell HX1.out 2; have b3 := blk_cell HX1.out 3; have b4 := blk_cell HX1.out 4; have b5 := blk_cell HX1.out 5; have b6 := blk_cell HX1.out 6; have b7 := blk_cell HX1.out 7; simp only [List.getElem?_toArray, List.getElem?_cons_succ, List.getElem?_cons_zero] at b0 b1 b2 b3 b4 b5 b6 b7) | (go_at_call 46; with_reducible refine (HPN.out _).mono ?_; rintro e_ w4 ⟨rfl, hb⟩; have HB3 := Aside0.mk (below_step HB2.out hb); have HX2 := Aside0.mk (blk_below HX1.out hb); clear HB2 HX1 hb b0 b1 b2 b3 b4 b5 b6 b7; have HB2 := Aside0.mk HB3.out; have HX1 := Aside0.mk HX2.out; clear HB3 HX2; have b0 := blk_cell HX1.out 0; have b1 := blk_cell HX1.out 1; have b2 := blk_cell HX1.out 2; have b3 := blk_cell HX1.out 3; have b4 := blk_cell HX1.out 4; have b5 := blk_cell HX1.out 5; have b6 := blk_cell HX1.out 6; have b7 := blk_cell HX1.out 7; simp only [List.getElem?_toArray, List.getElem?_cons_succ, List.getElem?_cons_zero] at b0 b1 b2 b3 b4 b5 b6 b7) | (go_at_call 47; with_reducible refine (HSN.out _).mono ?_; rintro e_ w5 ⟨rfl, hb⟩; have HB3 := Aside0.mk (below_step HB2.out hb); have HX2 := Aside0.mk (blk_below HX1.out hb); clear HB2 HX1 hb b0 b1 b2 b3 b4 b5 b6 b7; have HB2 := Aside0.mk HB3.out; have HX1 := Aside0.mk HX2.out; clear HB3 HX2; have b0 := blk_cell HX1.out 0; have b1 := blk_cell HX1.out 1; have b2 := blk_cell HX1.out 2; have b3 := blk_cell HX1.out 3; have b4 := blk_cell HX1.out 4; have b5 := blk_cell HX1.out 5; have b6 := blk_cell HX1.out 6; have b7 := blk_cell HX1.out 7; simp only [List.getElem?_toArray, List.getElem?_cons_succ, List.getElem?_cons_zero] at b0 b1 b2 b3 b4 b5 b6 b7) | (go_at_call 48; with_reducible refine (HDN.out _).mono ?_; rintro e_ w6 ⟨rfl, hb⟩; have HB3 := Aside0.mk (below_step HB2.out hb); have HX2 := Aside0.mk (blk_below HX1.out hb); clear HB2 HX1 hb b0 b1 b2 b3 b4 b5 b6 b7; have HB2 := Aside0.mk HB3.out; have HX1 := Aside0.mk HX2.out; clear HB3 HX2; have b0 := blk_cell HX1.out 0; have b1 := blk_cell HX1.out 1; have b2 := blk_cell HX1.out 2; have b3 := blk_cell HX1.out 3; have b4 := blk_cell HX1.out 4; have b5 := blk_cell HX1.out 5; have b6 := blk_cell HX1.out 6; have b7 := blk_cell HX1.out 7; simp only [List.getElem?_toArray, List.getElem?_cons_succ, List.getElem?_cons_zero] at b0 b1 b2 b3 b4 b5 b6 b7) | (go_at_call 43; with_reducible refine (Len_nil _).mono ?_; rintro e_ w7 ⟨rfl, h_⟩; rw [h_]; clear h_ w7) | (go_at_call 42; with_reducible refine (List_nil _).mono ?_; rintro e_ w7 ⟨rfl, h_⟩; rw [h_]; clear h_ w7) | (go_at_call 49; with_reducible refine (Copy_nil _).mono ?_; rintro e_ w7 ⟨rfl, h_⟩; rw [h_]; clear h_ w7) | (go_at_call 35; with_reducible refine (lives_calls _).mono ?_; rintro e_ w8 ⟨rfl, hb⟩; have HZ := Aside0.mk (below_step HB2.out hb); clear hb))
 go_ret
 exact ⟨rfl, HZ.out⟩
set_option maxHeartbeats 1000000 in
set_option maxRecDepth 100000 in
theorem TernCopies_main (A B : Option Addr) (c d : Nat) (ops more : List S57) (w : World) (hl : ops.length ≤ 100) (hk : more.length ≤ 100) (hC : Kd.C k57 w A ops.length ops) (hD : Kd.C k57 w B more.length more) (hok : ∀ y ∈ ops, okI (opX y)) (hok2 : ∀ y ∈ more, okI (opX y)) :
 Calls Try.prog 11 #[.slice A ops.length c, .slice B more.length d] w fun e_ w' => e_ = .returned (.bool true) ∧ Below w.heap.size w w' := by
 have HPN := Aside0.mk (fun w => (show Calls Try.prog 46 #[.pointer none, .agg #[.int .i64 1, .int .u64 0, .int .u64 0, .int .i64 1, .int .u64 0, .int .u64 0, .int .i64 0, .int .i64 0]] w (fun e_ w' => e_ = .returned (.int .i64 1) ∧ Below w.heap.size w w') from Put_nil ⟨⟨1, 0, 0⟩, ⟨1, 0, 0⟩, 0, 0⟩ w))
 have HSN := Aside0.mk (fun w => (show Calls Try.prog 47 #[.pointer none, .agg #[.int .i64 1, .int .u64 0, .int .u64 0, .int .i64 1, .int .u64 0, .int .u64 0, .int .i64 0, .int .i64 0]] w (fun e_ w' => e_ = .returned (.int .i64 1) ∧ Below w.heap.size w w') from Set_nil ⟨⟨1, 0, 0⟩, ⟨1, 0, 0⟩, 0, 0⟩ w))
 have HDN := Aside0.mk (fun w => (show Calls Try.prog 48 #[.pointer none, .agg #[.int .i64 1, .int .u64 0, .int .u64 0, .int .i64 1, .int .u64 0, .int .u64 0, .int .i64 0, .int .i64 0]] w (fun e_ w' => e_ = .returned (.int .i64 1) ∧ Below w.heap.size w w') from Drop_nil ⟨⟨1, 0, 0⟩, ⟨1, 0, 0⟩, 0, 0⟩ w))
 have HN := Aside0.mk (fun w => New_ok 8 20 w (by omega) (by omega) (by omega) (by omega))
 have HRUN := Aside0.mk (runI_ok 8 20 [] (SI_nil 20 (by omega)) ops hok)
 have HOKS := Aside0.mk hok
 have HOKM := Aside0.mk hok2
 have g5 : decide ((100 : Int) < (ops.length : Int)) = false := decide_eq_false (by omega)
 have g6 : decide ((100 : Int) < (more.length : Int)) = false := decide_eq_false (by omega)
 have HLN := Aside0.mk hl
 have HLK := Aside0.mk hk
 have HC0 := Aside0.mk hC
 have HD0 := Aside0.mk hD
 clear hl hk hC hD hok hok2
 go_enter Try.func11, Try.ntmps11
 go_upto_region 3 with (first | (go_at_call 32; with_reducible refine (shunterlaw21_mine.calls 0 0 0 1 0 0 1 0 0 1 0 0 1 0 0 0 0 _ rfl).mono ?_; rintro e_ w1 ⟨rfl, hb⟩; have HB1 := Aside0.mk hb; clear hb))
 have HX1 := Aside0.mk (blk_new w1 (.cells #[.int .i64 1, .int .u64 0, .int .u64 0, .int .i64 1, .int .u64 0, .int .u64 0, .int .i64 0, .int .i64 0] 59 (0, 0)))
 have HB2 := Aside0.mk (below_alloc HB1.out (.cells #[.int .i64 1, .int .u64 0, .int .u64 0, .int .i64 1, .int .u64 0, .int .u64 0, .int .i64 0, .int .i64 0] 59 (0, 0)))
 generalize w1.alloc (.cells #[.int .i64 1, .int .u64 0, .int .u64 0, .int .i64 1, .int .u64 0, .int .u64 0, .int .i64 0, .int .i64 0] 59 (0, 0)) = w2 at HX1 HB2 ⊢
 generalize w1.heap.size = gx at HX1 ⊢
 clear HB1
 have b0 := blk_cell HX1.out 0
 have b1 := blk_cell HX1.out 1
 have b2 := blk_cell HX1.out 2
 have b3 := blk_cell HX1.out 3
 have b4 := blk_cell HX1.out 4
 have b5 := blk_cell HX1.out 5
 have b6 := blk_cell HX1.out 6
 have b7 := blk_cell HX1.out 7
 simp only [List.getElem?_toArray, List.getElem?_cons_succ, List.getElem?_cons_zero] at b0 b1 b2 b3 b4 b5 b6 b7
 go_wp2_with (first | (go_at_call 41; with_reducible refine (Get_nil 1 0 0 _).mono ?_; rintro e_ w3 ⟨rfl, hb⟩; have HB3 := Aside0.mk (below_step HB2.out hb); have HX2 := Aside0.mk (blk_below HX1.out hb); clear HB2 HX1 hb b0 b1 b2 b3 b4 b5 b6 b7; have HB2 := Aside0.mk HB3.out; have HX1 := Aside0.mk HX2.out; clear HB3 HX2; have b0 := blk_cell HX1.out 0; have b1 := blk_cell HX1.out 1; have b2 := blk_cell HX1.out 2; have b3 := blk_cell HX1.out 3; have b4 := blk_cell HX1.out 4; have b5 := blk_cell HX1.out 5; have b6 := blk_cell HX1.out 6; have b7 := blk_cell HX1.out 7; simp only [List.getElem?_toArray, List.getElem?_cons_succ, List.getElem?_cons_zero] at b0 b1 b2 b3 b4 b5 b6 b7) | (go_at_call 46; with_reducible refine (HPN.out _).mono ?_; rintro e_ w4 ⟨rfl, hb⟩; have HB3 := Aside0.mk (below_step HB2.out hb); have HX2 := Aside0.mk (blk_below HX1.out hb); clear HB2 HX1 hb b0 b1 b2 b3 b4 b5 b6 b7; have HB2 := Aside0.mk HB3.out; have HX1 := Aside0.mk HX2.out; clear HB3 HX2; have b0 := blk_cell HX1.out 0; have b1 := blk_cell HX1.out 1; have b2 := blk_cell HX1.out 2; have b3 := blk_cell HX1.out 3; have b4 := blk_cell HX1.out 4; have b5 := blk_cell HX1.out 5; have b6 := blk_cell HX1.out 6; have b7 := blk_cell HX1.out 7; simp only [List.getElem?_toArray, List.getElem?_cons_succ, List.getElem?_cons_zero] at b0 b1 b2 b3 b4 b5 b6 b7) | (go_at_call 47; with_reducible refine (HSN.out _).mono ?_; rintro e_ w5 ⟨rfl, hb⟩; have HB3 := Aside0.mk (below_step HB2.out hb); have HX2 := Aside0.mk (blk_below HX1.out hb); clear HB2 HX1 hb b0 b1 b2 b3 b4 b5 b6 b7; have HB2 := Aside0.mk HB3.out; have HX1 := Aside0.mk HX2.out; clear HB3 HX2; have b0 := blk_cell HX1.out 0; have b1 := blk_cell HX1.out 1; have b2 := blk_cell HX1.out 2; have b3 := blk_cell HX1.out 3; have b4 := blk_cell HX1.out 4; have b5 := blk_cell HX1.out 5; have b6 := blk_cell HX1.out 6; have b7 := blk_cell HX1.out 7; simp only [List.getElem?_toArray, List.getElem?_cons_succ, List.getElem?_cons_zero] at b0 b1 b2 b3 b4 b5 b6 b7) | (go_at_call 48; with_reducible refine (HDN.out _).mono ?_; rintro e_ w6 ⟨rfl, hb⟩; have HB3 := Aside0.mk (below_step HB2.out hb); have HX2 := Aside0.mk (blk_below HX1.out hb); clear HB2 HX1 hb b0 b1 b2 b3 b4 b5 b6 b7; have HB2 := Aside0.mk HB3.out; have HX1 := Aside0.mk HX2.out; clear HB3 HX2; have b0 := blk_cell HX1.out 0; have b1 := blk_cell HX1.out 1; have b2 := blk_cell HX1.out 2; have b3 := blk_cell HX1.out 3; have b4 := blk_cell HX1.out 4; have b5 := blk_cell HX1.out 5; have b6 := blk_cell HX1.out 6; have b7 := blk_cell HX1.out 7; simp only [List.getElem?_toArray, List.getElem?_cons_succ, List.getElem?_cons_zero] at b0 b1 b2 b3 b4 b5 b6 b7) | (go_at_call 43; with_reducible refine (Len_nil _).mono ?_; rintro e_ w7 ⟨rfl, h_⟩; rw [h_]; clear h_ w7) | (go_at_call 42; with_reducible refine (List_nil _).mono ?_; rintro e_ w7 ⟨rfl, h_⟩; rw [h_]; clear h_ w7) | (go_at_call 49; with_reducible refine (Copy_nil _).mono ?_; rintro e_ w7 ⟨rfl, h_⟩; rw [h_]; clear h_ w7) | (go_at_call 39; with_reducible refine (HN.out _).mono ?_; rintro e_ w9 ⟨rfl, rfl⟩; have HW := Aside0.mk HB2.out; clear HX1 b0 b1 b2 b3 b4 b5 b6 b7))
 have hgs : (w6.alloc (.cells #[.slice none 0 0, .int .i64 8, .int .i64 20] 147 (0, 0))).heap.size = w6.heap.size + 1 := by simp
 have HST := ST_new w6 8 20
 have HNB2 := Aside0.mk (blk_new (w6.alloc (.cells #[.slice none 0 0, .int .i64 8, .int .i64 20] 147 (0, 0))) (.cells #[.int .i64 8, .int .i64 20] 22 (0, 0)))
 have HS2 := Aside0.mk (HST.step (below_alloc (Below.refl _ _) (.cells #[.int .i64 8, .int .i64 20] 22 (0, 0))))
 clear HST
 generalize (w6.alloc (.cells #[.slice none 0 0, .int .i64 8, .int .i64 20] 147 (0, 0))).alloc (.cells #[.int .i64 8, .int .i64 20] 22 (0, 0)) = w10 at HS2 HNB2 ⊢
 rw [hgs] at HNB2
 clear hgs
 have HC := Aside0.mk (Kd.C_below HC0.out HW.out)
 have HD := Aside0.mk (Kd.C_below HD0.out HW.out)
 clear HC0 HD0 HB2
 have HS0 := Aside0.mk (show ST w6 w10 w6.heap.size (.slice none 0 0) (.slice none 0 0) (isoT (runI 8 20 [] (ops.take 0))) (runI 8 20 [] (ops.take 0)) 8 20 from by rw [show runI 8 20 [] (ops.take 0) = [] from by rw [List.take_zero]; rfl]; exact HS2.out)
 clear HS2
 go_loopw [11, 14] (fun u11 u14 w' => ∃ (i : Nat) (v : Value), i ≤ ops.length ∧ u14 = .int .i64 i ∧ Aside0 (ST w6 w' w6.heap.size v u11 (isoT (runI 8 20 [] (ops.take i))) (runI 8 20 [] (ops.take i)) 8 20) ∧ Aside0 (w'.heap[w6.heap.size + 1]? = some (.cells #[.int .i64 8, .int .i64 20] 22 (0, 0)))) (fun _ u14 _ => ops.length - (intOf u14).toNat)
 case atStart => exact ⟨0, _, Nat.zero_le _, rfl, HS0, HNB2⟩
 case round =>
  obtain ⟨i, v, hi, rfl, HT, HNB⟩ := hrel
  clear HS0 HNB2
  by_cases hlt : i < ops.length
  ·have hl100 := HLN.out
   have hi0 : 0 ≤ (i : Int) := by omega
   have hil : (i : Int) < (ops.length : Int) := by omega
   obtain ⟨ad, hA, _⟩ := at_T57 HC.out (i : Int) hi0 hil
   subst hA
   have hy : rd_T57 ops (i : Int) = ops[i] := by simp [rd_T57, List.getD_eq_getElem?_getD, hlt]
   have HR1 := Aside0.mk (HRUN.out i hi)
   have HRS := Aside0.mk (runI_take 8 20 [] ops i hlt)
   obtain ⟨y, hyy⟩ : ∃ y, y = ops[i] := ⟨_, rfl⟩
   rw [← hyy] at hy HRS
   have HOK := Aside0.mk (show okI (⟨⟨y.f3.f0, y.f3.f1, y.f3.f2⟩, ⟨y.f4.f0, y.f4.f1, y.f4.f2⟩, y.f1, y.f2⟩ : S59) from (show okI (opX y) from by rw [hyy]; exact HOKS.out _ (List.getElem_mem hlt)))
   have HCY := Aside0.mk (show ∀ w', Below w6.heap.size w6 w' → w'.cell? (ad.add (i * 9)) = some (.int .i64 y.f0) ∧ w'.cell? ⟨(ad.add (i * 9)).block, (ad.add (i * 9)).off + 1, none⟩ = some (.int .i64 y.f1) ∧ w'.cell? ⟨(ad.add (i * 9)).block, (ad.add (i * 9)).off + 2, none⟩ = some (.int .i64 y.f2) ∧ w'.cell? ⟨(ad.add (i * 9)).block, (ad.add (i * 9)).off + 3, none⟩ = some (.int .i64 y.f3.f0) ∧ w'.cell? ⟨(ad.add (i * 9)).block, (ad.add (i * 9)).off + 4, none⟩ = some (.int .u64 y.f3.f1) ∧ w'.cell? ⟨(ad.add (i * 9)).block, (ad.add (i * 9)).off + 5, none⟩ = some (.int .u64 y.f3.f2) ∧ w'.cell? ⟨(ad.add (i * 9)).block, (ad.add (i * 9)).off + 6, none⟩ = some (.int .i64 y.f4.f0) ∧ w'.cell? ⟨(ad.add (i * 9)).block, (ad.add (i * 9)).off + 7, none⟩ = some (.int .u64 y.f4.f1) ∧ w'.cell? ⟨(ad.add (i * 9)).block, (ad.add (i * 9)).off + 8, none⟩ = some (.int .u64 y.f4.f2) from fun w' hb => by
    obtain ⟨ad2, e2, h2⟩ := at_T57 (Kd.C_below HC.out hb) (i : Int) hi0 hil
    injection e2 with e2
    subst e2
    rw [Int.toNat_natCast, hy] at h2
    exact h2)
   clear hyy hy
   go_wp2
   refine start_ (n := 12) (S := fun w' => Below w6.heap.size w6 w' ∧ w'.heap[w6.heap.size + 1]? = some (.cells #[.int .i64 8, .int .i64 20] 22 (0, 0))) (ds := []) #[false, false, false, false, false, false, false, false, false, false, false, false] (by kernel_rfl) rfl rfl ⟨below_drew1 HT.out.tk.below, blk_drew HNB.out⟩ (fun hHeld => ?_)
   have HT2 := Aside0.mk (HT.out.step (below_drew1 (Below.refl _ _)))
   have HNB1 := Aside0.mk (blk_drew HNB.out)
   clear HT HNB
   generalize World.drew _ = w5_ at HT2 HNB1 hHeld ⊢
   refine pl_ [0, 1, 3, 4, 5] ?_
   iterate 5 refine pP rfl rfl (by kernel_rfl) (fun _ _ _ h => h) (by rfl) (by intro w'; go_simp; with_reducible rfl) (by simp only [Act.put, z1, z2, z3, i64_w, i32_w]; rfl) ?_
   refine pl0 ?_
   refine take_ (i := 2) (N := some 96) (v := ?_) (a' := ?_) #[true, true, true, true, true, true, false, false, false, false, false, false] rfl rfl (by kernel_rfl) (fun _ _ _ h => h) (Or.inl ⟨by rfl, ?_⟩) hHeld ?_ ?_
   rotate_left
   ·intro w' hs
    have m0 := blk_cell hs.2 0
    have m1 := blk_cell hs.2 1
    simp only [List.getElem?_toArray, List.getElem?_cons_succ, List.getElem?_cons_zero] at m0 m1
    go_simp
    with_reducible rfl
   rotate_left
   ·simp only [Act.put, List.setIfInBounds_toArray, List.set_cons_zero, List.set_cons_succ, i64_w, i32_w]
    rfl
   refine take_ (i := 6) (N := some 100) (v := ?_) (a' := ?_) #[true, true, true, true, true, true, true, false, false, false, false, false] rfl rfl (by kernel_rfl) (fun _ _ _ h => h) (Or.inl ⟨by rfl, ?_⟩) hHeld ?_ ?_
   rotate_left
   ·intro w' hs
    obtain ⟨s0, s1, s2, s3, s4, s5, s6, s7, s8⟩ := HCY.out w' hs.1
    go_simp
    with_reducible rfl
   rotate_left
   ·simp only [Act.put, List.setIfInBounds_toArray, List.set_cons_zero, List.set_cons_succ, i64_w, i32_w]
    rfl
   refine one_ (i := 7) (N := some 101) #[true, true, true, true, true, true, true, true, false, false, false, false] rfl rfl (by kernel_rfl) (by decide) (fun K hK => ?_)
   refine goes_ Try.func40 (by kernel_rfl) rfl #[.pointer (some ⟨w6.heap.size, 0, none⟩), u11, .agg #[.int .i64 8, .int .i64 20], .agg #[.int .i64 y.f0, .int .i64 y.f1, .int .i64 y.f2, .int .i64 y.f3.f0, .int .u64 y.f3.f1, .int .u64 y.f3.f2, .int .i64 y.f4.f0, .int .u64 y.f4.f1, .int .u64 y.f4.f2]] (by rfl) rfl rfl (by simp only [List.map_toArray, List.map_cons, List.map_nil]; rfl) ?_
   with_reducible refine (step_two w6 _ w6.heap.size v u11 (runI 8 20 [] (ops.take i)) (runI 8 20 [] (ops.take i)) 8 20 y.f0 y.f1 y.f2 y.f3.f0 y.f3.f1 y.f3.f2 y.f4.f0 y.f4.f1 y.f4.f2 HT2.out HR1.out.1 HR1.out.1 (by have h1 := HR1.out.2; rw [List.length_nil] at h1; have := HLN.out; omega) (by have h1 := HR1.out.2; rw [List.length_nil] at h1; have := HLN.out; omega) HOK.out).mono ?_
   rintro e_ w1 ⟨v1, vx1, bb, rfl, _, hst, hkp⟩
   refine ⟨_, rfl, ?_⟩
   have HNB := Aside0.mk (HT2.out.keep hkp HNB1.out (by decide) (by decide) (by decide))
   clear hkp
   rw [show stepL 8 20 (runI 8 20 [] (ops.take i)) y.f0 ⟨⟨y.f3.f0, y.f3.f1, y.f3.f2⟩, ⟨y.f4.f0, y.f4.f1, y.f4.f2⟩, y.f1, y.f2⟩ = runI 8 20 [] (ops.take (i + 1)) from HRS.out.symm] at hst
   obtain ⟨Ax, cx, rfl⟩ := Kd.R_slice hst.rx
   have HT := Aside0.mk hst
   clear hst HT2 HNB1
   refine hK.out _ _ ⟨HT.out.tk.below, HNB.out⟩ (fun hHeld => ?_)
   clear hK K
   refine norm_ (a' := ?_) ?_ ?_
   rotate_left
   ·show Act.put _ (some 101) _ = _
    simp only [Act.put, List.setIfInBounds_toArray, List.set_cons_zero, List.set_cons_succ, i64_w, i32_w]
    rfl
   refine pl_ [8, 9, 10, 11] ?_
   iterate 4 refine pP rfl rfl (by kernel_rfl) (fun _ _ _ h => h) (by rfl) (by intro w'; go_simp; with_reducible rfl) (by simp only [Act.put, z1, z2, z3, i64_w, i32_w]; rfl) ?_
   refine pl0 ?_
   refine done_ (by kernel_rfl) ?_
   go_wp2
   go_roundw
   case measure => first | (simp [intOf]; done) | (simp [intOf]; omega)
   case rel => exact ⟨i + 1, v1, hlt, by go_num, HT, HNB⟩
  ·have hie : i = ops.length := by omega
   have hl100 := HLN.out
   obtain ⟨Ax, cx, rfl⟩ := Kd.R_slice HT.out.rx
   have HR1 := HRUN.out i hi
   obtain ⟨x, hx⟩ : ∃ x, x = runI 8 20 [] (ops.take i) := ⟨_, rfl⟩
   rw [← hx] at HT HR1 ⊢
   clear hx
   have hxl : x.length ≤ 100 := by have := HR1.2; simp at this; omega
   have HXL := Aside0.mk hxl
   have HSX := Aside0.mk HR1.1
   clear HR1
   have HN1 := Aside0.mk (show (isoT x).length ≤ 1000 from by rw [isoT_length]; omega)
   have HRM := Aside0.mk (runI_ok 8 20 x HSX.out more HOKM.out)
   have HRZ := Aside0.mk (runI_ok 8 20 [] (SI_nil 20 (by omega)) more HOKM.out)
   go_wp2_with (first | (go_at_call 42; with_reducible refine (List_calls w6 _ w6.heap.size v (isoT x) 8 20 HT.out.tk HN1.out).mono ?_; rintro e_ w11 ⟨v5, rfl, hr, hb⟩; obtain ⟨Ag, cg, e0⟩ := Kd.R_slice hr; rw [isoT_length] at e0; subst e0; have HGg := Aside0.mk hr; have HT2 := Aside0.mk (HT.out.step hb); have HNB2 := Aside0.mk (blk_below HNB.out hb); clear hr hb HT HNB) | (go_at_call 49; with_reducible refine (Copy_calls w6 _ w6.heap.size v (isoT x) 8 20 HT2.out.tk HN1.out).mono ?_; rintro e_ w12 ⟨gc, vc_, rfl, htk⟩; have HCP := Aside0.mk htk; clear htk))
   have HS0 := Aside0.mk (show ST w11 w12 gc vc_ (.slice none 0 0) (isoT (runI 8 20 x (more.take 0))) (runI 8 20 [] (more.take 0)) 8 20 from by rw [show runI 8 20 [] (more.take 0) = [] from by rw [List.take_zero]; rfl, show runI 8 20 x (more.take 0) = x from by rw [List.take_zero]; rfl]; exact ⟨HCP.out, Kd.R_nil _ _ _ _ _, fun k e => by simp [Value.ownBlock] at e⟩)
   have HD2 := Aside0.mk (Kd.C_below HD.out HT2.out.tk.below)
   clear HCP HC HD
   go_loopw [12, 17] (fun u12 u17 w' => ∃ (i : Nat) (v : Value), i ≤ more.length ∧ u17 = .int .i64 i ∧ Aside0 (ST w11 w' gc v u12 (isoT (runI 8 20 x (more.take i))) (runI 8 20 [] (more.take i)) 8 20)) (fun _ u17 _ => more.length - (intOf u17).toNat)
   case atStart => exact ⟨0, _, Nat.zero_le _, rfl, HS0⟩
   case round =>
    obtain ⟨i, vd, hi, rfl, HM⟩ := hrel
    clear HS0 hlt
    by_cases hlt : i < more.length
    ·have hl100 := HLK.out
     have hi0 : 0 ≤ (i : Int) := by omega
     have hil : (i : Int) < (more.length : Int) := by omega
     obtain ⟨ad, hA, _⟩ := at_T57 HD2.out (i : Int) hi0 hil
     subst hA
     have hy : rd_T57 more (i : Int) = more[i] := by simp [rd_T57, List.getD_eq_getElem?_getD, hlt]
     have HR1 := Aside0.mk (HRM.out i hi)
     have HR2 := Aside0.mk (HRZ.out i hi)
     have HRS := Aside0.mk (runI_take 8 20 x more i hlt)
     have HRT := Aside0.mk (runI_take 8 20 [] more i hlt)
     obtain ⟨y, hyy⟩ : ∃ y, y = more[i] := ⟨_, rfl⟩
     rw [← hyy] at hy HRS HRT
     have HOK := Aside0.mk (show okI (⟨⟨y.f3.f0, y.f3.f1, y.f3.f2⟩, ⟨y.f4.f0, y.f4.f1, y.f4.f2⟩, y.f1, y.f2⟩ : S59) from (show okI (opX y) from by rw [hyy]; exact HOKM.out _ (List.getElem_mem hlt)))
     have HCY := Aside0.mk (show ∀ w', Below w11.heap.size w11 w' → w'.cell? (ad.add (i * 9)) = some (.int .i64 y.f0) ∧ w'.cell? ⟨(ad.add (i * 9)).block, (ad.add (i * 9)).off + 1, none⟩ = some (.int .i64 y.f1) ∧ w'.cell? ⟨(ad.add (i * 9)).block, (ad.add (i * 9)).off + 2, none⟩ = some (.int .i64 y.f2) ∧ w'.cell? ⟨(ad.add (i * 9)).block, (ad.add (i * 9)).off + 3, none⟩ = some (.int .i64 y.f3.f0) ∧ w'.cell? ⟨(ad.add (i * 9)).block, (ad.add (i * 9)).off + 4, none⟩ = some (.int .u64 y.f3.f1) ∧ w'.cell? ⟨(ad.add (i * 9)).block, (ad.add (i * 9)).off + 5, none⟩ = some (.int .u64 y.f3.f2) ∧ w'.cell? ⟨(ad.add (i * 9)).block, (ad.add (i * 9)).off + 6, none⟩ = some (.int .i64 y.f4.f0) ∧ w'.cell? ⟨(ad.add (i * 9)).block, (ad.add (i * 9)).off + 7, none⟩ = some (.int .u64 y.f4.f1) ∧ w'.cell? ⟨(ad.add (i * 9)).block, (ad.add (i * 9)).off + 8, none⟩ = some (.int .u64 y.f4.f2) from fun w' hb => by
      obtain ⟨ad2, e2, h2⟩ := at_T57 (Kd.C_below HD2.out hb) (i : Int) hi0 hil
      injection e2 with e2
      subst e2
      rw [Int.toNat_natCast, hy] at h2
      exact h2)
     clear hyy hy
     go_wp2
     refine start_ (n := 12) (S := fun w' => Below w11.heap.size w11 w') (ds := []) #[false, false, false, false, false, false, false, false, false, false, false, false] (by kernel_rfl) rfl rfl (below_drew1 HM.out.tk.below) (fun hHeld => ?_)
     have HM2 := Aside0.mk (HM.out.step (below_drew1 (Below.refl _ _)))
     clear HM
     generalize World.drew _ = w5_ at HM2 hHeld ⊢
     refine pl_ [0, 1, 3, 4, 5] ?_
     iterate 5 refine pP rfl rfl (by kernel_rfl) (fun _ _ _ h => h) (by rfl) (by intro w'; go_simp; with_reducible rfl) (by simp only [Act.put, z1, z2, z3, i64_w, i32_w]; rfl) ?_
     refine pl0 ?_
     refine take_ (i := 2) (N := some 117) (v := ?_) (a' := ?_) #[true, true, true, true, true, true, false, false, false, false, false, false] rfl rfl (by kernel_rfl) (fun _ _ _ h => h) (Or.inl ⟨by rfl, ?_⟩) hHeld ?_ ?_
     rotate_left
     ·intro w' hs
      have m0 := blk_cell (blk_below HNB2.out hs) 0
      have m1 := blk_cell (blk_below HNB2.out hs) 1
      simp only [List.getElem?_toArray, List.getElem?_cons_succ, List.getElem?_cons_zero] at m0 m1
      go_simp
      with_reducible rfl
     rotate_left
     ·simp only [Act.put, List.setIfInBounds_toArray, List.set_cons_zero, List.set_cons_succ, i64_w, i32_w]
      rfl
     refine take_ (i := 6) (N := some 121) (v := ?_) (a' := ?_) #[true, true, true, true, true, true, true, false, false, false, false, false] rfl rfl (by kernel_rfl) (fun _ _ _ h => h) (Or.inl ⟨by rfl, ?_⟩) hHeld ?_ ?_
     rotate_left
     ·intro w' hs
      obtain ⟨s0, s1, s2, s3, s4, s5, s6, s7, s8⟩ := HCY.out w' hs
      go_simp
      with_reducible rfl
     rotate_left
     ·simp only [Act.put, List.setIfInBounds_toArray, List.set_cons_zero, List.set_cons_succ, i64_w, i32_w]
      rfl
     refine one_ (i := 7) (N := some 122) #[true, true, true, true, true, true, true, true, false, false, false, false] rfl rfl (by kernel_rfl) (by decide) (fun K hK => ?_)
     refine goes_ Try.func40 (by kernel_rfl) rfl #[.pointer (some ⟨gc, 0, none⟩), u12, .agg #[.int .i64 8, .int .i64 20], .agg #[.int .i64 y.f0, .int .i64 y.f1, .int .i64 y.f2, .int .i64 y.f3.f0, .int .u64 y.f3.f1, .int .u64 y.f3.f2, .int .i64 y.f4.f0, .int .u64 y.f4.f1, .int .u64 y.f4.f2]] (by rfl) rfl rfl (by simp only [List.map_toArray, List.map_cons, List.map_nil]; rfl) ?_
     with_reducible refine (step_two w11 _ gc vd u12 (runI 8 20 x (more.take i)) (runI 8 20 [] (more.take i)) 8 20 y.f0 y.f1 y.f2 y.f3.f0 y.f3.f1 y.f3.f2 y.f4.f0 y.f4.f1 y.f4.f2 HM2.out HR1.out.1 HR2.out.1 (by have := HR1.out.2; have := HLK.out; have := HXL.out; omega) (by have h1 := HR2.out.2; rw [List.length_nil] at h1; have := HLK.out; omega) HOK.out).mono ?_
     rintro e_ w1 ⟨v1, vx1, bb, rfl, _, hst, _⟩
     refine ⟨_, rfl, ?_⟩
     rw [show stepL 8 20 (runI 8 20 x (more.take i)) y.f0 ⟨⟨y.f3.f0, y.f3.f1, y.f3.f2⟩, ⟨y.f4.f0, y.f4.f1, y.f4.f2⟩, y.f1, y.f2⟩ = runI 8 20 x (more.take (i + 1)) from HRS.out.symm, show stepL 8 20 (runI 8 20 [] (more.take i)) y.f0 ⟨⟨y.f3.f0, y.f3.f1, y.f3.f2⟩, ⟨y.f4.f0, y.f4.f1, y.f4.f2⟩, y.f1, y.f2⟩ = runI 8 20 [] (more.take (i + 1)) from HRT.out.symm] at hst
     obtain ⟨Az, cz, rfl⟩ := Kd.R_slice hst.rx
     have HM := Aside0.mk hst
     clear hst HM2
     refine hK.out _ _ HM.out.tk.below (fun hHeld => ?_)
     clear hK K
     refine norm_ (a' := ?_) ?_ ?_
     rotate_left
     ·show Act.put _ (some 122) _ = _
      simp only [Act.put, List.setIfInBounds_toArray, List.set_cons_zero, List.set_cons_succ, i64_w, i32_w]
      rfl
     refine pl_ [8, 9, 10, 11] ?_
     iterate 4 refine pP rfl rfl (by kernel_rfl) (fun _ _ _ h => h) (by rfl) (by intro w'; go_simp; with_reducible rfl) (by simp only [Act.put, z1, z2, z3, i64_w, i32_w]; rfl) ?_
     refine pl0 ?_
     refine done_ (by kernel_rfl) ?_
     go_wp2
     go_roundw
     case measure => first | (simp [intOf]; done) | (simp [intOf]; omega)
     case rel => exact ⟨i + 1, v1, hlt, by go_num, HM⟩
    ·have HB12 := Aside0.mk HM.out.tk.below
     have HT3 := Aside0.mk (HT2.out.step HM.out.tk.below)
     have HG1 := Aside0.mk (Kd.R_below HGg.out HM.out.tk.below)
     clear HGg HM
     go_wp2_with (first | (go_at_call 42; with_reducible refine (List_calls w6 _ w6.heap.size v (isoT x) 8 20 HT3.out.tk HN1.out).mono ?_; rintro e_ w13 ⟨v6, rfl, hr, hb⟩; obtain ⟨Ah, ch, e0⟩ := Kd.R_slice hr; rw [isoT_length] at e0; subst e0; have HGh := Aside0.mk hr; have HG2 := Aside0.mk (Kd.R_below HG1.out hb); have HB13 := Aside0.mk (HT3.out.step hb).tk.below; clear hr hb))
     clear HG1 HT2 HT3 HB12
     go_loopw [19] (fun u19 w' => ∃ j : Nat, j ≤ x.length ∧ u19 = .int .i64 j ∧ Aside0 (Below w13.heap.size w13 w')) (fun u19 _ => x.length - (intOf u19).toNat)
     case atStart => exact ⟨0, Nat.zero_le _, rfl, ⟨Below.refl _ _⟩⟩
     case round =>
      obtain ⟨j, hj, rfl, HB7⟩ := hrel
      by_cases hjt : j < x.length
      ·have hj0 : 0 ≤ (j : Int) := by omega
       have hjl : (j : Int) < (x.length : Int) := by omega
       have hji : j < (isoT x).length := by rw [isoT_length]; exact hjt
       obtain ⟨y, hy⟩ : ∃ y, y = (isoT x)[j] := ⟨_, rfl⟩
       obtain ⟨d1, hA, _⟩ := at_T59 (Kd.R_reads' HGh.out).2.2 (j : Int) hj0 (by rw [isoT_length]; exact hjl)
       subst hA
       have HC1 := Aside0.mk (show ∀ w', Below w13.heap.size w13 w' → w'.cell? (d1.add (j * 8)) = some (.int .i64 y.f0.f0) ∧ w'.cell? ⟨(d1.add (j * 8)).block, (d1.add (j * 8)).off + 1, none⟩ = some (.int .u64 y.f0.f1) ∧ w'.cell? ⟨(d1.add (j * 8)).block, (d1.add (j * 8)).off + 2, none⟩ = some (.int .u64 y.f0.f2) ∧ w'.cell? ⟨(d1.add (j * 8)).block, (d1.add (j * 8)).off + 3, none⟩ = some (.int .i64 y.f1.f0) ∧ w'.cell? ⟨(d1.add (j * 8)).block, (d1.add (j * 8)).off + 4, none⟩ = some (.int .u64 y.f1.f1) ∧ w'.cell? ⟨(d1.add (j * 8)).block, (d1.add (j * 8)).off + 5, none⟩ = some (.int .u64 y.f1.f2) ∧ w'.cell? ⟨(d1.add (j * 8)).block, (d1.add (j * 8)).off + 6, none⟩ = some (.int .i64 y.f2) ∧ w'.cell? ⟨(d1.add (j * 8)).block, (d1.add (j * 8)).off + 7, none⟩ = some (.int .i64 y.f3) from fun w' hb => by
        obtain ⟨ad2, e2, h2⟩ := at_T59 (Kd.C_below (Kd.R_reads' HGh.out).2.2 hb) (j : Int) hj0 (by rw [isoT_length]; exact hjl)
        injection e2 with e2
        subst e2
        rw [Int.toNat_natCast, show rd_T59 (isoT x) (j : Int) = y by rw [hy]; simp [rd_T59, List.getD_eq_getElem?_getD, hji]] at h2
        exact h2)
       obtain ⟨d2, hA, _⟩ := at_T59 (Kd.R_reads' HG2.out).2.2 (j : Int) hj0 (by rw [isoT_length]; exact hjl)
       subst hA
       have HC2 := Aside0.mk (show ∀ w', Below w13.heap.size w13 w' → w'.cell? (d2.add (j * 8)) = some (.int .i64 y.f0.f0) ∧ w'.cell? ⟨(d2.add (j * 8)).block, (d2.add (j * 8)).off + 1, none⟩ = some (.int .u64 y.f0.f1) ∧ w'.cell? ⟨(d2.add (j * 8)).block, (d2.add (j * 8)).off + 2, none⟩ = some (.int .u64 y.f0.f2) ∧ w'.cell? ⟨(d2.add (j * 8)).block, (d2.add (j * 8)).off + 3, none⟩ = some (.int .i64 y.f1.f0) ∧ w'.cell? ⟨(d2.add (j * 8)).block, (d2.add (j * 8)).off + 4, none⟩ = some (.int .u64 y.f1.f1) ∧ w'.cell? ⟨(d2.add (j * 8)).block, (d2.add (j * 8)).off + 5, none⟩ = some (.int .u64 y.f1.f2) ∧ w'.cell? ⟨(d2.add (j * 8)).block, (d2.add (j * 8)).off + 6, none⟩ = some (.int .i64 y.f2) ∧ w'.cell? ⟨(d2.add (j * 8)).block, (d2.add (j * 8)).off + 7, none⟩ = some (.int .i64 y.f3) from fun w' hb => by
        obtain ⟨ad2, e2, h2⟩ := at_T59 (Kd.C_below (Kd.R_reads' HG2.out).2.2 hb) (j : Int) hj0 (by rw [isoT_length]; exact hjl)
        injection e2 with e2
        subst e2
        rw [Int.toNat_natCast, show rd_T59 (isoT x) (j : Int) = y by rw [hy]; simp [rd_T59, List.getD_eq_getElem?_getD, hji]] at h2
        exact h2)
       clear hy hji
       go_wp2
       refine start_ (n := 9) (S := fun w' => Below w13.heap.size w13 w') (ds := []) #[false, false, false, false, false, false, false, false, false] (by kernel_rfl) rfl rfl (below_drew1 HB7.out) (fun hHeld => ?_)
       clear HB7
       generalize World.drew _ = w7_ at hHeld ⊢
       refine pl_ [0, 1, 2, 4, 5, 6] ?_
       iterate 6 refine pP rfl rfl (by kernel_rfl) (fun _ _ _ h => h) (by rfl) (by intro w'; go_simp; with_reducible rfl) (by simp only [Act.put, z1, z2, z3, i64_w, i32_w]; rfl) ?_
       refine pl0 ?_
       refine take_ (i := 3) (N := some 148) (v := ?_) (a' := ?_) #[true, true, true, true, true, true, true, false, false] rfl rfl (by kernel_rfl) (fun _ _ _ h => h) (Or.inl ⟨by rfl, ?_⟩) hHeld ?_ ?_
       rotate_left
       ·intro w' hs
        obtain ⟨s0, s1, s2, s3, s4, s5, s6, s7⟩ := HC1.out w' hs
        go_simp
        with_reducible rfl
       rotate_left
       ·simp only [Act.put, List.setIfInBounds_toArray, List.set_cons_zero, List.set_cons_succ, i64_w, i32_w]
        rfl
       refine take_ (i := 7) (N := some 152) (v := ?_) (a' := ?_) #[true, true, true, true, true, true, true, true, false] rfl rfl (by kernel_rfl) (fun _ _ _ h => h) (Or.inl ⟨by rfl, ?_⟩) hHeld ?_ ?_
       rotate_left
       ·intro w' hs
        obtain ⟨s0, s1, s2, s3, s4, s5, s6, s7⟩ := HC2.out w' hs
        go_simp
        with_reducible rfl
       rotate_left
       ·simp only [Act.put, List.setIfInBounds_toArray, List.set_cons_zero, List.set_cons_succ, i64_w, i32_w]
        rfl
       refine pure_ (i := 8) (N := some 153) (v := ?_) (a' := ?_) #[true, true, true, true, true, true, true, true, true] rfl rfl (by kernel_rfl) (fun _ _ _ h => h) (Or.inl ⟨by rfl, ?_⟩) ?_ ?_
       rotate_left
       ·intro w'
        have := neq59 w' y.f0.f0 y.f0.f1 y.f0.f2 y.f1.f0 y.f1.f1 y.f1.f2 y.f2 y.f3
        go_simp
        with_reducible rfl
       rotate_left
       ·simp only [Act.put, List.setIfInBounds_toArray, List.set_cons_zero, List.set_cons_succ, i64_w, i32_w]
        rfl
       refine done_ (by kernel_rfl) ?_
       have HB8 := Aside0.mk hHeld
       clear hHeld
       go_wp2
       go_roundw
       case measure => first | (simp [intOf]; done) | (simp [intOf]; omega)
       case rel => exact ⟨j + 1, hjt, by go_num, HB8⟩
      ·have hje : j = x.length := by omega
       subst hje
       go_wp2_with (first | (go_at_call 35; with_reducible refine (lives_calls _).mono ?_; rintro e_ w8 ⟨rfl, hb⟩; have HZ := Aside0.mk (below_step HB7.out hb); clear hb))
       go_ret
       exact ⟨rfl, below_step HW.out (below_step HB13.out HZ.out)⟩
theorem TernCopies_true (A B : Option Addr) (c d : Nat) (ops more : List S57) (w : World) (hC : Kd.C k57 w A ops.length ops) (hD : Kd.C k57 w B more.length more) (hok : ∀ y ∈ ops, okI (opX y)) (hok2 : ∀ y ∈ more, okI (opX y)) :
 Calls Try.prog 11 #[.slice A ops.length c, .slice B more.length d] w fun e_ w' => e_ = .returned (.bool true) ∧ Below w.heap.size w w' := by
 by_cases hl : 100 < ops.length
 ·exact TernCopies_many1 A B c d ops more w hl
 ·by_cases hk : 100 < more.length
  ·exact TernCopies_many2 A B c d ops more w hl hk
  ·exact TernCopies_main A B c d ops more w (by omega) (by omega) hC hD hok hok2
end Go.Proofs.Ytfdbcnbakchcgaa.XT
