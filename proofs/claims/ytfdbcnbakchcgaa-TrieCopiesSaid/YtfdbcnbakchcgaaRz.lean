import Derived.Test.YtfdbcnbakchcgaaSr
import Derived.Test.YtfdbcnbakchcgaaRx
import Derived.Test.YtfdbcnbakchcgaaRu
namespace Go.Proofs.Ytfdbcnbakchcgaa.XR
open Go.RowKit Go.Proofs.YtfdbcnbakchcgaaW.PrintWords Go.Proofs.YtfdbcnbakchcgaaW.PrintLast Go.Proofs.YtfdbcnbakchcgaaW.PrintMore
attribute [local go_sem] max2_int min2_int max_two min_two max_three min_three max_four min_four   -- for this text's walks alone
set_option linter.unusedVariables false
set_option linter.unusedSimpArgs false
theorem eqA44 (d : Nat) (w : World) (x y : S44) : (Op.equalIn (d + 3) 44 (.agg #[.int .i64 x.f0.f0, .int .u64 x.f0.f1, .int .u64 x.f0.f2, .int .i64 x.f1, .int .i64 x.f2]) (.agg #[.int .i64 y.f0.f0, .int .u64 y.f0.f1, .int .u64 y.f0.f2, .int .i64 y.f1, .int .i64 y.f2])).run Try.prog w = .ok ((x.f0.f0 == y.f0.f0 && (x.f0.f1 == y.f0.f1 && (x.f0.f2 == y.f0.f2))) && (x.f1 == y.f1 && (x.f2 == y.f2))) w := by
 refine eqA_of Try.underlying44 (by kernel_rfl) ?_
 refine eqf_cons (by rfl) (by first | (go_simp; done) | (go_simp; rfl)) (by first | (go_simp; done) | (go_simp; rfl)) (eqA32 d w _ _ _ _ _ _) ?_
 refine eqf_cons (by rfl) (by first | (go_simp; done) | (go_simp; rfl)) (by first | (go_simp; done) | (go_simp; rfl)) (by go_simp) ?_
 exact eqf_last (by rfl) (by first | (go_simp; done) | (go_simp; rfl)) (by first | (go_simp; done) | (go_simp; rfl)) (by go_simp)
theorem neq44 (w : World) (a b c d e : Int) : (binOp .neq 44 (.agg #[.int .i64 a, .int .u64 b, .int .u64 c, .int .i64 d, .int .i64 e]) (.agg #[.int .i64 a, .int .u64 b, .int .u64 c, .int .i64 d, .int .i64 e])).run Try.prog w = .ok (.bool false) w := by
 have h0 := eqA44 9997 w ⟨⟨a, b, c⟩, d, e⟩ ⟨⟨a, b, c⟩, d, e⟩
 simp only [binOp]
 simp only [Op.equal, Op.maxDepth]
 dsimp only at h0
 simp [h0]
theorem rd44_ (l : List S44) (j : Nat) (h : j < l.length) : rd_T44 l (j : Int) = l[j] := by simp [rd_T44, List.getD_eq_getElem?_getD, h]
set_option maxHeartbeats 1000000 in
set_option maxRecDepth 100000 in
theorem tPut_nil (a b c n m : Int) (w : World) : Calls Try.prog 28 #[.pointer none, .agg #[.int .i64 a, .int .u64 b, .int .u64 c], .int .i64 n, .int .i64 m] w fun e w' => e = .returned (.int .i64 1) ∧ Below w.heap.size w w' := by
 have HW1 := Aside0.mk (below_alloc (Below.refl w.heap.size w) (.cells #[.int .i64 a, .int .u64 b, .int .u64 c] 32 (0, 0)))
 have x0 := blk_cell (blk_new w (.cells #[.int .i64 a, .int .u64 b, .int .u64 c] 32 (0, 0))) 0
 have x1 := blk_cell (blk_new w (.cells #[.int .i64 a, .int .u64 b, .int .u64 c] 32 (0, 0))) 1
 have x2 := blk_cell (blk_new w (.cells #[.int .i64 a, .int .u64 b, .int .u64 c] 32 (0, 0))) 2
 simp only [List.getElem?_toArray, List.getElem?_cons_succ, List.getElem?_cons_zero] at x0 x1 x2
 go_enter Try.func28, Try.ntmps28
 go_wp2_with (first | (go_at_call 82; with_reducible refine (tmay_nil a b c n _).mono ?_; rintro e_ w2 ⟨rfl, hb⟩; have HB2 := Aside0.mk hb; clear hb x0 x1 x2))
 go_ret
 exact ⟨rfl, below_step HW1.out HB2.out⟩
set_option maxHeartbeats 1000000 in
set_option maxRecDepth 100000 in
theorem tSet_nil (a b c n m : Int) (w : World) : Calls Try.prog 30 #[.pointer none, .agg #[.int .i64 a, .int .u64 b, .int .u64 c], .int .i64 n, .int .i64 m] w fun e w' => e = .returned (.int .i64 1) ∧ Below w.heap.size w w' := by
 have HW1 := Aside0.mk (below_alloc (Below.refl w.heap.size w) (.cells #[.int .i64 a, .int .u64 b, .int .u64 c] 32 (0, 0)))
 have x0 := blk_cell (blk_new w (.cells #[.int .i64 a, .int .u64 b, .int .u64 c] 32 (0, 0))) 0
 have x1 := blk_cell (blk_new w (.cells #[.int .i64 a, .int .u64 b, .int .u64 c] 32 (0, 0))) 1
 have x2 := blk_cell (blk_new w (.cells #[.int .i64 a, .int .u64 b, .int .u64 c] 32 (0, 0))) 2
 simp only [List.getElem?_toArray, List.getElem?_cons_succ, List.getElem?_cons_zero] at x0 x1 x2
 go_enter Try.func30, Try.ntmps30
 go_wp2_with (first | (go_at_call 82; with_reducible refine (tmay_nil a b c n _).mono ?_; rintro e_ w2 ⟨rfl, hb⟩; have HB2 := Aside0.mk hb; clear hb x0 x1 x2))
 go_ret
 exact ⟨rfl, below_step HW1.out HB2.out⟩
set_option maxHeartbeats 1000000 in
set_option maxRecDepth 100000 in
theorem tDrop_nil (a b c n : Int) (w : World) : Calls Try.prog 29 #[.pointer none, .agg #[.int .i64 a, .int .u64 b, .int .u64 c], .int .i64 n] w fun e w' => e = .returned (.int .i64 1) ∧ Below w.heap.size w w' := by
 have HW1 := Aside0.mk (below_alloc (Below.refl w.heap.size w) (.cells #[.int .i64 a, .int .u64 b, .int .u64 c] 32 (0, 0)))
 have x0 := blk_cell (blk_new w (.cells #[.int .i64 a, .int .u64 b, .int .u64 c] 32 (0, 0))) 0
 have x1 := blk_cell (blk_new w (.cells #[.int .i64 a, .int .u64 b, .int .u64 c] 32 (0, 0))) 1
 have x2 := blk_cell (blk_new w (.cells #[.int .i64 a, .int .u64 b, .int .u64 c] 32 (0, 0))) 2
 simp only [List.getElem?_toArray, List.getElem?_cons_succ, List.getElem?_cons_zero] at x0 x1 x2
 go_enter Try.func29, Try.ntmps29
 go_wp2_with (first | (go_at_call 82; with_reducible refine (tmay_nil a b c n _).mono ?_; rintro e_ w2 ⟨rfl, hb⟩; have HB2 := Aside0.mk hb; clear hb x0 x1 x2))
 go_ret
 exact ⟨rfl, below_step HW1.out HB2.out⟩
set_option maxHeartbeats 1000000 in
set_option maxRecDepth 100000 in
theorem TrieCopies_many1 (A B : Option Addr) (c d : Nat) (ops more : List S34) (w : World) (hl : 200 < ops.length) :
 Calls Try.prog 7 #[.slice A ops.length c, .slice B more.length d] w fun e_ w' => e_ = .returned (.bool true) ∧ Below w.heap.size w w' := by
 have g5 : decide ((200 : Int) < (ops.length : Int)) = true := decide_eq_true (by omega)
 clear hl
 go_enter Try.func7, Try.ntmps7
 go_wp2_with (first | (go_at_call 21; with_reducible refine (tGet_nil 1 0 0 _).mono ?_; rintro e_ w3 ⟨rfl, hb⟩; have HB2 := Aside0.mk hb; clear hb) | (go_at_call 28; with_reducible refine (tPut_nil 1 0 0 0 1 _).mono ?_; rintro e_ w4 ⟨rfl, hb⟩; have HB3 := Aside0.mk (below_step HB2.out hb); clear HB2 hb; have HB2 := Aside0.mk HB3.out; clear HB3) | (go_at_call 30; with_reducible refine (tSet_nil 1 0 0 0 1 _).mono ?_; rintro e_ w5 ⟨rfl, hb⟩; have HB3 := Aside0.mk (below_step HB2.out hb); clear HB2 hb; have HB2 := Aside0.mk HB3.out; clear HB3) | (go_at_call 29; with_reducible refine (tDrop_nil 1 0 0 0 _).mono ?_; rintro e_ w6 ⟨rfl, hb⟩; have HB3 := Aside0.mk (below_step HB2.out hb); clear HB2 hb; have HB2 := Aside0.mk HB3.out; clear HB3) | (go_at_call 19; with_reducible refine (tLen_nil _).mono ?_; rintro e_ w7 ⟨rfl, h_⟩; rw [h_]; clear h_ w7) | (go_at_call 24; with_reducible refine (tNodes_nil _).mono ?_; rintro e_ w7 ⟨rfl, hb⟩; have HB3 := Aside0.mk (below_step HB2.out hb); clear HB2 hb; have HB2 := Aside0.mk HB3.out; clear HB3) | (go_at_call 22; with_reducible refine (List_nil _).mono ?_; rintro e_ w7 ⟨rfl, hb⟩; have HB3 := Aside0.mk (below_step HB2.out hb); clear HB2 hb; have HB2 := Aside0.mk HB3.out; clear HB3) | (go_at_call 31; with_reducible refine (tCopy_nil _).mono ?_; rintro e_ w8 ⟨rfl, hb⟩; have HB3 := Aside0.mk (below_step HB2.out hb); clear HB2 hb; have HB2 := Aside0.mk HB3.out; clear HB3) | (go_at_call 17; with_reducible refine (tlives_calls _).mono ?_; rintro e_ w9 ⟨rfl, hb⟩; have HZ := Aside0.mk (below_step HB2.out hb); clear hb))
 go_ret
 exact ⟨rfl, HZ.out⟩
set_option maxHeartbeats 1000000 in
set_option maxRecDepth 100000 in
theorem TrieCopies_many2 (A B : Option Addr) (c d : Nat) (ops more : List S34) (w : World) (hk : ¬ 200 < ops.length) (hl : 200 < more.length) :
 Calls Try.prog 7 #[.slice A ops.length c, .slice B more.length d] w fun e_ w' => e_ = .returned (.bool true) ∧ Below w.heap.size w w' := by
 have g5 : decide ((200 : Int) < (ops.length : Int)) = false := decide_eq_false (by omega)
 have g6 : decide ((200 : Int) < (more.length : Int)) = true := decide_eq_true (by omega)
 clear hl hk
 go_enter Try.func7, Try.ntmps7
 go_wp2_with (first | (go_at_call 21; with_reducible refine (tGet_nil 1 0 0 _).mono ?_; rintro e_ w3 ⟨rfl, hb⟩; have HB2 := Aside0.mk hb; clear hb) | (go_at_call 28; with_reducible refine (tPut_nil 1 0 0 0 1 _).mono ?_; rintro e_ w4 ⟨rfl, hb⟩; have HB3 := Aside0.mk (below_step HB2.out hb); clear HB2 hb; have HB2 := Aside0.mk HB3.out; clear HB3) | (go_at_call 30; with_reducible refine (tSet_nil 1 0 0 0 1 _).mono ?_; rintro e_ w5 ⟨rfl, hb⟩; have HB3 := Aside0.mk (below_step HB2.out hb); clear HB2 hb; have HB2 := Aside0.mk HB3.out; clear HB3) | (go_at_call 29; with_reducible refine (tDrop_nil 1 0 0 0 _).mono ?_; rintro e_ w6 ⟨rfl, hb⟩; have HB3 := Aside0.mk (below_step HB2.out hb); clear HB2 hb; have HB2 := Aside0.mk HB3.out; clear HB3) | (go_at_call 19; with_reducible refine (tLen_nil _).mono ?_; rintro e_ w7 ⟨rfl, h_⟩; rw [h_]; clear h_ w7) | (go_at_call 24; with_reducible refine (tNodes_nil _).mono ?_; rintro e_ w7 ⟨rfl, hb⟩; have HB3 := Aside0.mk (below_step HB2.out hb); clear HB2 hb; have HB2 := Aside0.mk HB3.out; clear HB3) | (go_at_call 22; with_reducible refine (List_nil _).mono ?_; rintro e_ w7 ⟨rfl, hb⟩; have HB3 := Aside0.mk (below_step HB2.out hb); clear HB2 hb; have HB2 := Aside0.mk HB3.out; clear HB3) | (go_at_call 31; with_reducible refine (tCopy_nil _).mono ?_; rintro e_ w8 ⟨rfl, hb⟩; have HB3 := Aside0.mk (below_step HB2.out hb); clear HB2 hb; have HB2 := Aside0.mk HB3.out; clear HB3) | (go_at_call 17; with_reducible refine (tlives_calls _).mono ?_; rintro e_ w9 ⟨rfl, hb⟩; have HZ := Aside0.mk (below_step HB2.out hb); clear hb))
 go_ret
 exact ⟨rfl, HZ.out⟩
set_option maxHeartbeats 1000000 in
set_option maxRecDepth 100000 in
theorem TrieCopies_main (A B : Option Addr) (c d : Nat) (ops more : List S34) (w : World) (hl : ops.length ≤ 200) (hk : more.length ≤ 200) (hC : Kd.C k34 w A ops.length ops) (hD : Kd.C k34 w B more.length more) (hok : ∀ y ∈ ops, okV y.f3) (hok2 : ∀ y ∈ more, okV y.f3) :
 Calls Try.prog 7 #[.slice A ops.length c, .slice B more.length d] w fun e_ w' => e_ = .returned (.bool true) ∧ Below w.heap.size w w' := by
 have HN := Aside0.mk (fun w => tNew_kt 16 30 w (by decide) (by decide) (by decide) (by decide))
 have HRUN := Aside0.mk (runQ_ok 16 30 [] (SIt_nil 16 30 (by decide)) ops hok)
 have HOKS := Aside0.mk hok
 have HOKM := Aside0.mk hok2
 have g5 : decide ((200 : Int) < (ops.length : Int)) = false := decide_eq_false (by omega)
 have g6 : decide ((200 : Int) < (more.length : Int)) = false := decide_eq_false (by omega)
 have HLN := Aside0.mk hl
 have HLK := Aside0.mk hk
 have HC0 := Aside0.mk hC
 have HD0 := Aside0.mk hD
 clear hl hk hC hD hok hok2
 go_enter Try.func7, Try.ntmps7
 go_wp2_with (first | (go_at_call 21; with_reducible refine (tGet_nil 1 0 0 _).mono ?_; rintro e_ w3 ⟨rfl, hb⟩; have HB2 := Aside0.mk hb; clear hb) | (go_at_call 28; with_reducible refine (tPut_nil 1 0 0 0 1 _).mono ?_; rintro e_ w4 ⟨rfl, hb⟩; have HB3 := Aside0.mk (below_step HB2.out hb); clear HB2 hb; have HB2 := Aside0.mk HB3.out; clear HB3) | (go_at_call 30; with_reducible refine (tSet_nil 1 0 0 0 1 _).mono ?_; rintro e_ w5 ⟨rfl, hb⟩; have HB3 := Aside0.mk (below_step HB2.out hb); clear HB2 hb; have HB2 := Aside0.mk HB3.out; clear HB3) | (go_at_call 29; with_reducible refine (tDrop_nil 1 0 0 0 _).mono ?_; rintro e_ w6 ⟨rfl, hb⟩; have HB3 := Aside0.mk (below_step HB2.out hb); clear HB2 hb; have HB2 := Aside0.mk HB3.out; clear HB3) | (go_at_call 19; with_reducible refine (tLen_nil _).mono ?_; rintro e_ w7 ⟨rfl, h_⟩; rw [h_]; clear h_ w7) | (go_at_call 24; with_reducible refine (tNodes_nil _).mono ?_; rintro e_ w7 ⟨rfl, hb⟩; have HB3 := Aside0.mk (below_step HB2.out hb); clear HB2 hb; have HB2 := Aside0.mk HB3.out; clear HB3) | (go_at_call 22; with_reducible refine (List_nil _).mono ?_; rintro e_ w7 ⟨rfl, hb⟩; have HB3 := Aside0.mk (below_step HB2.out hb); clear HB2 hb; have HB2 := Aside0.mk HB3.out; clear HB3) | (go_at_call 31; with_reducible refine (tCopy_nil _).mono ?_; rintro e_ w8 ⟨rfl, hb⟩; have HB3 := Aside0.mk (below_step HB2.out hb); clear HB2 hb; have HB2 := Aside0.mk HB3.out; clear HB3) | (go_at_call 16; with_reducible refine (HN.out _).mono ?_; rintro e_ w9 ⟨rfl, hk⟩; have HK := Aside0.mk hk; have HW := Aside0.mk HB2.out; clear HB2 hk))
 obtain ⟨wb, hwb⟩ : ∃ wb, wb = w8 := ⟨_, rfl⟩
 rw [← hwb] at HW HK ⊢
 clear hwb
 have HC := Aside0.mk (Kd.C_below HC0.out HW.out)
 have HD := Aside0.mk (Kd.C_below HD0.out HW.out)
 clear HC0 HD0
 have HNB := Aside0.mk (blk_new w9 (.cells #[.int .i64 16, .int .i64 30] 22 (0, 0)))
 have HS0 := Aside0.mk (show STt wb (w9.alloc (.cells #[.int .i64 16, .int .i64 30] 22 (0, 0))) (wb.heap.size + 1) (newM wb.heap.size) (.slice none 0 0) (runQ 16 30 [] (ops.take 0)) (runQ 16 30 [] (ops.take 0)) 16 30 from by rw [show runQ 16 30 [] (ops.take 0) = [] from by rw [List.take_zero]; rfl]; exact STt.step (STt_new (W := 16) HK.out) (below_alloc (Below.refl _ _) _))
 generalize w9.alloc (.cells #[.int .i64 16, .int .i64 30] 22 (0, 0)) = w3_ at HNB HS0 ⊢
 generalize w9.heap.size = gn at HNB ⊢
 clear HK
 go_loopw [10, 13] (fun u10 u13 w' => ∃ (i : Nat) (M : NM), i ≤ ops.length ∧ u13 = .int .i64 i ∧ Aside0 (STt wb w' (wb.heap.size + 1) M u10 (runQ 16 30 [] (ops.take i)) (runQ 16 30 [] (ops.take i)) 16 30) ∧ Aside0 (w'.heap[gn]? = some (.cells #[.int .i64 16, .int .i64 30] 22 (0, 0)))) (fun _ u13 _ => ops.length - (intOf u13).toNat)
 case atStart => exact ⟨0, _, Nat.zero_le _, rfl, HS0, HNB⟩
 case round =>
  obtain ⟨i, M, hi, rfl, HT, HNB1⟩ := hrel
  clear HS0 HNB
  by_cases hlt : i < ops.length
  ·have hl100 := HLN.out
   have hi0 : 0 ≤ (i : Int) := by omega
   have hil : (i : Int) < (ops.length : Int) := by omega
   obtain ⟨ad, hA, _⟩ := at_T34 HC.out (i : Int) hi0 hil
   subst hA
   have hy : rd_T34 ops (i : Int) = ops[i] := by simp [rd_T34, List.getD_eq_getElem?_getD, hlt]
   have HR1 := Aside0.mk (HRUN.out i hi)
   have HR2 := Aside0.mk (HRUN.out i hi)
   have HRS := Aside0.mk (runQ_take 16 30 [] ops i hlt)
   obtain ⟨y, hyy⟩ : ∃ y, y = ops[i] := ⟨_, rfl⟩
   rw [← hyy] at hy HRS
   have HOK := Aside0.mk (show okV y.f3 from by rw [hyy]; exact HOKS.out _ (List.getElem_mem hlt))
   have HCY := Aside0.mk (show ∀ w', Below wb.heap.size wb w' → w'.cell? (ad.add (i * 6)) = some (.int .i64 y.f0) ∧ w'.cell? ⟨(ad.add (i * 6)).block, (ad.add (i * 6)).off + 1, none⟩ = some (.int .i64 y.f1) ∧ w'.cell? ⟨(ad.add (i * 6)).block, (ad.add (i * 6)).off + 2, none⟩ = some (.int .i64 y.f2) ∧ w'.cell? ⟨(ad.add (i * 6)).block, (ad.add (i * 6)).off + 3, none⟩ = some (.int .i64 y.f3.f0) ∧ w'.cell? ⟨(ad.add (i * 6)).block, (ad.add (i * 6)).off + 4, none⟩ = some (.int .u64 y.f3.f1) ∧ w'.cell? ⟨(ad.add (i * 6)).block, (ad.add (i * 6)).off + 5, none⟩ = some (.int .u64 y.f3.f2) from fun w' hb => by
    obtain ⟨ad2, e2, h2⟩ := at_T34 (Kd.C_below HC.out hb) (i : Int) hi0 hil
    injection e2 with e2
    subst e2
    rw [Int.toNat_natCast, hy] at h2
    exact h2)
   clear hyy hy
   have HST7 := Aside0.mk (fun w5 (ht : STt wb w5 (wb.heap.size + 1) M u10 (runQ 16 30 [] (ops.take i)) (runQ 16 30 [] (ops.take i)) 16 30) => (show Calls Try.prog 18 #[.pointer (some ⟨(wb.heap.size + 1), 0, none⟩), u10, .agg #[.int .i64 16, .int .i64 30], .agg #[.int .i64 y.f0, .int .i64 y.f1, .int .i64 y.f2, .int .i64 y.f3.f0, .int .u64 y.f3.f1, .int .u64 y.f3.f2]] w5 (fun e_ w' => ∃ M1 vx1 bb, e_ = .returned (.tuple #[vx1, .bool bb]) ∧ STt wb w' (wb.heap.size + 1) M1 vx1 (stepQ 16 30 (runQ 16 30 [] (ops.take i)) y.f0 ⟨y.f3, y.f1, y.f2⟩) (stepQ 16 30 (runQ 16 30 [] (ops.take i)) y.f0 ⟨y.f3, y.f1, y.f2⟩) 16 30 ∧ Kept w5 w' (SKt (wb.heap.size + 1) M u10)) from by
    refine (tstep_two wb w5 (wb.heap.size + 1) M u10 (runQ 16 30 [] (ops.take i)) (runQ 16 30 [] (ops.take i)) 16 30 y.f0 y.f1 y.f2 y.f3 ht HR1.out HR2.out (by decide) (by decide) (by decide) HOK.out).mono ?_
    rintro e_ w' ⟨M1, vx1, bb, rfl, _, ht, hk⟩
    exact ⟨M1, vx1, bb, rfl, ht, hk⟩))
   go_wp2
   refine start_ (n := 12) (S := fun w' => Below wb.heap.size wb w' ∧ w'.heap[gn]? = some (.cells #[.int .i64 16, .int .i64 30] 22 (0, 0))) (ds := []) #[false, false, false, false, false, false, false, false, false, false, false, false] (by kernel_rfl) rfl rfl ⟨below_drew1 HT.out.kt.below, blk_drew HNB1.out⟩ (fun hHeld => ?_)
   have HT2 := Aside0.mk (HT.out.step (below_drew1 (Below.refl _ _)))
   have HNB2 := Aside0.mk (blk_drew HNB1.out)
   clear HT HNB1
   generalize World.drew _ = w5_ at HT2 HNB2 hHeld ⊢
   refine pl_ [0, 1, 3, 4, 5] ?_
   iterate 5 refine pP rfl rfl (by kernel_rfl) (fun _ _ _ h => h) (by rfl) (by intro w'; go_simp; with_reducible rfl) (by simp only [Act.put, z1, z2, z3, i64_w, i32_w]; rfl) ?_
   refine pl0 ?_
   refine take_ (i := 2) (N := some 92) (v := ?_) (a' := ?_) #[true, true, true, true, true, true, false, false, false, false, false, false] rfl rfl (by kernel_rfl) (fun _ _ _ h => h) (Or.inl ⟨by rfl, ?_⟩) hHeld ?_ ?_
   rotate_left
   ·intro w' hs
    have m0 := blk_cell hs.2 0
    have m1 := blk_cell hs.2 1
    simp only [List.getElem?_toArray, List.getElem?_cons_succ, List.getElem?_cons_zero] at m0 m1
    go_simp
    with_reducible rfl
   rotate_left
   ·simp only [Act.put, List.setIfInBounds_toArray, List.set_cons_zero, List.set_cons_succ, i64_w, i32_w]
    rfl
   refine take_ (i := 6) (N := some 96) (v := ?_) (a' := ?_) #[true, true, true, true, true, true, true, false, false, false, false, false] rfl rfl (by kernel_rfl) (fun _ _ _ h => h) (Or.inl ⟨by rfl, ?_⟩) hHeld ?_ ?_
   rotate_left
   ·intro w' hs
    obtain ⟨s0, s1, s2, s3, s4, s5⟩ := HCY.out w' hs.1
    go_simp
    with_reducible rfl
   rotate_left
   ·simp only [Act.put, List.setIfInBounds_toArray, List.set_cons_zero, List.set_cons_succ, i64_w, i32_w]
    rfl
   refine one_ (i := 7) (N := some 97) #[true, true, true, true, true, true, true, true, false, false, false, false] rfl rfl (by kernel_rfl) (by decide) (fun K hK => ?_)
   refine goes_ Try.func18 (by kernel_rfl) rfl #[.pointer (some ⟨(wb.heap.size + 1), 0, none⟩), u10, .agg #[.int .i64 16, .int .i64 30], .agg #[.int .i64 y.f0, .int .i64 y.f1, .int .i64 y.f2, .int .i64 y.f3.f0, .int .u64 y.f3.f1, .int .u64 y.f3.f2]] (by rfl) rfl rfl (by simp only [List.map_toArray, List.map_cons, List.map_nil]; first | rfl | (go_simp; done)) ?_
   with_reducible refine ((HST7.out _ HT2.out)).mono ?_
   rintro e_ w1 ⟨M1, vx1, bb, rfl, hst, hkp⟩
   refine ⟨_, rfl, ?_⟩
   have HNB := Aside0.mk (HT2.out.keep hkp HNB2.out (by decide) (by decide) (by decide))
   clear hkp
   rw [show stepQ 16 30 (runQ 16 30 [] (ops.take i)) y.f0 ⟨y.f3, y.f1, y.f2⟩ = runQ 16 30 [] (ops.take (i + 1)) from HRS.out.symm] at hst
   obtain ⟨Ax, cx, rfl⟩ := Kd.R_slice hst.rx
   have HT := Aside0.mk hst
   clear hst HT2 HNB2
   refine hK.out _ _ ⟨HT.out.kt.below, HNB.out⟩ (fun hHeld => ?_)
   clear hK K
   refine norm_ (a' := ?_) ?_ ?_
   rotate_left
   ·show Act.put _ (some 97) _ = _
    simp only [Act.put, List.setIfInBounds_toArray, List.set_cons_zero, List.set_cons_succ, i64_w, i32_w]
    rfl
   refine pl_ [8, 9, 10, 11] ?_
   iterate 4 refine pP rfl rfl (by kernel_rfl) (fun _ _ _ h => h) (by rfl) (by intro w'; go_simp; with_reducible rfl) (by simp only [Act.put, z1, z2, z3, i64_w, i32_w]; rfl) ?_
   refine pl0 ?_
   refine done_ (by kernel_rfl) ?_
   go_wp2
   go_roundw
   case measure => first | (simp [intOf]; done) | (simp [intOf]; omega)
   case rel => exact ⟨i + 1, M1, hlt, by go_num, HT, HNB⟩
  ·have hie : i = ops.length := by omega
   have HR1 := HRUN.out i hi
   obtain ⟨p, hp⟩ : ∃ p, p = runQ 16 30 [] (ops.take i) := ⟨_, rfl⟩
   rw [← hp] at HT HR1
   clear hp
   obtain ⟨Ax, cx, rfl⟩ := Kd.R_slice HT.out.rx
   obtain ⟨l, hll⟩ : ∃ l, l = p.map (toTI 16) := ⟨_, rfl⟩
   have had : apartT l := by rw [hll]; exact HR1.apart
   have hf : fitT 16 l := by rw [hll]; exact toTI_fit HR1.ok
   have hpl : p.length ≤ 30 := by have := HR1.le; omega
   have hlp : l.length = p.length := by rw [hll, List.length_map]
   have HPL := Aside0.mk hpl
   have HRM := Aside0.mk (runQ_ok 16 30 p HR1 more HOKM.out)
   have HRZ := Aside0.mk (runQ_ok 16 30 [] (SIt_nil 16 30 (by decide)) more HOKM.out)
   clear HR1
   have HSH := Aside0.mk (show SH M l from by rw [hll]; exact HT.out.sh)
   obtain ⟨q, hq⟩ : ∃ q, q = walkT l (16 + 1) 0 0 := ⟨_, rfl⟩
   have hql : q.length = p.length := by rw [hq, walk_length had hf, hlp]
   have HQL := Aside0.mk hql
   have HLI := Aside0.mk (fun w1 (h : KT wb w1 (wb.heap.size + 1) M 16 30 (p.length : Int)) => (show Calls Try.prog 22 #[.pointer (some ⟨(wb.heap.size + 1), 0, none⟩)] w1 (fun e w' => ∃ v, e = .returned v ∧ Kd.R k44 44 w' w1.heap.size (fun k => some k = v.ownBlock) v (q.map (outT 16)) ∧ Below w1.heap.size w1 w') from by have := List_calls wb w1 (wb.heap.size + 1) M 16 30 (p.length : Int) l hf (by decide) (by decide) HSH.out h (by rw [← hq]; omega); rw [← hq] at this; exact this))
   have HCO := Aside0.mk (fun w1 (h : KT wb w1 (wb.heap.size + 1) M 16 30 (p.length : Int)) => (show Calls Try.prog 31 #[.pointer (some ⟨(wb.heap.size + 1), 0, none⟩)] w1 (fun e w' => ∃ gc M1, e = .returned (.pointer (some ⟨gc, 0, none⟩)) ∧ KT w1 w' gc M1 16 30 (p.length : Int) ∧ SH M1 (p.map (toTI 16))) from by have := tCopy_calls wb w1 (wb.heap.size + 1) M 16 30 (p.length : Int) l h HSH.out hf; rw [hll] at this; exact this))
   clear had hf hll hpl hlp hq hql HRUN HOKS HC HLN HSH
   go_wp2_with (first | (go_at_call 22; with_reducible refine (HLI.out _ HT.out.kt).mono ?_; rintro e_ w3 ⟨v5, rfl, hr, hb⟩; obtain ⟨Ag, cg, e0⟩ := Kd.R_slice hr; rw [List.length_map, HQL.out] at e0; subst e0; have HG := Aside0.mk hr; have HT2 := Aside0.mk (HT.out.step hb); have HNB2 := Aside0.mk (blk_below HNB1.out hb); clear hr hb HT HNB1) | (go_at_call 31; with_reducible refine (HCO.out _ HT2.out.kt).mono ?_; rintro e_ w4 ⟨gc, Mc, rfl, hkc, hsc⟩; have HCP := Aside0.mk hkc; have HCS := Aside0.mk hsc; clear hkc hsc HCO))
   obtain ⟨wc, hwc⟩ : ∃ wc, wc = w3 := ⟨_, rfl⟩
   rw [← hwc] at HT2 HG HCP HNB2
   clear hwc
   have HS0 := Aside0.mk (show STt wc w4 gc Mc (.slice none 0 0) (runQ 16 30 p (more.take 0)) (runQ 16 30 [] (more.take 0)) 16 30 from by rw [show runQ 16 30 [] (more.take 0) = [] from by rw [List.take_zero]; rfl, show runQ 16 30 p (more.take 0) = p from by rw [List.take_zero]; rfl]; exact ⟨HCP.out, HCS.out, Kd.R_nil _ _ _ _ _⟩)
   have HD2 := Aside0.mk (Kd.C_below HD.out HT2.out.kt.below)
   clear HCP HCS HD
   go_loopw [11, 16] (fun u11 u16 w' => ∃ (i : Nat) (M : NM), i ≤ more.length ∧ u16 = .int .i64 i ∧ Aside0 (STt wc w' gc M u11 (runQ 16 30 p (more.take i)) (runQ 16 30 [] (more.take i)) 16 30)) (fun _ u16 _ => more.length - (intOf u16).toNat)
   case atStart => exact ⟨0, _, Nat.zero_le _, rfl, HS0⟩
   case round =>
    obtain ⟨i, Md, hi, rfl, HM⟩ := hrel
    clear HS0 hlt
    by_cases hlt : i < more.length
    ·have hl100 := HLK.out
     have hi0 : 0 ≤ (i : Int) := by omega
     have hil : (i : Int) < (more.length : Int) := by omega
     obtain ⟨ad, hA, _⟩ := at_T34 HD2.out (i : Int) hi0 hil
     subst hA
     have hy : rd_T34 more (i : Int) = more[i] := by simp [rd_T34, List.getD_eq_getElem?_getD, hlt]
     have HR1 := Aside0.mk (HRM.out i hi)
     have HR2 := Aside0.mk (HRZ.out i hi)
     have HRS := Aside0.mk (runQ_take 16 30 p more i hlt)
     have HRT := Aside0.mk (runQ_take 16 30 [] more i hlt)
     obtain ⟨y, hyy⟩ : ∃ y, y = more[i] := ⟨_, rfl⟩
     rw [← hyy] at hy HRS HRT
     have HOK := Aside0.mk (show okV y.f3 from by rw [hyy]; exact HOKM.out _ (List.getElem_mem hlt))
     have HCY := Aside0.mk (show ∀ w', Below wc.heap.size wc w' → w'.cell? (ad.add (i * 6)) = some (.int .i64 y.f0) ∧ w'.cell? ⟨(ad.add (i * 6)).block, (ad.add (i * 6)).off + 1, none⟩ = some (.int .i64 y.f1) ∧ w'.cell? ⟨(ad.add (i * 6)).block, (ad.add (i * 6)).off + 2, none⟩ = some (.int .i64 y.f2) ∧ w'.cell? ⟨(ad.add (i * 6)).block, (ad.add (i * 6)).off + 3, none⟩ = some (.int .i64 y.f3.f0) ∧ w'.cell? ⟨(ad.add (i * 6)).block, (ad.add (i * 6)).off + 4, none⟩ = some (.int .u64 y.f3.f1) ∧ w'.cell? ⟨(ad.add (i * 6)).block, (ad.add (i * 6)).off + 5, none⟩ = some (.int .u64 y.f3.f2) from fun w' hb => by
      obtain ⟨ad2, e2, h2⟩ := at_T34 (Kd.C_below HD2.out hb) (i : Int) hi0 hil
      injection e2 with e2
      subst e2
      rw [Int.toNat_natCast, hy] at h2
      exact h2)
     clear hyy hy
     have HST7 := Aside0.mk (fun w5 (ht : STt wc w5 gc Md u11 (runQ 16 30 p (more.take i)) (runQ 16 30 [] (more.take i)) 16 30) => (show Calls Try.prog 18 #[.pointer (some ⟨gc, 0, none⟩), u11, .agg #[.int .i64 16, .int .i64 30], .agg #[.int .i64 y.f0, .int .i64 y.f1, .int .i64 y.f2, .int .i64 y.f3.f0, .int .u64 y.f3.f1, .int .u64 y.f3.f2]] w5 (fun e_ w' => ∃ M1 vx1 bb, e_ = .returned (.tuple #[vx1, .bool bb]) ∧ STt wc w' gc M1 vx1 (stepQ 16 30 (runQ 16 30 p (more.take i)) y.f0 ⟨y.f3, y.f1, y.f2⟩) (stepQ 16 30 (runQ 16 30 [] (more.take i)) y.f0 ⟨y.f3, y.f1, y.f2⟩) 16 30 ∧ Kept w5 w' (SKt gc Md u11)) from by
      refine (tstep_two wc w5 gc Md u11 (runQ 16 30 p (more.take i)) (runQ 16 30 [] (more.take i)) 16 30 y.f0 y.f1 y.f2 y.f3 ht HR1.out HR2.out (by decide) (by decide) (by decide) HOK.out).mono ?_
      rintro e_ w' ⟨M1, vx1, bb, rfl, _, ht, hk⟩
      exact ⟨M1, vx1, bb, rfl, ht, hk⟩))
     go_wp2
     refine start_ (n := 12) (S := fun w' => Below wc.heap.size wc w') (ds := []) #[false, false, false, false, false, false, false, false, false, false, false, false] (by kernel_rfl) rfl rfl (below_drew1 HM.out.kt.below) (fun hHeld => ?_)
     have HM2 := Aside0.mk (HM.out.step (below_drew1 (Below.refl _ _)))
     clear HM
     generalize World.drew _ = w5_ at HM2 hHeld ⊢
     refine pl_ [0, 1, 3, 4, 5] ?_
     iterate 5 refine pP rfl rfl (by kernel_rfl) (fun _ _ _ h => h) (by rfl) (by intro w'; go_simp; with_reducible rfl) (by simp only [Act.put, z1, z2, z3, i64_w, i32_w]; rfl) ?_
     refine pl0 ?_
     refine take_ (i := 2) (N := some 113) (v := ?_) (a' := ?_) #[true, true, true, true, true, true, false, false, false, false, false, false] rfl rfl (by kernel_rfl) (fun _ _ _ h => h) (Or.inl ⟨by rfl, ?_⟩) hHeld ?_ ?_
     rotate_left
     ·intro w' hs
      have m0 := blk_cell (blk_below HNB2.out hs) 0
      have m1 := blk_cell (blk_below HNB2.out hs) 1
      simp only [List.getElem?_toArray, List.getElem?_cons_succ, List.getElem?_cons_zero] at m0 m1
      go_simp
      with_reducible rfl
     rotate_left
     ·simp only [Act.put, List.setIfInBounds_toArray, List.set_cons_zero, List.set_cons_succ, i64_w, i32_w]
      rfl
     refine take_ (i := 6) (N := some 117) (v := ?_) (a' := ?_) #[true, true, true, true, true, true, true, false, false, false, false, false] rfl rfl (by kernel_rfl) (fun _ _ _ h => h) (Or.inl ⟨by rfl, ?_⟩) hHeld ?_ ?_
     rotate_left
     ·intro w' hs
      obtain ⟨s0, s1, s2, s3, s4, s5⟩ := HCY.out w' hs
      go_simp
      with_reducible rfl
     rotate_left
     ·simp only [Act.put, List.setIfInBounds_toArray, List.set_cons_zero, List.set_cons_succ, i64_w, i32_w]
      rfl
     refine one_ (i := 7) (N := some 118) #[true, true, true, true, true, true, true, true, false, false, false, false] rfl rfl (by kernel_rfl) (by decide) (fun K hK => ?_)
     refine goes_ Try.func18 (by kernel_rfl) rfl #[.pointer (some ⟨gc, 0, none⟩), u11, .agg #[.int .i64 16, .int .i64 30], .agg #[.int .i64 y.f0, .int .i64 y.f1, .int .i64 y.f2, .int .i64 y.f3.f0, .int .u64 y.f3.f1, .int .u64 y.f3.f2]] (by rfl) rfl rfl (by simp only [List.map_toArray, List.map_cons, List.map_nil]; first | rfl | (go_simp; done)) ?_
     with_reducible refine ((HST7.out _ HM2.out)).mono ?_
     rintro e_ w1 ⟨M1, vx1, bb, rfl, hst, hkp⟩
     refine ⟨_, rfl, ?_⟩
     clear hkp
     rw [show stepQ 16 30 (runQ 16 30 p (more.take i)) y.f0 ⟨y.f3, y.f1, y.f2⟩ = runQ 16 30 p (more.take (i + 1)) from HRS.out.symm, show stepQ 16 30 (runQ 16 30 [] (more.take i)) y.f0 ⟨y.f3, y.f1, y.f2⟩ = runQ 16 30 [] (more.take (i + 1)) from HRT.out.symm] at hst
     obtain ⟨Az, cz, rfl⟩ := Kd.R_slice hst.rx
     have HM := Aside0.mk hst
     clear hst HM2
     refine hK.out _ _ HM.out.kt.below (fun hHeld => ?_)
     clear hK K
     refine norm_ (a' := ?_) ?_ ?_
     rotate_left
     ·show Act.put _ (some 118) _ = _
      simp only [Act.put, List.setIfInBounds_toArray, List.set_cons_zero, List.set_cons_succ, i64_w, i32_w]
      rfl
     refine pl_ [8, 9, 10, 11] ?_
     iterate 4 refine pP rfl rfl (by kernel_rfl) (fun _ _ _ h => h) (by rfl) (by intro w'; go_simp; with_reducible rfl) (by simp only [Act.put, z1, z2, z3, i64_w, i32_w]; rfl) ?_
     refine pl0 ?_
     refine done_ (by kernel_rfl) ?_
     go_wp2
     go_roundw
     case measure => first | (simp [intOf]; done) | (simp [intOf]; omega)
     case rel => exact ⟨i + 1, M1, hlt, by go_num, HM⟩
    ·obtain ⟨Az, cz, rfl⟩ := Kd.R_slice HM.out.rx
     have HT3 := Aside0.mk (HT2.out.step HM.out.kt.below).kt
     have HG1 := Aside0.mk (Kd.R_below HG.out HM.out.kt.below)
     clear HG HM HT2
     go_wp2_with (first | (go_at_call 22; with_reducible refine (HLI.out _ HT3.out).mono ?_; rintro e_ w13 ⟨v6, rfl, hr, hb⟩; obtain ⟨Ah, ch, e0⟩ := Kd.R_slice hr; rw [List.length_map, HQL.out] at e0; subst e0; have HH := Aside0.mk hr; have HG2 := Aside0.mk (Kd.R_below HG1.out hb); have HB13 := Aside0.mk (HT3.out.step hb).below; clear hr hb HT3 HG1))
     clear HLI HNB2 HD2
     go_loopw [18] (fun u18 w' => ∃ j : Nat, j ≤ p.length ∧ u18 = .int .i64 j ∧ Aside0 (Below w13.heap.size w13 w')) (fun u18 _ => p.length - (intOf u18).toNat)
     case atStart => exact ⟨0, Nat.zero_le _, rfl, ⟨Below.refl _ _⟩⟩
     case round =>
      obtain ⟨j, hj, rfl, HB7⟩ := hrel
      by_cases hjt : j < p.length
      ·have hpl := HPL.out
       have hql := HQL.out
       have hj0 : 0 ≤ (j : Int) := by omega
       have hjl : (j : Int) < (p.length : Int) := by omega
       have hjq : j < q.length := by omega
       have hjm : j < (q.map (outT 16)).length := by rw [List.length_map]; exact hjq
       obtain ⟨y, hy⟩ : ∃ y, y = outT 16 q[j] := ⟨_, rfl⟩
       have hrd : rd_T44 (q.map (outT 16)) (j : Int) = y := by rw [rd44_ _ j hjm, hy, List.getElem_map]
       obtain ⟨d1, hAd1, _⟩ := at_T44 (Kd.R_reads' HH.out).2.2 (j : Int) hj0 (by omega)
       subst hAd1
       have HC1 := Aside0.mk (show ∀ w', Below w13.heap.size w13 w' → w'.cell? (d1.add (j * 5)) = some (.int .i64 y.f0.f0) ∧ w'.cell? ⟨(d1.add (j * 5)).block, (d1.add (j * 5)).off + 1, none⟩ = some (.int .u64 y.f0.f1) ∧ w'.cell? ⟨(d1.add (j * 5)).block, (d1.add (j * 5)).off + 2, none⟩ = some (.int .u64 y.f0.f2) ∧ w'.cell? ⟨(d1.add (j * 5)).block, (d1.add (j * 5)).off + 3, none⟩ = some (.int .i64 y.f1) ∧ w'.cell? ⟨(d1.add (j * 5)).block, (d1.add (j * 5)).off + 4, none⟩ = some (.int .i64 y.f2) from fun w' hb => by
        obtain ⟨ad2, e2, h2⟩ := at_T44 (Kd.C_below (Kd.R_reads' HH.out).2.2 hb) (j : Int) hj0 (by omega)
        injection e2 with e2
        subst e2
        rw [Int.toNat_natCast, hrd] at h2
        exact h2)
       obtain ⟨d2, hAd2, _⟩ := at_T44 (Kd.R_reads' HG2.out).2.2 (j : Int) hj0 (by omega)
       subst hAd2
       have HC2 := Aside0.mk (show ∀ w', Below w13.heap.size w13 w' → w'.cell? (d2.add (j * 5)) = some (.int .i64 y.f0.f0) ∧ w'.cell? ⟨(d2.add (j * 5)).block, (d2.add (j * 5)).off + 1, none⟩ = some (.int .u64 y.f0.f1) ∧ w'.cell? ⟨(d2.add (j * 5)).block, (d2.add (j * 5)).off + 2, none⟩ = some (.int .u64 y.f0.f2) ∧ w'.cell? ⟨(d2.add (j * 5)).block, (d2.add (j * 5)).off + 3, none⟩ = some (.int .i64 y.f1) ∧ w'.cell? ⟨(d2.add (j * 5)).block, (d2.add (j * 5)).off + 4, none⟩ = some (.int .i64 y.f2) from fun w' hb => by
        obtain ⟨ad2, e2, h2⟩ := at_T44 (Kd.C_below (Kd.R_reads' HG2.out).2.2 hb) (j : Int) hj0 (by omega)
        injection e2 with e2
        subst e2
        rw [Int.toNat_natCast, hrd] at h2
        exact h2)
       clear hy hrd hjm hjq hql
       go_wp2
       refine start_ (n := 9) (S := fun w' => Below w13.heap.size w13 w') (ds := []) #[false, false, false, false, false, false, false, false, false] (by kernel_rfl) rfl rfl (below_drew1 HB7.out) (fun hHeld => ?_)
       clear HB7
       generalize World.drew _ = w7_ at hHeld ⊢
       refine pl_ [0, 1, 2, 4, 5, 6] ?_
       iterate 6 refine pP rfl rfl (by kernel_rfl) (fun _ _ _ h => h) (by rfl) (by intro w'; go_simp; with_reducible rfl) (by simp only [Act.put, z1, z2, z3, i64_w, i32_w]; rfl) ?_
       refine pl0 ?_
       refine take_ (i := 3) (N := some 144) (v := ?_) (a' := ?_) #[true, true, true, true, true, true, true, false, false] rfl rfl (by kernel_rfl) (fun _ _ _ h => h) (Or.inl ⟨by rfl, ?_⟩) hHeld ?_ ?_
       rotate_left
       ·intro w' hs
        obtain ⟨s0, s1, s2, s3, s4⟩ := HC1.out w' hs
        go_simp
        with_reducible rfl
       rotate_left
       ·simp only [Act.put, List.setIfInBounds_toArray, List.set_cons_zero, List.set_cons_succ, i64_w, i32_w]
        rfl
       refine take_ (i := 7) (N := some 148) (v := ?_) (a' := ?_) #[true, true, true, true, true, true, true, true, false] rfl rfl (by kernel_rfl) (fun _ _ _ h => h) (Or.inl ⟨by rfl, ?_⟩) hHeld ?_ ?_
       rotate_left
       ·intro w' hs
        obtain ⟨s0, s1, s2, s3, s4⟩ := HC2.out w' hs
        go_simp
        with_reducible rfl
       rotate_left
       ·simp only [Act.put, List.setIfInBounds_toArray, List.set_cons_zero, List.set_cons_succ, i64_w, i32_w]
        rfl
       refine pure_ (i := 8) (N := some 149) (v := ?_) (a' := ?_) #[true, true, true, true, true, true, true, true, true] rfl rfl (by kernel_rfl) (fun _ _ _ h => h) (Or.inl ⟨by rfl, ?_⟩) ?_ ?_
       rotate_left
       ·intro w'
        have := neq44 w' y.f0.f0 y.f0.f1 y.f0.f2 y.f1 y.f2
        go_simp
        with_reducible rfl
       rotate_left
       ·simp only [Act.put, List.setIfInBounds_toArray, List.set_cons_zero, List.set_cons_succ, i64_w, i32_w]
        rfl
       refine done_ (by kernel_rfl) ?_
       have HB8 := Aside0.mk hHeld
       clear hHeld
       go_wp2
       go_roundw
       case measure => first | (simp [intOf]; done) | (simp [intOf]; omega)
       case rel => exact ⟨j + 1, hjt, by go_num, HB8⟩
      ·have hje : j = p.length := by omega
       go_wp2_with (first | (go_at_call 17; with_reducible refine (tlives_calls _).mono ?_; rintro e_ w8 ⟨rfl, hb⟩; have HZ := Aside0.mk (below_step HB7.out hb); clear hb))
       go_ret
       exact ⟨rfl, below_step HW.out (below_step HB13.out HZ.out)⟩
theorem TrieCopies_true (A B : Option Addr) (c d : Nat) (ops more : List S34) (w : World) (hC : Kd.C k34 w A ops.length ops) (hD : Kd.C k34 w B more.length more) (hok : ∀ y ∈ ops, okV y.f3) (hok2 : ∀ y ∈ more, okV y.f3) :
 Calls Try.prog 7 #[.slice A ops.length c, .slice B more.length d] w fun e_ w' => e_ = .returned (.bool true) ∧ Below w.heap.size w w' := by
 by_cases hl : 200 < ops.length
 ·exact TrieCopies_many1 A B c d ops more w hl
 ·by_cases hk : 200 < more.length
  ·exact TrieCopies_many2 A B c d ops more w hl hk
  ·exact TrieCopies_main A B c d ops more w (by omega) (by omega) hC hD hok hok2
end Go.Proofs.Ytfdbcnbakchcgaa.XR
