import Derived.Test.YtfdbcnbakchcgaaQh
namespace Go.Proofs.Ytfdbcnbakchcgaa.XQ
open Go.RowKit Go.Proofs.YtfdbcnbakchcgaaW.PrintWords Go.Proofs.YtfdbcnbakchcgaaW.PrintLast Go.Proofs.YtfdbcnbakchcgaaW.PrintMore
attribute [local go_sem] max2_int min2_int max_two min_two max_three min_three max_four min_four
set_option linter.unusedVariables false
set_option linter.unusedSimpArgs false
set_option maxHeartbeats 1000000 in
set_option maxRecDepth 100000 in
theorem mine_calls (kd : Int) (x : S94) (A : Option Addr) (c : Nat) (B : Option Addr) (d : Nat) (w : World) : Calls Try.prog 54 #[.agg #[.int .i64 kd, .int .i64 x.f2, .int .i64 x.f3, .slice A x.f0.length c, .slice B x.f1.length d]] w fun e w' => e = .returned (.agg #[.slice A x.f0.length c, .slice B x.f1.length d, .int .i64 x.f2, .int .i64 x.f3]) ∧ Below w.heap.size w w' := by
 have HX := Aside0.mk (show ((w.alloc (.cells #[.int .i64 kd, .int .i64 x.f2, .int .i64 x.f3, .slice A x.f0.length c, .slice B x.f1.length d] 87 (0, 0))).alloc (.cells #[.slice none 0 0, .slice none 0 0, .int .i64 0, .int .i64 0] 94 (0, 0))).heap[w.heap.size]? = some (.cells #[.int .i64 kd, .int .i64 x.f2, .int .i64 x.f3, .slice A x.f0.length c, .slice B x.f1.length d] 87 (0, 0)) from blk_alloc (blk_new w _) _)
 have HZ := Aside0.mk (show ((w.alloc (.cells #[.int .i64 kd, .int .i64 x.f2, .int .i64 x.f3, .slice A x.f0.length c, .slice B x.f1.length d] 87 (0, 0))).alloc (.cells #[.slice none 0 0, .slice none 0 0, .int .i64 0, .int .i64 0] 94 (0, 0))).heap[w.heap.size + 1]? = some (.cells #[.slice none 0 0, .slice none 0 0, .int .i64 0, .int .i64 0] 94 (0, 0)) from by have := blk_new (w.alloc (.cells #[.int .i64 kd, .int .i64 x.f2, .int .i64 x.f3, .slice A x.f0.length c, .slice B x.f1.length d] 87 (0, 0))) (.cells #[.slice none 0 0, .slice none 0 0, .int .i64 0, .int .i64 0] 94 (0, 0)); simpa using this)
 have HQ := Aside0.mk (show Below w.heap.size w ((w.alloc (.cells #[.int .i64 kd, .int .i64 x.f2, .int .i64 x.f3, .slice A x.f0.length c, .slice B x.f1.length d] 87 (0, 0))).alloc (.cells #[.slice none 0 0, .slice none 0 0, .int .i64 0, .int .i64 0] 94 (0, 0))) from below_alloc (below_alloc (Below.refl _ _) _) _)
 go_enter Try.func54, Try.ntmps54
 go_upto_region 1 with (first | (go_at_call 67; skip))
 generalize ((w.alloc (.cells #[.int .i64 kd, .int .i64 x.f2, .int .i64 x.f3, .slice A x.f0.length c, .slice B x.f1.length d] 87 (0, 0))).alloc (.cells #[.slice none 0 0, .slice none 0 0, .int .i64 0, .int .i64 0] 94 (0, 0))) = wq at HX HZ HQ ⊢
 have b0 := blk_cell HX.out 0
 have b1 := blk_cell HX.out 1
 have b2 := blk_cell HX.out 2
 have b3 := blk_cell HX.out 3
 have b4 := blk_cell HX.out 4
 have y0 := blk_cell HZ.out 0
 have y1 := blk_cell HZ.out 1
 have y2 := blk_cell HZ.out 2
 have y3 := blk_cell HZ.out 3
 have zf := blk_frozen HZ.out
 simp only [List.getElem?_toArray, List.getElem?_cons_succ, List.getElem?_cons_zero] at b0 b1 b2 b3 b4 y0 y1 y2 y3
 go_wp2
 refine bodyPost_ret (results_single rfl (.cell (w.heap.size + 1) 94 _ (0, 0) _ rfl (blk_set (blk_set (blk_set (blk_set HZ.out 0 (.slice A x.f0.length c)) 1 (.slice B x.f1.length d)) 2 (.int .i64 x.f2)) 3 (.int .i64 x.f3)) Try.underlying94 rfl (by kernel_rfl) .nil)) rfl ⟨rfl, (below_set (below_set (below_set (below_set HQ.out (Nat.le_succ _)) (Nat.le_succ _)) (Nat.le_succ _)) (Nat.le_succ _))⟩
set_option maxHeartbeats 1000000 in
set_option maxRecDepth 100000 in
theorem theirs_calls (x : S94) (A : Option Addr) (c : Nat) (B : Option Addr) (d : Nat) (w : World) : Calls Try.prog 58 #[.agg #[.slice A x.f0.length c, .slice B x.f1.length d, .int .i64 x.f2, .int .i64 x.f3]] w fun e w' => e = .returned (.agg #[.slice A x.f0.length c, .slice B x.f1.length d, .int .i64 x.f2, .int .i64 x.f3]) ∧ Below w.heap.size w w' := by
 have HX := Aside0.mk (show ((w.alloc (.cells #[.slice A x.f0.length c, .slice B x.f1.length d, .int .i64 x.f2, .int .i64 x.f3] 94 (0, 0))).alloc (.cells #[.slice none 0 0, .slice none 0 0, .int .i64 0, .int .i64 0] 99 (0, 0))).heap[w.heap.size]? = some (.cells #[.slice A x.f0.length c, .slice B x.f1.length d, .int .i64 x.f2, .int .i64 x.f3] 94 (0, 0)) from blk_alloc (blk_new w _) _)
 have HZ := Aside0.mk (show ((w.alloc (.cells #[.slice A x.f0.length c, .slice B x.f1.length d, .int .i64 x.f2, .int .i64 x.f3] 94 (0, 0))).alloc (.cells #[.slice none 0 0, .slice none 0 0, .int .i64 0, .int .i64 0] 99 (0, 0))).heap[w.heap.size + 1]? = some (.cells #[.slice none 0 0, .slice none 0 0, .int .i64 0, .int .i64 0] 99 (0, 0)) from by have := blk_new (w.alloc (.cells #[.slice A x.f0.length c, .slice B x.f1.length d, .int .i64 x.f2, .int .i64 x.f3] 94 (0, 0))) (.cells #[.slice none 0 0, .slice none 0 0, .int .i64 0, .int .i64 0] 99 (0, 0)); simpa using this)
 have HQ := Aside0.mk (show Below w.heap.size w ((w.alloc (.cells #[.slice A x.f0.length c, .slice B x.f1.length d, .int .i64 x.f2, .int .i64 x.f3] 94 (0, 0))).alloc (.cells #[.slice none 0 0, .slice none 0 0, .int .i64 0, .int .i64 0] 99 (0, 0))) from below_alloc (below_alloc (Below.refl _ _) _) _)
 go_enter Try.func58, Try.ntmps58
 go_upto_region 1 with (first | (go_at_call 67; skip))
 generalize ((w.alloc (.cells #[.slice A x.f0.length c, .slice B x.f1.length d, .int .i64 x.f2, .int .i64 x.f3] 94 (0, 0))).alloc (.cells #[.slice none 0 0, .slice none 0 0, .int .i64 0, .int .i64 0] 99 (0, 0))) = wq at HX HZ HQ ⊢
 have b0 := blk_cell HX.out 0
 have b1 := blk_cell HX.out 1
 have b2 := blk_cell HX.out 2
 have b3 := blk_cell HX.out 3
 have y0 := blk_cell HZ.out 0
 have y1 := blk_cell HZ.out 1
 have y2 := blk_cell HZ.out 2
 have y3 := blk_cell HZ.out 3
 have zf := blk_frozen HZ.out
 simp only [List.getElem?_toArray, List.getElem?_cons_succ, List.getElem?_cons_zero] at b0 b1 b2 b3 y0 y1 y2 y3
 go_wp2
 refine bodyPost_ret (results_single rfl (.cell (w.heap.size + 1) 99 _ (0, 0) _ rfl (blk_set (blk_set (blk_set (blk_set HZ.out 0 (.slice A x.f0.length c)) 1 (.slice B x.f1.length d)) 2 (.int .i64 x.f2)) 3 (.int .i64 x.f3)) Try.underlying99 rfl (by kernel_rfl) .nil)) rfl ⟨rfl, (below_set (below_set (below_set (below_set HQ.out (Nat.le_succ _)) (Nat.le_succ _)) (Nat.le_succ _)) (Nat.le_succ _))⟩
theorem getA_congr {p q : S94 → Bool} {xs : List S94} (h : ∀ y ∈ xs, p y = q y) : getA p xs = getA q xs := by
 unfold getA
 have : xs.find? p = xs.find? q := by
  induction xs with
  | nil => rfl
  | cons a t ih =>
   rw [List.find?_cons, List.find?_cons, h a List.mem_cons_self, ih (fun y hy => h y (List.mem_cons_of_mem _ hy))]
 rw [this]
theorem Get_calls (w0 w : World) (g : Nat) (v wv : Value) (xs : List S94) (ws : List Int) (m : Int) (A : Option Addr) (c : Nat) (key : List S32) (h : LK w0 w g v wv xs ws m) (hA : Kd.C k32 w A key.length key) (hc : key.length ≤ c) (hok : ∀ z ∈ key, okV z) (hx : ∀ y ∈ xs, okR ws.length y) (hn : xs.length ≤ 1000) (hkm : key.length ≤ 1000) :
 Calls Try.prog 56 #[.pointer (some ⟨g, 0, none⟩), .slice A key.length c] w fun e_ w' => e_ = .returned (.tuple #[.int .i64 (getA (qK key) xs).1, .int .i64 (getA (qK key) xs).2.1, .bool (getA (qK key) xs).2.2]) ∧ Below w.heap.size w w' := by
 by_cases hl : key.length = ws.length
 ·have e : getA (qK key) xs = getA (meetL key) xs := getA_congr (fun y hy => by unfold qK; rw [decide_eq_true (by rw [hl, (hx y hy).ea]), Bool.true_and])
  rw [e]
  exact Get_go w0 w g v wv xs ws m A c key h hA hc hok hl (fun y hy => ⟨(hx y hy).ea, (hx y hy).eb, (hx y hy).i.a, (hx y hy).i.b⟩) hn hkm
 ·have e : getA (qK key) xs = (0, 0, false) := getA_miss _ _ (fun j hj => by
   unfold qK
   rw [rd94 xs j hj, decide_eq_false (by rw [(hx _ (List.getElem_mem hj)).ea]; exact hl), Bool.false_and])
  rw [e]
  exact Get_len w0 w g v wv xs ws m A c key h hl
structure SS (w0 w : World) (g : Nat) (v wv vx : Value) (p : List S94) (x : List S99) (ws : List Int) (m : Int) : Prop where
 lk : LK w0 w g v wv p ws m
 rx : Kd.V k99 99 w 0 (fun k => k ≠ g ∧ some k ≠ v.ownBlock) vx x
theorem SS.step {w0 w w1 : World} {g : Nat} {v wv vx : Value} {p : List S94} {x : List S99} {ws : List Int} {m : Int} (h : SS w0 w g v wv vx p x ws m) (hb : Below w.heap.size w w1) : SS w0 w1 g v wv vx p x ws m := ⟨h.lk.step hb, Kd.V_below h.rx hb⟩
theorem SS.prog {w0 w w1 : World} {g : Nat} {v v1 wv vx : Value} {p p1 : List S94} {x : List S99} {ws : List Int} {m : Int} (h : SS w0 w g v wv vx p x ws m) (hp : LP w0 w w1 g v v1 wv p1 ws m) : SS w0 w1 g v1 wv vx p1 x ws m := ⟨hp.lk, V_beside h.rx hp.kept hp.at_⟩
end Go.Proofs.Ytfdbcnbakchcgaa.XQ
