import Derived.Test.YtfdbcnbakchcgaaQh
namespace Go.Proofs.Ytfdbcnbakchcgaa.XQ
open Go.RowKit Go.Proofs.YtfdbcnbakchcgaaW.PrintWords Go.Proofs.YtfdbcnbakchcgaaW.PrintLast Go.Proofs.YtfdbcnbakchcgaaW.PrintMore
attribute [local go_sem] max2_int min2_int max_two min_two max_three min_three max_four min_four
set_option linter.unusedVariables false
set_option linter.unusedSimpArgs false
set_option maxHeartbeats 1000000 in
set_option maxRecDepth 100000 in
theorem mine_calls (kd : Int) (x : S94) (A : Option Addr) (c : Nat) (B : Option Addr) (d : Nat) (w : World) : Calls Try.prog 54 #[.agg #[.int .i64 kd, .int .i64 x.f2, .int .i64 x.f3, .slice A x.f0.length c, .slice B x.f1.length d]] w fun e w' => e = .returned (.agg #[.slice A x.f0.length c, .slice B x.f1.length d, .int .i64 x.f2, .int .i64 x.f3]) ∧ Below w.heap.size w w' := by
 have HX := Aside0.mk (show ((w.alloc (.cells #[.int .i64 kd, .int .i64 x.f2, .int .i64 x.f3, .slice A x.f0.length c, .slice B x.f1.length d] 87 (0, 0))).alloc (.cells #[.slice none 0 0, .slice none 0 0, .int .i64 0, .int .i64 0] 94 (0, 0))).heap[w.heap.size]? = some (.cells #[.int .i64 kd, .int .i64 x.f2, .int .i64 x.f3, .slice A x.f0.length c, .slice B x.f1.length d] 87 (0, 0)) from blk_alloc (blk_new w _) _)
 have HZ := Aside0.mk (show ((w.alloc (.cells #[.int .i64 kd, .int .i64 x.f2, .int .i64 x.f3, .slice A x.f0.length c, .slice B x.f1.length d] 87 (0, 0))).alloc (.cells #[.slice none 0 0, .slice none 0 0, .int .i64 0, .int .i64 0] 94 (0, 0))).heap[w.heap.size + 1]? = some (.cells #[.slice none 0 0, .slice none 0 0, .int .i64 0, .int .i64 0] 94 (0, 0)) from by have := blk_new (w.alloc (.cells #[.int .i64 kd, .int .i64 x.f2, .int .i64 x.f3, .slice A x.f0.length c, .slice B x.f1.length d] 87 (0, 0))) (.cells #[.slice none 0 0, .slice none 0 0, .int .i64 0, .int .i64 0] 94 (0, 0)); simpa using this)
 have HQ := Aside0.mk (show Below w.heap.size w ((w.alloc (.cells #[.int .i64 kd, .int .i64 x.f2, .int .i64 x.f3, .slice A x.f0.length c, .slice B x.f1.length d] 87 (0, 0))).alloc (.cells #[.slice none 0 0, .slice none 0 0, .int .i64 0, .int .i64 0] 94 (0, 0))) from below_alloc (below_alloc (Below.refl _ _) _) _)
 go_enter Try.func54, Try.ntmps54
 go_upto_region 1 with (first | (go_at_call 67; skip))
 generalize ((w.alloc (.cells #[.int .i64 kd, .int .i64 x.f2, .int .i64 x.f3, .slice A x.f0.length c, .slice B x.f1.length d] 87 (0, 0))).alloc (.cells #[.slice none 0 0, .slice none 0 0, .int .i64 0, .int .i64 0] 94 (0, 0))) = wq at HX HZ HQ ⊢
 have b0 := blk_cell HX.out 0
 have b1 := blk_cell HX.out 1
 have b2 := blk_cell HX.out 2
 have b3 := blk_cell HX.out 3
 have b4 := blk_cell HX.out 4
 have y0 := blk_cell HZ.out 0
 have y1 := blk_cell HZ.out 1
 have y2 := blk_cell HZ.out 2
 have y3 := blk_cell HZ.out 3
 have zf := blk_frozen HZ.out
 simp only [List.getElem?_toArray, List.getElem?_cons_succ, List.getElem?_cons_zero] at b0 b1 b2 b3 b4 y0 y1 y2 y3
 go_wp2
 refine bodyPost_ret (results_single rfl (.cell (w.heap.size + 1) 94 _ (0, 0) _ rfl (blk_set (blk_set (blk_set (blk_set HZ.out 0 (.slice A x.f0.length c)) 1 (.slice B x.f1.length d)) 2 (.int .i64 x.f2)) 3 (.int .i64 x.f3)) Try.underlying94 rfl (by kernel_rfl) .nil)) rfl ⟨rfl, (below_set (below_set (below_set (below_set HQ.out (Nat.le_succ _)) (Nat.le_succ _)) (Nat.le_succ _)) (Nat.le_succ _))⟩
set_option maxHeartbeats 1000000 in
set_option maxRecDepth 100000 in
theorem theirs_calls (x : S94) (A : Option Addr) (c : Nat) (B : Option Addr) (d : Nat) (w : World) : Calls Try.prog 58 #[.agg #[.slice A x.f0.length c, .slice B x.f1.length d, .int .i64 x.f2, .int .i64 x.f3]] w fun e w' => e = .returned (.agg #[.slice A x.f0.length c, .slice B x.f1.length d, .int .i64 x.f2, .int .i64 x.f3]) ∧ Below w.heap.size w w' := by
 have HX := Aside0.mk (show ((w.alloc (.cells #[.slice A x.f0.length c, .slice B x.f1.length d, .int .i64 x.f2, .int .i64 x.f3] 94 (0, 0))).alloc (.cells #[.slice none 0 0, .slice none 0 0, .int .i64 0, .int .i64 0] 99 (0, 0))).heap[w.heap.size]? = some (.cells #[.slice A x.f0.length c, .slice B x.f1.length d, .int .i64 x.f2, .int .i64 x.f3] 94 (0, 0)) from blk_alloc (blk_new w _) _)
 have HZ := Aside0.mk (show ((w.alloc (.cells #[.slice A x.f0.length c, .slice B x.f1.length d, .int .i64 x.f2, .int .i64 x.f3] 94 (0, 0))).alloc (.cells #[.slice none 0 0, .slice none 0 0, .int .i64 0, .int .i64 0] 99 (0, 0))).heap[w.heap.size + 1]? = some (.cells #[.slice none 0 0, .slice none 0 0, .int .i64 0, .int .i64 0] 99 (0, 0)) from by have := blk_new (w.alloc (.cells #[.slice A x.f0.length c, .slice B x.f1.length d, .int .i64 x.f2, .int .i64 x.f3] 94 (0, 0))) (.cells #[.slice none 0 0, .slice none 0 0, .int .i64 0, .int .i64 0] 99 (0, 0)); simpa using this)
 have HQ := Aside0.mk (show Below w.heap.size w ((w.alloc (.cells #[.slice A x.f0.length c, .slice B x.f1.length d, .int .i64 x.f2, .int .i64 x.f3] 94 (0, 0))).alloc (.cells #[.slice none 0 0, .slice none 0 0, .int .i64 0, .int .i64 0] 99 (0, 0))) from below_alloc (below_alloc (Below.refl _ _) _) _)
 go_enter Try.func58, Try.ntmps58
 go_upto_region 1 with (first | (go_at_call 67; skip))
 generalize ((w.alloc (.cells #[.slice A x.f0.length c, .slice B x.f1.length d, .int .i64 x.f2, .int .i64 x.f3] 94 (0, 0))).alloc (.cells #[.slice none 0 0, .slice none 0 0, .int .i64 0, .int .i64 0] 99 (0, 0))) = wq at HX HZ HQ ⊢
 have b0 := blk_cell HX.out 0
 have b1 := blk_cell HX.out 1
 have b2 := blk_cell HX.out 2
 have b3 := blk_cell HX.out 3
 have y0 := blk_cell HZ.out 0
 have y1 := blk_cell HZ.out 1
 have y2 := blk_cell HZ.out 2
 have y3 := blk_cell HZ.out 3
 have zf := blk_frozen HZ.out
 simp only [List.getElem?_toArray, List.getElem?_cons_succ, List.getElem?_cons_zero] at b0 b1 b2 b3 y0 y1 y2 y3
 go_wp2
 refine bodyPost_ret (results_single rfl (.cell (w.heap.size + 1) 99 _ (0, 0) _ rfl (blk_set (blk_set (blk_set (blk_set HZ.out 0 (.slice A x.f0.length c)) 1 (.slice B x.f1.length d)) 2 (.int .i64 x.f2)) 3 (.int .i64 x.f3)) Try.underlying99 rfl (by kernel_rfl) .nil)) rfl ⟨rfl, (below_set (below_set (below_set (below_set HQ.out (Nat.le_succ _)) (Nat.le_succ _)) (Nat.le_succ _)) (Nat.le_succ _))⟩
theorem heap_k32 : Kd.Heap k32 := Kd.heap_iso _ (Kd.heap_pair (Kd.heap_int _) (Kd.heap_pair (Kd.heap_int _) (Kd.heap_int _)))
theorem getA_congr {p q : S94 → Bool} {xs : List S94} (h : ∀ y ∈ xs, p y = q y) : getA p xs = getA q xs := by
 unfold getA
 have : xs.find? p = xs.find? q := by
  induction xs with
  | nil => rfl
  | cons a t ih =>
   rw [List.find?_cons, List.find?_cons, h a List.mem_cons_self, ih (fun y hy => h y (List.mem_cons_of_mem _ hy))]
 rw [this]
theorem Get_calls (w0 w : World) (g : Nat) (v wv : Value) (xs : List S94) (ws : List Int) (m : Int) (A : Option Addr) (c : Nat) (key : List S32) (h : LK w0 w g v wv xs ws m) (hA : Kd.C k32 w A key.length key) (hc : key.length ≤ c) (hok : ∀ z ∈ key, okV z) (hx : ∀ y ∈ xs, okR ws.length y) (hn : xs.length ≤ 1000) (hkm : key.length ≤ 1000) :
 Calls Try.prog 56 #[.pointer (some ⟨g, 0, none⟩), .slice A key.length c] w fun e_ w' => e_ = .returned (.tuple #[.int .i64 (getA (qK key) xs).1, .int .i64 (getA (qK key) xs).2.1, .bool (getA (qK key) xs).2.2]) ∧ Below w.heap.size w w' := by
 by_cases hl : key.length = ws.length
 ·have e : getA (qK key) xs = getA (meetL key) xs := getA_congr (fun y hy => by unfold qK; rw [decide_eq_true (by rw [hl, (hx y hy).ea]), Bool.true_and])
  rw [e]
  exact Get_go w0 w g v wv xs ws m A c key h hA hc hok hl (fun y hy => ⟨(hx y hy).ea, (hx y hy).eb, (hx y hy).i.a, (hx y hy).i.b⟩) hn hkm
 ·have e : getA (qK key) xs = (0, 0, false) := getA_miss _ _ (fun j hj => by
   unfold qK
   rw [rd94 xs j hj, decide_eq_false (by rw [(hx _ (List.getElem_mem hj)).ea]; exact hl), Bool.false_and])
  rw [e]
  exact Get_len w0 w g v wv xs ws m A c key h hl
structure SS (w0 w : World) (g : Nat) (v wv vx : Value) (p : List S94) (x : List S99) (ws : List Int) (m : Int) : Prop where
 lk : LK w0 w g v wv p ws m
 rx : Kd.V k99 99 w 0 (fun k => k ≠ g ∧ some k ≠ v.ownBlock) vx x
theorem SS.step {w0 w w1 : World} {g : Nat} {v wv vx : Value} {p : List S94} {x : List S99} {ws : List Int} {m : Int} (h : SS w0 w g v wv vx p x ws m) (hb : Below w.heap.size w w1) : SS w0 w1 g v wv vx p x ws m := ⟨h.lk.step hb, Kd.V_below h.rx hb⟩
theorem SS.ref {w0 w w1 : World} {g b : Nat} {v wv vx v1 : Value} {p : List S94} {x x1 : List S99} {ws : List Int} {m : Int} {P : Nat → Prop} (h : SS w0 w g v wv vx p x ws m) (hr : Kd.V k99 99 w1 b (fun k => P k ∨ w.heap.size ≤ k) v1 x1) (hP : ∀ k, P k → (k ≠ g ∧ some k ≠ v.ownBlock) ∨ k < w0.heap.size) (hb : Below w.heap.size w w1) : SS w0 w1 g v wv v1 p x1 ws m :=
 ⟨h.lk.step hb, Kd.V_mono (Kd.V_map hr (fun _ hf => hf)) (fun k hk => by
  have hg := h.lk.ge
  have hl := h.lk.lt
  rcases hk with hk | hk
  ·rcases hP k hk with hk | hk
   ·exact hk
   ·exact ⟨fun e => by omega, fun e => by have := Kd.R_base h.lk.row k e.symm; omega⟩
  ·exact ⟨fun e => by omega, fun e => by have := Kd.R_lt h.lk.row k e.symm; omega⟩)⟩
theorem SS.prog {w0 w w1 : World} {g : Nat} {v v1 wv vx : Value} {p p1 : List S94} {x : List S99} {ws : List Int} {m : Int} (h : SS w0 w g v wv vx p x ws m) (hp : LP w0 w w1 g v v1 wv p1 ws m) : SS w0 w1 g v1 wv vx p1 x ws m := ⟨hp.lk, V_beside h.rx hp.kept hp.at_⟩
structure OR (w0 : World) (A : Option Addr) (c : Nat) (B : Option Addr) (d : Nat) (x : S94) : Prop where
 lo : Kd.C k32 w0 A x.f0.length x.f0
 hi : Kd.C k32 w0 B x.f1.length x.f1
 lc : x.f0.length ≤ c
 hc : x.f1.length ≤ d
 ok : okI x
theorem OR.vlo {w0 w : World} {A : Option Addr} {c : Nat} {B : Option Addr} {d : Nat} {x : S94} {b : Nat} (h : OR w0 A c B d x) (hb : Below w0.heap.size w0 w) : Kd.V k32 32 w b (fun k => k < w0.heap.size) (.slice A x.f0.length c) x.f0 := Kd.V_mk h.lc (Kd.F_below (Kd.C_F heap_k32 h.lo) hb)
theorem OR.vhi {w0 w : World} {A : Option Addr} {c : Nat} {B : Option Addr} {d : Nat} {x : S94} {b : Nat} (h : OR w0 A c B d x) (hb : Below w0.heap.size w0 w) : Kd.V k32 32 w b (fun k => k < w0.heap.size) (.slice B x.f1.length d) x.f1 := Kd.V_mk h.hc (Kd.F_below (Kd.C_F heap_k32 h.hi) hb)
def impB (p q r : Prop) (b : Bool) : Prop := p → q → r → b = true
def outB (e : Ending) (v : Value) (P : Bool → Prop) : Prop := ∃ bb, e = .returned (.tuple #[v, .bool bb]) ∧ P bb
set_option maxHeartbeats 1000000 in
set_option maxRecDepth 100000 in
theorem step_put (w0 w : World) (g : Nat) (v wv vx : Value) (p : List S94) (z : List S99) (ws : List Int) (m : Int) (E : Option Addr) (e : Nat) (x : S94) (A : Option Addr) (c : Nat) (B : Option Addr) (d : Nat) (h : SS w0 w g v wv vx p z ws m) (hE : Kd.C (Kd.int .i64) w0 E ws.length ws) (he : ws.length ≤ e) (ho : OR w0 A c B d x) (hn : p.length ≤ 1000) (z1 : List S99) (er : Int) (hr : shunterref22_Put.f 3000 z ws m x.f0 x.f1 x.f2 x.f3 = some (z1, er)) (pe : Int) (hpe : putE (mayL ws x) m p x = pe) (bb : Bool) (hbb : (pe == er) = bb) :
 Calls Try.prog 60 #[.pointer (some ⟨g, 0, none⟩), vx, .slice E ws.length e, .int .i64 m, .agg #[.int .i64 0, .int .i64 x.f2, .int .i64 x.f3, .slice A x.f0.length c, .slice B x.f1.length d]] w fun e_ w' => ∃ v1 vx1, e_ = .returned (.tuple #[vx1, .bool bb]) ∧ SS w0 w' g v1 wv vx1 (putL (mayL ws x) m p x) z1 ws m := by
 obtain ⟨Az, cz, rfl⟩ := Kd.V_slice h.rx
 have HS := Aside0.mk (h.step (below_alloc (Below.refl _ _) (.cells #[.int .i64 0, .int .i64 x.f2, .int .i64 x.f3, .slice A x.f0.length c, .slice B x.f1.length d] 87 (0, 0))))
 have HX := Aside0.mk (blk_new w (.cells #[.int .i64 0, .int .i64 x.f2, .int .i64 x.f3, .slice A x.f0.length c, .slice B x.f1.length d] 87 (0, 0)))
 have HE := Aside0.mk hE
 have HEC := Aside0.mk he
 have HO := Aside0.mk ho
 have HZC := Aside0.mk (Kd.V_reads' h.rx).2.1
 have HRF := Aside0.mk hr
 have HPE := Aside0.mk hpe
 have HL4 := Aside0.mk (show x.f0.length ≤ c ∧ x.f1.length ≤ d ∧ x.f0.length ≤ 1000 ∧ x.f1.length ≤ 1000 from ⟨ho.lc, ho.hc, ho.ok.la, ho.ok.lb⟩)
 clear h hE he ho hr hpe
 have b0 := blk_cell HX.out 0
 have b1 := blk_cell HX.out 1
 have b2 := blk_cell HX.out 2
 have b3 := blk_cell HX.out 3
 have b4 := blk_cell HX.out 4
 simp only [List.getElem?_toArray, List.getElem?_cons_succ, List.getElem?_cons_zero] at b0 b1 b2 b3 b4
 go_enter Try.func60, Try.ntmps60
 go_wp2_with (first | (go_at_call 54; with_reducible refine (mine_calls 0 x A c B d _).mono ?_; rintro e_ w1 ⟨rfl, hb⟩; have HS2 := Aside0.mk (HS.out.step hb); have HX2 := Aside0.mk (blk_below HX.out hb); clear HS HX hb b0 b1 b2 b3 b4; have HS := Aside0.mk HS2.out; have HX := Aside0.mk HX2.out; clear HS2 HX2; have b0 := blk_cell HX.out 0; have b1 := blk_cell HX.out 1; have b2 := blk_cell HX.out 2; have b3 := blk_cell HX.out 3; have b4 := blk_cell HX.out 4; simp only [List.getElem?_toArray, List.getElem?_cons_succ, List.getElem?_cons_zero] at b0 b1 b2 b3 b4) | (go_at_call 58; with_reducible refine (theirs_calls x A c B d _).mono ?_; rintro e_ w1 ⟨rfl, hb⟩; have HS2 := Aside0.mk (HS.out.step hb); have HX2 := Aside0.mk (blk_below HX.out hb); clear HS HX hb b0 b1 b2 b3 b4; have HS := Aside0.mk HS2.out; have HX := Aside0.mk HX2.out; clear HS2 HX2; have b0 := blk_cell HX.out 0; have b1 := blk_cell HX.out 1; have b2 := blk_cell HX.out 2; have b3 := blk_cell HX.out 3; have b4 := blk_cell HX.out 4; simp only [List.getElem?_toArray, List.getElem?_cons_succ, List.getElem?_cons_zero] at b0 b1 b2 b3 b4) | (go_at_call 114; with_reducible refine (shunterref22_Put.calls 3000 (fun k => k ≠ g ∧ some k ≠ v.ownBlock) Az cz z E e ws m (fun k => k < w0.heap.size) A c x.f0 (fun k => k < w0.heap.size) B d x.f1 x.f2 x.f3 z1 er _ (Kd.V_map HS.out.rx (fun _ hf => hf)) (Kd.C_below HE.out HS.out.lk.below) HEC.out (HO.out.vlo HS.out.lk.below) (HO.out.vhi HS.out.lk.below) HRF.out).mono ?_; rintro e_ w1 ⟨v1, rfl, hr, hb⟩; have HS2 := Aside0.mk (HS.out.ref (P := fun k => (k ≠ g ∧ some k ≠ v.ownBlock) ∨ k < w0.heap.size ∨ k < w0.heap.size) hr (fun k hk => by rcases hk with hk | hk | hk; exact .inl hk; exact .inr hk; exact .inr hk) hb); have HX2 := Aside0.mk (blk_below HX.out hb); clear HS HX hb hr b0 b1 b2 b3 b4; have HS := Aside0.mk HS2.out; have HX := Aside0.mk HX2.out; clear HS2 HX2; have b0 := blk_cell HX.out 0; have b1 := blk_cell HX.out 1; have b2 := blk_cell HX.out 2; have b3 := blk_cell HX.out 3; have b4 := blk_cell HX.out 4; simp only [List.getElem?_toArray, List.getElem?_cons_succ, List.getElem?_cons_zero] at b0 b1 b2 b3 b4) | (go_at_call 55; with_reducible refine (Put_calls w0 _ g v wv p ws m x A c B d HS.out.lk (Kd.C_below HO.out.lo HS.out.lk.below) (Kd.C_below HO.out.hi HS.out.lk.below) HO.out.ok.a HO.out.ok.b HL4.out hn).mono ?_; rintro e_ w2 ⟨rfl, v2, hlp⟩; rw [HPE.out]; have HS3 := Aside0.mk (HS.out.prog hlp); clear hlp))
 go_ret2
 exact ⟨_, _, rfl, HS3.out⟩
set_option maxHeartbeats 1000000 in
set_option maxRecDepth 100000 in
theorem step_set (w0 w : World) (g : Nat) (v wv vx : Value) (p : List S94) (z : List S99) (ws : List Int) (m : Int) (E : Option Addr) (e : Nat) (x : S94) (A : Option Addr) (c : Nat) (B : Option Addr) (d : Nat) (h : SS w0 w g v wv vx p z ws m) (hE : Kd.C (Kd.int .i64) w0 E ws.length ws) (he : ws.length ≤ e) (ho : OR w0 A c B d x) (hn : p.length ≤ 1000) (z1 : List S99) (er : Int) (hr : shunterref22_Set.f 3000 z ws x.f0 x.f1 x.f2 x.f3 = some (z1, er)) (hd : p.Pairwise (fun a b => sameI a b = false)) (pe : Int) (hpe : setE (mayL ws x) p x = pe) (bb : Bool) (hbb : (pe == er) = bb) :
 Calls Try.prog 60 #[.pointer (some ⟨g, 0, none⟩), vx, .slice E ws.length e, .int .i64 m, .agg #[.int .i64 1, .int .i64 x.f2, .int .i64 x.f3, .slice A x.f0.length c, .slice B x.f1.length d]] w fun e_ w' => ∃ v1 vx1, e_ = .returned (.tuple #[vx1, .bool bb]) ∧ SS w0 w' g v1 wv vx1 (setL (mayL ws x) p x) z1 ws m := by
 obtain ⟨Az, cz, rfl⟩ := Kd.V_slice h.rx
 have HS := Aside0.mk (h.step (below_alloc (Below.refl _ _) (.cells #[.int .i64 1, .int .i64 x.f2, .int .i64 x.f3, .slice A x.f0.length c, .slice B x.f1.length d] 87 (0, 0))))
 have HX := Aside0.mk (blk_new w (.cells #[.int .i64 1, .int .i64 x.f2, .int .i64 x.f3, .slice A x.f0.length c, .slice B x.f1.length d] 87 (0, 0)))
 have HE := Aside0.mk hE
 have HEC := Aside0.mk he
 have HO := Aside0.mk ho
 have HZC := Aside0.mk (Kd.V_reads' h.rx).2.1
 have HRF := Aside0.mk hr
 have HPE := Aside0.mk hpe
 have HPD := Aside0.mk hd
 clear h hE he ho hr hpe hd
 have b0 := blk_cell HX.out 0
 have b1 := blk_cell HX.out 1
 have b2 := blk_cell HX.out 2
 have b3 := blk_cell HX.out 3
 have b4 := blk_cell HX.out 4
 simp only [List.getElem?_toArray, List.getElem?_cons_succ, List.getElem?_cons_zero] at b0 b1 b2 b3 b4
 go_enter Try.func60, Try.ntmps60
 go_wp2_with (first | (go_at_call 54; with_reducible refine (mine_calls 1 x A c B d _).mono ?_; rintro e_ w1 ⟨rfl, hb⟩; have HS2 := Aside0.mk (HS.out.step hb); have HX2 := Aside0.mk (blk_below HX.out hb); clear HS HX hb b0 b1 b2 b3 b4; have HS := Aside0.mk HS2.out; have HX := Aside0.mk HX2.out; clear HS2 HX2; have b0 := blk_cell HX.out 0; have b1 := blk_cell HX.out 1; have b2 := blk_cell HX.out 2; have b3 := blk_cell HX.out 3; have b4 := blk_cell HX.out 4; simp only [List.getElem?_toArray, List.getElem?_cons_succ, List.getElem?_cons_zero] at b0 b1 b2 b3 b4) | (go_at_call 58; with_reducible refine (theirs_calls x A c B d _).mono ?_; rintro e_ w1 ⟨rfl, hb⟩; have HS2 := Aside0.mk (HS.out.step hb); have HX2 := Aside0.mk (blk_below HX.out hb); clear HS HX hb b0 b1 b2 b3 b4; have HS := Aside0.mk HS2.out; have HX := Aside0.mk HX2.out; clear HS2 HX2; have b0 := blk_cell HX.out 0; have b1 := blk_cell HX.out 1; have b2 := blk_cell HX.out 2; have b3 := blk_cell HX.out 3; have b4 := blk_cell HX.out 4; simp only [List.getElem?_toArray, List.getElem?_cons_succ, List.getElem?_cons_zero] at b0 b1 b2 b3 b4) | (go_at_call 115; with_reducible refine (shunterref22_Set.calls 3000 (fun k => k ≠ g ∧ some k ≠ v.ownBlock) Az cz z E e ws A c x.f0 B d x.f1 x.f2 x.f3 z1 er _ (Kd.V_map HS.out.rx (fun _ hf => hf)) (Kd.C_below HE.out HS.out.lk.below) HEC.out (Kd.C_below HO.out.lo HS.out.lk.below) HO.out.lc (Kd.C_below HO.out.hi HS.out.lk.below) HO.out.hc HRF.out).mono ?_; rintro e_ w1 ⟨v1, rfl, hr, hb⟩; have HS2 := Aside0.mk (HS.out.ref (P := fun k => k ≠ g ∧ some k ≠ v.ownBlock) hr (fun k hk => .inl hk) hb); have HX2 := Aside0.mk (blk_below HX.out hb); clear HS HX hb hr b0 b1 b2 b3 b4; have HS := Aside0.mk HS2.out; have HX := Aside0.mk HX2.out; clear HS2 HX2; have b0 := blk_cell HX.out 0; have b1 := blk_cell HX.out 1; have b2 := blk_cell HX.out 2; have b3 := blk_cell HX.out 3; have b4 := blk_cell HX.out 4; simp only [List.getElem?_toArray, List.getElem?_cons_succ, List.getElem?_cons_zero] at b0 b1 b2 b3 b4) | (go_at_call 64; with_reducible refine (Set_calls w0 _ g v wv p ws m x A c B d HS.out.lk (Kd.C_below HO.out.lo HS.out.lk.below) (Kd.C_below HO.out.hi HS.out.lk.below) HO.out.ok.a HO.out.ok.b hn HPD.out).mono ?_; rintro e_ w2 ⟨rfl, v2, hlp⟩; rw [HPE.out]; have HS3 := Aside0.mk (HS.out.prog hlp); clear hlp))
 go_ret2
 exact ⟨_, _, rfl, HS3.out⟩
set_option maxHeartbeats 1000000 in
set_option maxRecDepth 100000 in
theorem step_drop (w0 w : World) (g : Nat) (v wv vx : Value) (p : List S94) (z : List S99) (ws : List Int) (m : Int) (E : Option Addr) (e : Nat) (x : S94) (A : Option Addr) (c : Nat) (B : Option Addr) (d : Nat) (h : SS w0 w g v wv vx p z ws m) (hE : Kd.C (Kd.int .i64) w0 E ws.length ws) (he : ws.length ≤ e) (ho : OR w0 A c B d x) (hn : p.length ≤ 1000) (z1 : List S99) (er : Int) (hr : shunterref22_Drop.f 3000 z ws x.f0 x.f1 x.f2 x.f3 = some (z1, er)) (hd : p.Pairwise (fun a b => sameI a b = false)) (pe : Int) (hpe : setE (mayL ws x) p x = pe) (bb : Bool) (hbb : (pe == er) = bb) :
 Calls Try.prog 60 #[.pointer (some ⟨g, 0, none⟩), vx, .slice E ws.length e, .int .i64 m, .agg #[.int .i64 2, .int .i64 x.f2, .int .i64 x.f3, .slice A x.f0.length c, .slice B x.f1.length d]] w fun e_ w' => ∃ v1 vx1, e_ = .returned (.tuple #[vx1, .bool bb]) ∧ SS w0 w' g v1 wv vx1 (dropL (mayL ws x) p x) z1 ws m := by
 obtain ⟨Az, cz, rfl⟩ := Kd.V_slice h.rx
 have HS := Aside0.mk (h.step (below_alloc (Below.refl _ _) (.cells #[.int .i64 2, .int .i64 x.f2, .int .i64 x.f3, .slice A x.f0.length c, .slice B x.f1.length d] 87 (0, 0))))
 have HX := Aside0.mk (blk_new w (.cells #[.int .i64 2, .int .i64 x.f2, .int .i64 x.f3, .slice A x.f0.length c, .slice B x.f1.length d] 87 (0, 0)))
 have HE := Aside0.mk hE
 have HEC := Aside0.mk he
 have HO := Aside0.mk ho
 have HZC := Aside0.mk (Kd.V_reads' h.rx).2.1
 have HRF := Aside0.mk hr
 have HPE := Aside0.mk hpe
 have HPD := Aside0.mk hd
 clear h hE he ho hr hpe hd
 have b0 := blk_cell HX.out 0
 have b1 := blk_cell HX.out 1
 have b2 := blk_cell HX.out 2
 have b3 := blk_cell HX.out 3
 have b4 := blk_cell HX.out 4
 simp only [List.getElem?_toArray, List.getElem?_cons_succ, List.getElem?_cons_zero] at b0 b1 b2 b3 b4
 go_enter Try.func60, Try.ntmps60
 go_wp2_with (first | (go_at_call 54; with_reducible refine (mine_calls 2 x A c B d _).mono ?_; rintro e_ w1 ⟨rfl, hb⟩; have HS2 := Aside0.mk (HS.out.step hb); have HX2 := Aside0.mk (blk_below HX.out hb); clear HS HX hb b0 b1 b2 b3 b4; have HS := Aside0.mk HS2.out; have HX := Aside0.mk HX2.out; clear HS2 HX2; have b0 := blk_cell HX.out 0; have b1 := blk_cell HX.out 1; have b2 := blk_cell HX.out 2; have b3 := blk_cell HX.out 3; have b4 := blk_cell HX.out 4; simp only [List.getElem?_toArray, List.getElem?_cons_succ, List.getElem?_cons_zero] at b0 b1 b2 b3 b4) | (go_at_call 58; with_reducible refine (theirs_calls x A c B d _).mono ?_; rintro e_ w1 ⟨rfl, hb⟩; have HS2 := Aside0.mk (HS.out.step hb); have HX2 := Aside0.mk (blk_below HX.out hb); clear HS HX hb b0 b1 b2 b3 b4; have HS := Aside0.mk HS2.out; have HX := Aside0.mk HX2.out; clear HS2 HX2; have b0 := blk_cell HX.out 0; have b1 := blk_cell HX.out 1; have b2 := blk_cell HX.out 2; have b3 := blk_cell HX.out 3; have b4 := blk_cell HX.out 4; simp only [List.getElem?_toArray, List.getElem?_cons_succ, List.getElem?_cons_zero] at b0 b1 b2 b3 b4) | (go_at_call 116; with_reducible refine (shunterref22_Drop.calls 3000 (fun k => k ≠ g ∧ some k ≠ v.ownBlock) Az cz z E e ws A c x.f0 B d x.f1 x.f2 x.f3 z1 er _ (Kd.V_map HS.out.rx (fun _ hf => hf)) (Kd.C_below HE.out HS.out.lk.below) HEC.out (Kd.C_below HO.out.lo HS.out.lk.below) HO.out.lc (Kd.C_below HO.out.hi HS.out.lk.below) HO.out.hc HRF.out).mono ?_; rintro e_ w1 ⟨v1, rfl, hr, hb⟩; have HS2 := Aside0.mk (HS.out.ref (P := fun k => k ≠ g ∧ some k ≠ v.ownBlock) hr (fun k hk => .inl hk) hb); have HX2 := Aside0.mk (blk_below HX.out hb); clear HS HX hb hr b0 b1 b2 b3 b4; have HS := Aside0.mk HS2.out; have HX := Aside0.mk HX2.out; clear HS2 HX2; have b0 := blk_cell HX.out 0; have b1 := blk_cell HX.out 1; have b2 := blk_cell HX.out 2; have b3 := blk_cell HX.out 3; have b4 := blk_cell HX.out 4; simp only [List.getElem?_toArray, List.getElem?_cons_succ, List.getElem?_cons_zero] at b0 b1 b2 b3 b4) | (go_at_call 65; with_reducible refine (Drop_calls w0 _ g v wv p ws m x A c B d HS.out.lk (Kd.C_below HO.out.lo HS.out.lk.below) (Kd.C_below HO.out.hi HS.out.lk.below) HO.out.ok.a HO.out.ok.b hn HPD.out).mono ?_; rintro e_ w2 ⟨rfl, v2, hlp⟩; rw [HPE.out]; have HS3 := Aside0.mk (HS.out.prog hlp); clear hlp))
 go_ret2
 exact ⟨_, _, rfl, HS3.out⟩
set_option maxHeartbeats 1000000 in
set_option maxRecDepth 100000 in
theorem step_none (w0 w : World) (g : Nat) (v wv vx : Value) (p : List S94) (z : List S99) (ws : List Int) (m : Int) (E : Option Addr) (e : Nat) (kd : Int) (x : S94) (A : Option Addr) (c : Nat) (B : Option Addr) (d : Nat) (h : SS w0 w g v wv vx p z ws m) (hE : Kd.C (Kd.int .i64) w0 E ws.length ws) (he : ws.length ≤ e) (ho : OR w0 A c B d x) (hn : p.length ≤ 1000) (k0 : (kd == 0) = false) (k1 : (kd == 1) = false) (k2 : (kd == 2) = false) (hx : ∀ y ∈ p, okR ws.length y) (hr : shunterref22_Get.f 3000 z x.f0 = some (-1)) (ga gb : Int) (gc : Bool) (hga : getA (qK x.f0) p = (ga, gb, gc)) :
 Calls Try.prog 60 #[.pointer (some ⟨g, 0, none⟩), vx, .slice E ws.length e, .int .i64 m, .agg #[.int .i64 kd, .int .i64 x.f2, .int .i64 x.f3, .slice A x.f0.length c, .slice B x.f1.length d]] w fun e_ w' => outB e_ vx (fun bb => impB (ga = 0) (gb = 0) (gc = false) bb) ∧ SS w0 w' g v wv vx p z ws m := by
 obtain ⟨Az, cz, rfl⟩ := Kd.V_slice h.rx
 have HS := Aside0.mk (h.step (below_alloc (Below.refl _ _) (.cells #[.int .i64 kd, .int .i64 x.f2, .int .i64 x.f3, .slice A x.f0.length c, .slice B x.f1.length d] 87 (0, 0))))
 have HX := Aside0.mk (blk_new w (.cells #[.int .i64 kd, .int .i64 x.f2, .int .i64 x.f3, .slice A x.f0.length c, .slice B x.f1.length d] 87 (0, 0)))
 have HE := Aside0.mk hE
 have HEC := Aside0.mk he
 have HO := Aside0.mk ho
 have HZC := Aside0.mk (Kd.V_reads' h.rx).2.1
 have HRF := Aside0.mk hr
 have HGA := Aside0.mk hga
 have HPX := Aside0.mk hx
 clear h hE he ho hr hga hx
 have b0 := blk_cell HX.out 0
 have b1 := blk_cell HX.out 1
 have b2 := blk_cell HX.out 2
 have b3 := blk_cell HX.out 3
 have b4 := blk_cell HX.out 4
 simp only [List.getElem?_toArray, List.getElem?_cons_succ, List.getElem?_cons_zero] at b0 b1 b2 b3 b4
 go_enter Try.func60, Try.ntmps60
 cases h1 : (ga == 0) <;> cases h2 : (gb == 0) <;> cases gc <;>
  (go_wp2_with (first | (go_at_call 56; with_reducible refine (Get_calls w0 _ g v wv p ws m A c x.f0 HS.out.lk (Kd.C_below HO.out.lo HS.out.lk.below) HO.out.lc HO.out.ok.a HPX.out hn HO.out.ok.la).mono ?_; rintro e_ w1 ⟨rfl, hb⟩; rw [HGA.out]; have HS2 := Aside0.mk (HS.out.step hb); have HX2 := Aside0.mk (blk_below HX.out hb); clear HS HX hb b0 b1 b2 b3 b4; have HS := Aside0.mk HS2.out; have HX := Aside0.mk HX2.out; clear HS2 HX2; have b0 := blk_cell HX.out 0; have b1 := blk_cell HX.out 1; have b2 := blk_cell HX.out 2; have b3 := blk_cell HX.out 3; have b4 := blk_cell HX.out 4; simp only [List.getElem?_toArray, List.getElem?_cons_succ, List.getElem?_cons_zero] at b0 b1 b2 b3 b4) | (go_at_call 117; with_reducible refine (shunterref22_Get.calls 3000 Az cz z A c x.f0 (-1) _ (Kd.V_reads' HS.out.rx).2.2 HZC.out (Kd.C_below HO.out.lo HS.out.lk.below) HO.out.lc HRF.out).mono ?_; rintro e_ w2 ⟨rfl, hb⟩; have HS2 := Aside0.mk (HS.out.step hb); have HX2 := Aside0.mk (blk_below HX.out hb); clear HS HX hb b0 b1 b2 b3 b4; have HS := Aside0.mk HS2.out; have HX := Aside0.mk HX2.out; clear HS2 HX2; have b0 := blk_cell HX.out 0; have b1 := blk_cell HX.out 1; have b2 := blk_cell HX.out 2; have b3 := blk_cell HX.out 3; have b4 := blk_cell HX.out 4; simp only [List.getElem?_toArray, List.getElem?_cons_succ, List.getElem?_cons_zero] at b0 b1 b2 b3 b4)); go_ret2; exact ⟨⟨_, rfl, (by intro a b c; first | rfl | (rw [a] at h1; simp at h1; done) | (rw [b] at h2; simp at h2; done) | (cases c; done))⟩, HS.out⟩)
set_option maxHeartbeats 1000000 in
set_option maxRecDepth 100000 in
theorem step_found (w0 w : World) (g : Nat) (v wv vx : Value) (p : List S94) (z : List S99) (ws : List Int) (m : Int) (E : Option Addr) (e : Nat) (kd : Int) (x : S94) (A : Option Addr) (c : Nat) (B : Option Addr) (d : Nat) (h : SS w0 w g v wv vx p z ws m) (hE : Kd.C (Kd.int .i64) w0 E ws.length ws) (he : ws.length ≤ e) (ho : OR w0 A c B d x) (hn : p.length ≤ 1000) (k0 : (kd == 0) = false) (k1 : (kd == 1) = false) (k2 : (kd == 2) = false) (hx : ∀ y ∈ p, okR ws.length y) (j : Nat) (hj : j < z.length) (hr : shunterref22_Get.f 3000 z x.f0 = some (j : Int)) (ga gb : Int) (gc : Bool) (hga : getA (qK x.f0) p = (ga, gb, gc)) :
 Calls Try.prog 60 #[.pointer (some ⟨g, 0, none⟩), vx, .slice E ws.length e, .int .i64 m, .agg #[.int .i64 kd, .int .i64 x.f2, .int .i64 x.f3, .slice A x.f0.length c, .slice B x.f1.length d]] w fun e_ w' => outB e_ vx (fun bb => impB (ga = z[j].f3) (gb = z[j].f2) (gc = true) bb) ∧ SS w0 w' g v wv vx p z ws m := by
 obtain ⟨Az, cz, rfl⟩ := Kd.V_slice h.rx
 have HS := Aside0.mk (h.step (below_alloc (Below.refl _ _) (.cells #[.int .i64 kd, .int .i64 x.f2, .int .i64 x.f3, .slice A x.f0.length c, .slice B x.f1.length d] 87 (0, 0))))
 have HX := Aside0.mk (blk_new w (.cells #[.int .i64 kd, .int .i64 x.f2, .int .i64 x.f3, .slice A x.f0.length c, .slice B x.f1.length d] 87 (0, 0)))
 have HE := Aside0.mk hE
 have HEC := Aside0.mk he
 have HO := Aside0.mk ho
 have HZC := Aside0.mk (Kd.V_reads' h.rx).2.1
 have HRF := Aside0.mk hr
 have HGA := Aside0.mk hga
 have HPX := Aside0.mk hx
 have hj0 : 0 ≤ (j : Int) := by omega
 have hjl : (j : Int) < (z.length : Int) := by omega
 have hjn : decide ((j : Int) < 0) = false := by simp
 have HZJ := Aside0.mk (rd99 z j hj)
 generalize z[j] = q at HZJ ⊢
 clear h hE he ho hr hga hx
 have b0 := blk_cell HX.out 0
 have b1 := blk_cell HX.out 1
 have b2 := blk_cell HX.out 2
 have b3 := blk_cell HX.out 3
 have b4 := blk_cell HX.out 4
 simp only [List.getElem?_toArray, List.getElem?_cons_succ, List.getElem?_cons_zero] at b0 b1 b2 b3 b4
 go_enter Try.func60, Try.ntmps60
 cases h1 : (ga == q.f3) <;> cases h2 : (gb == q.f2) <;> cases gc <;>
  (go_wp2_with (first | (go_at_call 56; with_reducible refine (Get_calls w0 _ g v wv p ws m A c x.f0 HS.out.lk (Kd.C_below HO.out.lo HS.out.lk.below) HO.out.lc HO.out.ok.a HPX.out hn HO.out.ok.la).mono ?_; rintro e_ w1 ⟨rfl, hb⟩; rw [HGA.out]; have HS2 := Aside0.mk (HS.out.step hb); have HX2 := Aside0.mk (blk_below HX.out hb); clear HS HX hb b0 b1 b2 b3 b4; have HS := Aside0.mk HS2.out; have HX := Aside0.mk HX2.out; clear HS2 HX2; have b0 := blk_cell HX.out 0; have b1 := blk_cell HX.out 1; have b2 := blk_cell HX.out 2; have b3 := blk_cell HX.out 3; have b4 := blk_cell HX.out 4; simp only [List.getElem?_toArray, List.getElem?_cons_succ, List.getElem?_cons_zero] at b0 b1 b2 b3 b4) | (go_at_call 117; with_reducible refine (shunterref22_Get.calls 3000 Az cz z A c x.f0 (j : Int) _ (Kd.V_reads' HS.out.rx).2.2 HZC.out (Kd.C_below HO.out.lo HS.out.lk.below) HO.out.lc HRF.out).mono ?_; rintro e_ w2 ⟨rfl, hb⟩; have HS2 := Aside0.mk (HS.out.step hb); have HX2 := Aside0.mk (blk_below HX.out hb); clear HS HX hb b0 b1 b2 b3 b4; have HS := Aside0.mk HS2.out; have HX := Aside0.mk HX2.out; clear HS2 HX2; have b0 := blk_cell HX.out 0; have b1 := blk_cell HX.out 1; have b2 := blk_cell HX.out 2; have b3 := blk_cell HX.out 3; have b4 := blk_cell HX.out 4; simp only [List.getElem?_toArray, List.getElem?_cons_succ, List.getElem?_cons_zero] at b0 b1 b2 b3 b4; obtain ⟨ad, a0_, c0_, a1_, c1_, hA_, s0, s1, s2, s3, _⟩ := at_T99 (Kd.V_reads' HS.out.rx).2.2 (j : Int) hj0 hjl; subst hA_; rw [Int.toNat_natCast] at s2 s3; rw [HZJ.out] at s2 s3; clear s0 s1)); go_ret2; exact ⟨⟨_, rfl, (by intro a b c; first | rfl | (rw [a] at h1; simp at h1; done) | (rw [b] at h2; simp at h2; done) | (cases c; done))⟩, HS.out⟩)
end Go.Proofs.Ytfdbcnbakchcgaa.XQ
