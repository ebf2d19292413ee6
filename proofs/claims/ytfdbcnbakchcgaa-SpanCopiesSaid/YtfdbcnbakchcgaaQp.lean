import Derived.Test.YtfdbcnbakchcgaaSv
import Derived.Test.YtfdbcnbakchcgaaQj
namespace Go.Proofs.Ytfdbcnbakchcgaa.XQ
open Go.RowKit Go.Proofs.YtfdbcnbakchcgaaW.PrintWords Go.Proofs.YtfdbcnbakchcgaaW.PrintLast Go.Proofs.YtfdbcnbakchcgaaW.PrintMore
attribute [local go_sem] max2_int min2_int max_two min_two max_three min_three max_four min_four
set_option linter.unusedVariables false
set_option linter.unusedSimpArgs false
theorem New_wide (A : Option Addr) (c : Nat) (ws : List Int) (m : Int) (w : World) (hA : Kd.C (Kd.int .i64) w A ws.length ws) (hc : ws.length ≤ c) (h1 : 1 ≤ ws.length) (h2 : ws.length ≤ 4) (h3 : ws.any badW = false) (h4 : 1 ≤ m) (h5 : m ≤ 256) :
 Calls Try.prog 52 #[.slice A ws.length c, .int .i64 m] w fun e w' => ∃ g wv, e = .returned (.pointer (some ⟨g, 0, none⟩)) ∧ LK w w' g (.slice none 0 0) wv [] ws m ∧ Kd.V (Kd.int .i64) 3 w' 0 (fun k => w.heap.size ≤ k ∧ k ≠ g) wv ws := by
 have HA := Aside0.mk hA
 have HCN := Aside0.mk (contains_calls A c ws w hA (by omega) false h3)
 have HCL := Aside0.mk (fun w1 (hb : Below w.heap.size w w1) => iclone_calls w1 A c ws (Kd.C_below hA hb) hc (by omega))
 have g1 : decide ((ws.length : Int) < 1) = false := decide_eq_false (by omega)
 have g2 : decide ((4 : Int) < (ws.length : Int)) = false := decide_eq_false (by omega)
 have g4 : decide (m < 1) = false := decide_eq_false (by omega)
 have g5 : decide (256 < m) = false := decide_eq_false (by omega)
 clear hA hc h1 h2 h3 h4 h5
 go_enter Try.func52, Try.ntmps52
 go_wp2_with (first
  | (go_at_call 104; with_reducible refine (HCN.out).mono ?_; rintro e w1 ⟨rfl, hb⟩; have HB1 := Aside0.mk hb; clear hb)
  | (go_at_call 105; with_reducible refine (HCL.out _ HB1.out).mono ?_; rintro e w2 ⟨v2, rfl, hr, hb⟩; obtain ⟨A2, c2, rfl⟩ := Kd.R_slice hr; have HR2 := Aside0.mk hr; have HB2 := Aside0.mk (below_step HB1.out hb); clear hr hb))
 go_ret
 have hr := HR2.out
 have hf := Kd.F_bound (Kd.R_F (Kd.R_bound hr))
 have hsz := HB1.out.size
 refine ⟨w2.heap.size, _, rfl, ⟨blk_new w2 _, Kd.R_nil _ _ _ _ _, ?_, HB2.out.size, below_alloc HB2.out _⟩, ?_⟩
 ·refine ⟨A2, c2, rfl, (Kd.R_reads' hr).2.1, ?_⟩
  refine Kd.F_alloc (Kd.F_mono hf (fun k hk => ⟨fun e => ?_, fun e => by simp [Value.ownBlock] at e⟩)) _
  have := hk.2
  omega
 ·refine ⟨A2, c2, rfl, (Kd.R_reads' hr).2.1, ?_⟩
  refine Kd.F_alloc (Kd.F_mono hf (fun k hk => ⟨Nat.le_trans hsz hk.1.2.1, fun e => ?_⟩)) _
  have := hk.2
  omega
theorem LK.old {w00 w0 w W' : World} {g gB : Nat} {v wv : Value} {xs : List S94} {ws : List Int} {m : Int} (h : LK w0 w g v wv xs ws m) (hb : Below w00.heap.size w00 w0) (hq : gB < w0.heap.size) (hv : Kd.V (Kd.int .i64) 3 w 0 (fun k => (k ≠ g ∧ some k ≠ v.ownBlock) ∧ k ≠ gB) wv ws) (hW : ∀ k, k ≠ gB → W'.heap[k]? = w.heap[k]?) (hBW : Below w00.heap.size w00 W') : LK w00 W' g v wv xs ws m :=
 ⟨(hW g (by have := h.ge; omega)).trans h.blk,
  Kd.R_lower (Kd.R_mono (Kd.R_move (Kd.R_bound h.row) (fun k hk => hW k (by have := hk.2.1; omega))) (fun _ hk => hk.1)) hb.size,
  Kd.V_mono (Kd.V_step hv (fun k hk _ => hW k hk.2)) (fun _ hk => hk.1),
  Nat.le_trans hb.size h.ge, hBW⟩
theorem one_item {w : World} {base : Nat} {ok : Nat → Prop} {v : Value} {x : S94} {y : S32} (h : Kd.R k94 94 w base ok v [x]) (hx : x.f0 = [y]) : ∃ gL cL gl cl, v = .slice (some ⟨gL, 0, none⟩) 1 cL ∧ w.cell? ⟨gL, 0, none⟩ = some (.slice (some ⟨gl, 0, none⟩) 1 cl) ∧ base ≤ gl ∧ ∃ cur, w.heap[gl]? = some (.cells cur 32 (0, 0)) ∧ cur[0]? = some (.int .i64 y.f0) ∧ cur[1]? = some (.int .u64 y.f1) ∧ cur[2]? = some (.int .u64 y.f2) := by
 obtain ⟨_, inner, ⟨hil, hown⟩, hr⟩ := h
 rcases hown with ⟨_, hn0⟩ | ⟨gL, cL, curL, rfl, _, hhL, _, _, _, ht⟩
 ·exact absurd hn0 (by simp)
 have hM := hr.2 0 x rfl
 obtain ⟨v0, v1, hcs, hr0, _⟩ := k94_openM hM
 have e0 : curL[0]? = some v0 := by
  have h1 : ((inner.drop (0 * k94.sz)).take k94.sz)[0]? = some v0 := by rw [hcs]; rfl
  have h2 : inner[0]? = some v0 := by simpa [show k94.sz = 4 from rfl] using h1
  rw [← ht, List.getElem?_take] at h2
  have h3 : curL.toList[0]? = some v0 := by
   split at h2
   ·exact h2
   ·cases h2
  simpa using h3
 obtain ⟨_, inn, ⟨hil2, hown2⟩, hr2⟩ := hr0
 rw [hx] at hown2 hr2 hil2
 rcases hown2 with ⟨_, hn0⟩ | ⟨gl, cl, cur, rfl, hbl, hhl, _, _, _, ht2⟩
 ·exact absurd hn0 (by simp)
 have hK := k32_open (k32.K_of_M (hr2.2 0 y rfl))
 have get : ∀ j u, j < 3 → ([.int .i64 y.f0, .int .u64 y.f1, .int .u64 y.f2] : List Value)[j]? = some u → cur[j]? = some u := fun j u hj hu => by
  rw [← hK] at hu
  have h2 : inn[j]? = some u := by
   have h5 := List.getElem?_take (l := inn.drop (0 * k32.sz)) (i := k32.sz) (j := j)
   rw [h5] at hu
   split at hu
   ·simpa using hu
   ·cases hu
  rw [← ht2, List.getElem?_take] at h2
  split at h2
  ·simpa using h2
  ·cases h2
 refine ⟨gL, cL, gl, cl, rfl, ?_, hbl, cur, hhl, get 0 _ (by omega) rfl, get 1 _ (by omega) rfl, get 2 _ (by omega) rfl⟩
 rw [blk_cell hhL 0, e0]; rfl
def xC : S94 := ⟨[⟨1, 0, 0⟩], [⟨1, 0, 0⟩], 0, 0⟩
theorem xC_ok : okR 1 xC := ⟨⟨fun z hz => by obtain rfl := List.mem_singleton.1 hz; unfold okV; decide, fun z hz => by obtain rfl := List.mem_singleton.1 hz; unfold okV; decide, by decide, by decide⟩, rfl, rfl⟩
theorem xC_put : putE (mayL [1] xC) 3 [] xC = 0 := by decide +kernel
theorem cop_new (w : World) (A : Addr) (h : Kd.C (Kd.int .i64) w (some A) 1 [1]) : Calls Try.prog 52 #[.slice (some A) 1 1, .int .i64 3] w fun e w' => ∃ g wv, e = .returned (.pointer (some ⟨g, 0, none⟩)) ∧ LK w w' g (.slice none 0 0) wv [] [1] 3 ∧ Kd.V (Kd.int .i64) 3 w' 0 (fun k => w.heap.size ≤ k ∧ k ≠ g) wv [1] :=
 New_wide (some A) 1 [1] 3 w h (by decide) (by decide) (by decide) (by decide) (by decide) (by decide)
theorem cop_put (w0 w : World) (g : Nat) (wv : Value) (A B : Addr) (hA : Kd.C k32 w (some A) 1 [⟨1, 0, 0⟩]) (hB : Kd.C k32 w (some B) 1 [⟨1, 0, 0⟩]) (h : LK w0 w g (.slice none 0 0) wv [] [1] 3) (hv : Kd.V (Kd.int .i64) 3 w 0 (fun k => w0.heap.size ≤ k ∧ k ≠ g) wv [1]) : Calls Try.prog 55 #[.pointer (some ⟨g, 0, none⟩), .agg #[.slice (some A) 1 1, .slice (some B) 1 1, .int .i64 0, .int .i64 0]] w fun e w' => e = .returned (.int .i64 0) ∧ ∃ v1, LK w0 w' g v1 wv [xC] [1] 3 ∧ (∀ gB, gB < w0.heap.size → Kd.V (Kd.int .i64) 3 w' 0 (fun k => (k ≠ g ∧ some k ≠ v1.ownBlock) ∧ k ≠ gB) wv [1]) := by
 refine (show Calls Try.prog 55 #[.pointer (some ⟨g, 0, none⟩), .agg #[.slice (some A) 1 1, .slice (some B) 1 1, .int .i64 0, .int .i64 0]] w _ from Put_calls w0 w g (.slice none 0 0) wv [] [1] 3 xC (some A) 1 (some B) 1 h hA hB xC_ok.i.a xC_ok.i.b ⟨by decide, by decide, by decide, by decide⟩ (by decide)).mono ?_
 rintro e_ w' ⟨rfl, v1, hlp⟩
 refine ⟨by rw [xC_put], v1, ?_, fun gB hgB => ?_⟩
 ·have hl := hlp.lk
  unfold putL at hl
  rw [xC_put, if_pos rfl] at hl
  exact hl
 ·refine Kd.V_mono (Kd.V_step (Kd.V_bound hv) (fun k hk hlt => hlp.kept.2 k hlt (by rintro (q | q); exact hk.1.2 q; simp [Value.ownBlock] at q))) (fun k hk => ⟨⟨hk.1.2, ?_⟩, fun e => by have := hk.1.1; omega⟩)
  rcases hlp.at_ with q | ⟨b, q, hb⟩
  ·rw [q]; simp [Value.ownBlock]
  ·rw [q]; intro e2; injection e2 with e2; have := hk.2; omega
theorem cop_get (w0 w : World) (g : Nat) (v wv : Value) (A : Addr) (n : Int) (a b : Int) (t : Bool) (hn : 0 ≤ n ∧ n < 2 ^ 64) (hA : Kd.C k32 w (some A) 1 [⟨1, 0, n⟩]) (h : LK w0 w g v wv [xC] [1] 3) (hg : getA (qK [⟨1, 0, n⟩]) [xC] = (a, b, t)) : Calls Try.prog 56 #[.pointer (some ⟨g, 0, none⟩), .slice (some A) 1 1] w fun e w' => e = .returned (.tuple #[.int .i64 a, .int .i64 b, .bool t]) ∧ Below w.heap.size w w' := by
 have := Get_calls w0 w g v wv [xC] [1] 3 (some A) 1 [⟨1, 0, n⟩] h hA (Nat.le_refl 1) (fun z hz => by obtain rfl := List.mem_singleton.1 hz; exact ⟨(by show (0 : Int) ≤ 0; decide), (by show (0 : Int) < 2 ^ 64; decide), hn.1, hn.2⟩) (fun y hy => by obtain rfl := List.mem_singleton.1 hy; exact xC_ok) (by decide) (show 1 ≤ 1000 by decide)
 rw [hg] at this
 exact this
theorem cop_list (w0 w : World) (g : Nat) (v wv : Value) (h : LK w0 w g v wv [xC] [1] 3) : Calls Try.prog 61 #[.pointer (some ⟨g, 0, none⟩)] w fun e w' => ∃ gL cL gl cl cur, e = .returned (.slice (some ⟨gL, 0, none⟩) 1 cL) ∧ w'.cell? ⟨gL, 0, none⟩ = some (.slice (some ⟨gl, 0, none⟩) 1 cl) ∧ w.heap.size ≤ gl ∧ w'.heap[gl]? = some (.cells cur 32 (0, 0)) ∧ (cur[0]? = some (.int .i64 1) ∧ cur[1]? = some (.int .u64 0) ∧ cur[2]? = some (.int .u64 0)) ∧ Below w.heap.size w w' := by
 refine (List_calls w0 w g v wv [xC] [1] 3 h (fun y hy => by obtain rfl := List.mem_singleton.1 hy; exact ⟨by decide, by decide⟩) (by decide)).mono ?_
 rintro e_ w' ⟨v', rfl, hr, hb⟩
 obtain ⟨gL, cL, gl, cl, rfl, hc, hge, cur, hh, h0, h1, h2⟩ := one_item hr (show xC.f0 = [⟨1, 0, 0⟩] from rfl)
 exact ⟨gL, cL, gl, cl, cur, rfl, hc, hge, hh, ⟨h0, h1, h2⟩, hb⟩
structure CP (w W : World) (n : Int) : Prop where
 a : W.heap[w.heap.size]? = some (.cells #[.int .i64 1, .int .u64 0, .int .u64 0] 32 (0, 0))
 b : W.heap[w.heap.size + 1]? = some (.cells #[.int .i64 1, .int .u64 0, .int .u64 n] 32 (0, 0))
 x : W.heap[w.heap.size + 1 + 1]? = some (.cells #[.slice (some ⟨w.heap.size, 0, none⟩) 1 1, .slice (some ⟨w.heap.size + 1, 0, none⟩) 1 1, .int .i64 0, .int .i64 0] 94 (0, 0))
 below : Below w.heap.size w W
theorem CP.step {w W W1 : World} {n : Int} (h : CP w W n) (hb : Below W.heap.size W W1) : CP w W1 n := ⟨blk_below h.a hb, blk_below h.b hb, blk_below h.x hb, below_step h.below hb⟩
theorem CP.cells {w W : World} {n : Int} (h : CP w W n) : W.cell? ⟨w.heap.size + 1 + 1, 0, none⟩ = some (.slice (some ⟨w.heap.size, 0, none⟩) 1 1) ∧ W.cell? ⟨w.heap.size + 1 + 1, 1, none⟩ = some (.slice (some ⟨w.heap.size + 1, 0, none⟩) 1 1) ∧ W.cell? ⟨w.heap.size + 1 + 1, 2, none⟩ = some (.int .i64 0) ∧ W.cell? ⟨w.heap.size + 1 + 1, 3, none⟩ = some (.int .i64 0) :=
 ⟨(blk_cell h.x 0).trans rfl, (blk_cell h.x 1).trans rfl, (blk_cell h.x 2).trans rfl, (blk_cell h.x 3).trans rfl⟩
theorem CP.new (w : World) : CP w (((w.alloc (.cells #[.int .i64 1, .int .u64 0, .int .u64 0] 32 (0, 0))).alloc (.cells #[.int .i64 1, .int .u64 0, .int .u64 0] 32 (0, 0))).alloc (.cells #[.slice (some ⟨w.heap.size, 0, none⟩) 1 1, .slice (some ⟨w.heap.size + 1, 0, none⟩) 1 1, .int .i64 0, .int .i64 0] 94 (0, 0))) 0 :=
 ⟨blk_alloc (blk_alloc (blk_new w _) _) _, blk_alloc (blk_new2 w _ _) _, (by have := blk_new ((w.alloc (.cells #[.int .i64 1, .int .u64 0, .int .u64 0] 32 (0, 0))).alloc (.cells #[.int .i64 1, .int .u64 0, .int .u64 0] 32 (0, 0))) (.cells #[.slice (some ⟨w.heap.size, 0, none⟩) 1 1, .slice (some ⟨w.heap.size + 1, 0, none⟩) 1 1, .int .i64 0, .int .i64 0] 94 (0, 0)); simpa using this), below_alloc (below_alloc (below_alloc (Below.refl _ _) _) _) _⟩
set_option maxHeartbeats 1000000 in
set_option maxRecDepth 100000 in
theorem SpanCopies_true (E : Option Addr) (e : Nat) (ws : List Int) (A : Option Addr) (c : Nat) (ops : List S87) (B : Option Addr) (d : Nat) (more : List S87) (w : World) (hE : Kd.C (Kd.int .i64) w E ws.length ws) (he : ws.length ≤ e) (hC : Kd.C k87 w A ops.length ops) (hc : ops.length ≤ c) (hD : Kd.C k87 w B more.length more) (hd : more.length ≤ d) (hv : ∀ y ∈ ops, (∀ z ∈ y.f3, okV z) ∧ (∀ z ∈ y.f4, okV z)) (hvm : ∀ y ∈ more, (∀ z ∈ y.f3, okV z) ∧ (∀ z ∈ y.f4, okV z)) :
 Calls Try.prog 15 #[.slice E ws.length e, .slice A ops.length c, .slice B more.length d] w fun e_ w' => e_ = .returned (.bool true) ∧ Below w.heap.size w w' := by
 have HA1 := Aside0.mk (fun w1 (hb : Below w.heap.size w w1) => light_calls ops A c w1 (Kd.C_below hC hb) hc)
 have HA2 := Aside0.mk (fun w1 (hb : Below w.heap.size w w1) => light_calls more B d w1 (Kd.C_below hD hb) hd)
 have HWG := Aside0.mk (fun w1 (hb : Below w.heap.size w w1) (hl : ws.length ≤ 1000) => Widths_calls ws 30 E e w1 (Kd.C_below hE hb) he hl)
 have HNG := Aside0.mk (fun w1 (hb : Below w.heap.size w w1) (hW : widB ws 30 = true) => New_ok E e ws 30 w1 (Kd.C_below hE hb) he (widB_true hW).1 (widB_true hW).2.1 (widB_true hW).2.2.1 (widB_true hW).2.2.2.1 (widB_true hW).2.2.2.2)
 have HE := Aside0.mk (fun w1 (hb : Below w.heap.size w w1) => Kd.C_below hE hb)
 have HC := Aside0.mk (fun w1 (hb : Below w.heap.size w w1) => Kd.C_below hC hb)
 have HD := Aside0.mk (fun w1 (hb : Below w.heap.size w w1) => Kd.C_below hD hb)
 have HEC := Aside0.mk he
 have HVO := Aside0.mk hv
 have HVM := Aside0.mk hvm
 clear hE he hC hc hD hd hv hvm
 have HPN := Aside0.mk (fun W => (show Calls Try.prog 55 #[.pointer none, .agg #[.slice (some ⟨w.heap.size, 0, none⟩) 1 1, .slice (some ⟨w.heap.size + 1, 0, none⟩) 1 1, .int .i64 0, .int .i64 0]] W (fun e_ w' => e_ = .returned (.int .i64 1) ∧ Below W.heap.size W w') from Put_nil xC (some ⟨w.heap.size, 0, none⟩) 1 (some ⟨w.heap.size + 1, 0, none⟩) 1 W))
 have HSN := Aside0.mk (fun W => (show Calls Try.prog 64 #[.pointer none, .agg #[.slice (some ⟨w.heap.size, 0, none⟩) 1 1, .slice (some ⟨w.heap.size + 1, 0, none⟩) 1 1, .int .i64 0, .int .i64 0]] W (fun e_ w' => e_ = .returned (.int .i64 1) ∧ Below W.heap.size W w') from Set_nil xC (some ⟨w.heap.size, 0, none⟩) 1 (some ⟨w.heap.size + 1, 0, none⟩) 1 W))
 have HDN := Aside0.mk (fun W => (show Calls Try.prog 65 #[.pointer none, .agg #[.slice (some ⟨w.heap.size, 0, none⟩) 1 1, .slice (some ⟨w.heap.size + 1, 0, none⟩) 1 1, .int .i64 0, .int .i64 0]] W (fun e_ w' => e_ = .returned (.int .i64 1) ∧ Below W.heap.size W w') from Drop_nil xC (some ⟨w.heap.size, 0, none⟩) 1 (some ⟨w.heap.size + 1, 0, none⟩) 1 W))
 go_enter Try.func15, Try.ntmps15
 go_upto_region 3 with (first | (go_at_call 67; skip))
 have HP := Aside0.mk (CP.new w)
 generalize ((w.alloc (.cells #[.int .i64 1, .int .u64 0, .int .u64 0] 32 (0, 0))).alloc (.cells #[.int .i64 1, .int .u64 0, .int .u64 0] 32 (0, 0))).alloc (.cells #[.slice (some ⟨w.heap.size, 0, none⟩) 1 1, .slice (some ⟨w.heap.size + 1, 0, none⟩) 1 1, .int .i64 0, .int .i64 0] 94 (0, 0)) = w2 at HP ⊢
 obtain ⟨b0, b1, b2, b3⟩ := HP.out.cells
 go_upto_region 9 with (first | (go_at_call 56; with_reducible refine (Get_nil _ 1 1 _).mono ?_; rintro e_ w3 ⟨rfl, h_⟩; rw [h_]; clear h_ w3) | (go_at_call 55; with_reducible refine (HPN.out _).mono ?_; rintro e_ w4 ⟨rfl, hb⟩; replace HP := Aside0.mk (HP.out.step hb); clear hb b0 b1 b2 b3; obtain ⟨b0, b1, b2, b3⟩ := HP.out.cells) | (go_at_call 64; with_reducible refine (HSN.out _).mono ?_; rintro e_ w5 ⟨rfl, hb⟩; replace HP := Aside0.mk (HP.out.step hb); clear hb b0 b1 b2 b3; obtain ⟨b0, b1, b2, b3⟩ := HP.out.cells) | (go_at_call 65; with_reducible refine (HDN.out _).mono ?_; rintro e_ w6 ⟨rfl, hb⟩; replace HP := Aside0.mk (HP.out.step hb); clear hb b0 b1 b2 b3; obtain ⟨b0, b1, b2, b3⟩ := HP.out.cells) | (go_at_call 59; with_reducible refine (Len_nil _).mono ?_; rintro e_ w7 ⟨rfl, h_⟩; rw [h_]; clear h_ w7) | (go_at_call 61; with_reducible refine (List_nil _).mono ?_; rintro e_ w7 ⟨rfl, h_⟩; rw [h_]; clear h_ w7) | (go_at_call 66; with_reducible refine (Copy_nil _).mono ?_; rintro e_ w7 ⟨rfl, h_⟩; rw [h_]; clear h_ w7) | (go_at_call 52; with_reducible refine (cop_new (w6.alloc (.cells #[.int .i64 1] 3 (0, 0))) _ (C_int1 1 (blk_new w6 _))).mono ?_; rintro e_ w8 ⟨g, wv, rfl, hlk, hwv⟩; have HP1 := Aside0.mk (HP.out.step (below_alloc (Below.refl _ _) (.cells #[.int .i64 1] 3 (0, 0)))); have hb := hlk.below; have HL := Aside0.mk hlk; have HV := Aside0.mk hwv; clear hlk hwv HP; have HP := Aside0.mk HP1.out; have HPN2 := Aside0.mk HP1.out; replace HP := Aside0.mk (HP.out.step hb); clear hb b0 b1 b2 b3; obtain ⟨b0, b1, b2, b3⟩ := HP.out.cells; clear HP1) | (go_at_call 55; with_reducible refine (cop_put (w6.alloc (.cells #[.int .i64 1] 3 (0, 0))) _ g wv ⟨w.heap.size, 0, none⟩ ⟨w.heap.size + 1, 0, none⟩ (C_vec1 ⟨1, 0, 0⟩ HP.out.a) (C_vec1 ⟨1, 0, 0⟩ HP.out.b) HL.out HV.out).mono ?_; rintro e_ w9 ⟨rfl, v1, hlk, hwv⟩; have HM := Aside0.mk hlk; have HV2 := Aside0.mk hwv; have HP9 := Aside0.mk (HPN2.out.step hlk.below); clear hlk hwv HL HV HP b0 b1 b2 b3; have HP := Aside0.mk HP9.out; clear HP9; obtain ⟨b0, b1, b2, b3⟩ := HP.out.cells))
 have z0 := blk_cell HP.out.b 0
 have z1 := blk_cell HP.out.b 1
 have z2 := blk_cell HP.out.b 2
 simp only [List.getElem?_toArray, List.getElem?_cons_succ, List.getElem?_cons_zero] at z0 z1 z2
 have zf0 := blk_frozen HP.out.b 0
 have zf1 := blk_frozen HP.out.b 1
 have zf2 := blk_frozen HP.out.b 2
 go_upto_region 10 with (first | (go_at_call 67; skip))
 have hW : ∀ k, k ≠ w.heap.size + 1 → (((w9.setCell ⟨w.heap.size + 1, 0, none⟩ (.int .i64 1)).setCell ⟨w.heap.size + 1, 1, none⟩ (.int .u64 0)).setCell ⟨w.heap.size + 1, 2, none⟩ (.int .u64 1)).heap[k]? = w9.heap[k]? := fun k hk => (Below.heap_setCell _ ⟨w.heap.size + 1, 2, none⟩ _ k hk).trans ((Below.heap_setCell _ ⟨w.heap.size + 1, 1, none⟩ _ k hk).trans (Below.heap_setCell _ ⟨w.heap.size + 1, 0, none⟩ _ k hk))
 have hg1 : w.heap.size ≤ w.heap.size + 1 := by omega
 have hBW : Below w.heap.size w (((w9.setCell ⟨w.heap.size + 1, 0, none⟩ (.int .i64 1)).setCell ⟨w.heap.size + 1, 1, none⟩ (.int .u64 0)).setCell ⟨w.heap.size + 1, 2, none⟩ (.int .u64 1)) := below_set (below_set (below_set HP.out.below hg1) hg1) hg1
 have HP3 := Aside0.mk (show CP w (((w9.setCell ⟨w.heap.size + 1, 0, none⟩ (.int .i64 1)).setCell ⟨w.heap.size + 1, 1, none⟩ (.int .u64 0)).setCell ⟨w.heap.size + 1, 2, none⟩ (.int .u64 1)) 1 from ⟨(hW _ (by omega)).trans HP.out.a, (by have := blk_set (blk_set (blk_set HP.out.b 0 (.int .i64 1)) 1 (.int .u64 0)) 2 (.int .u64 1); simpa using this), (hW _ (by omega)).trans HP.out.x, hBW⟩)
 have HL := Aside0.mk (LK.old (w00 := w) HM.out HPN2.out.below (blk_lt HPN2.out.b) (HV2.out _ (blk_lt HPN2.out.b)) hW hBW)
 clear hW hBW hg1 HP HM HV2 HPN2 b0 b1 b2 b3 z0 z1 z2 zf0 zf1 zf2
 generalize ((w9.setCell ⟨w.heap.size + 1, 0, none⟩ (.int .i64 1)).setCell ⟨w.heap.size + 1, 1, none⟩ (.int .u64 0)).setCell ⟨w.heap.size + 1, 2, none⟩ (.int .u64 1) = w10 at HP3 HL ⊢
 have HP := Aside0.mk HP3.out
 clear HP3
 obtain ⟨b0, b1, b2, b3⟩ := HP.out.cells
 go_upto_region 13 with (first | (go_at_call 61; with_reducible refine (cop_list w _ g v1 wv HL.out).mono ?_; rintro e_ w11 ⟨gL, cL, gl, cl, cur, rfl, hc, hge, hh, hcur, hb⟩; have HH := Aside0.mk hh; have HCU := Aside0.mk hcur; have HGE := Aside0.mk hge; have HB11 := Aside0.mk hb; clear hh hcur hge hb b0 b1 b2 b3))
 have z0 := (blk_cell HH.out 0).trans HCU.out.1
 have z1 := (blk_cell HH.out 1).trans HCU.out.2.1
 have z2 := (blk_cell HH.out 2).trans HCU.out.2.2
 have zf0 := blk_frozen HH.out 0
 have zf1 := blk_frozen HH.out 1
 have zf2 := blk_frozen HH.out 2
 go_upto_region 14 with (first | (go_at_call 67; skip))
 have hb : Below w10.heap.size w10 (((w11.setCell ⟨gl, 0, none⟩ (.int .i64 1)).setCell ⟨gl, 1, none⟩ (.int .u64 0)).setCell ⟨gl, 2, none⟩ (.int .u64 1)) := below_set (below_set (below_set HB11.out HGE.out) HGE.out) HGE.out
 have HP3 := Aside0.mk (HP.out.step hb)
 have HL2 := Aside0.mk (HL.out.step hb)
 clear hb HP HL HH HCU HGE HB11 hc z0 z1 z2 zf0 zf1 zf2
 generalize ((w11.setCell ⟨gl, 0, none⟩ (.int .i64 1)).setCell ⟨gl, 1, none⟩ (.int .u64 0)).setCell ⟨gl, 2, none⟩ (.int .u64 1) = w12 at HP3 HL2 ⊢
 have HP := Aside0.mk HP3.out
 have HL := Aside0.mk HL2.out
 clear HP3 HL2
 obtain ⟨b0, b1, b2, b3⟩ := HP.out.cells
 go_upto_region 18 with (first | (go_at_call 56; with_reducible refine (cop_get w _ g v1 wv ⟨w12.heap.size, 0, none⟩ 0 0 0 true (by decide) (C_vec1 ⟨1, 0, 0⟩ (blk_new w12 (.cells #[.int .i64 1, .int .u64 0, .int .u64 0] 32 (0, 0)))) (HL.out.step (below_alloc (Below.refl _ _) _)) (by decide +kernel)).mono ?_; rintro e_ w13 ⟨rfl, hb0⟩; have hb := below_step (below_alloc (Below.refl _ _) (.cells #[.int .i64 1, .int .u64 0, .int .u64 0] 32 (0, 0))) hb0; clear hb0; have HL2 := Aside0.mk (HL.out.step hb); clear HL; have HL := Aside0.mk HL2.out; clear HL2; replace HP := Aside0.mk (HP.out.step hb); clear hb b0 b1 b2 b3; obtain ⟨b0, b1, b2, b3⟩ := HP.out.cells) | (go_at_call 56; with_reducible refine (cop_get w _ g v1 wv ⟨w13.heap.size, 0, none⟩ 1 0 0 false (by decide) (C_vec1 ⟨1, 0, 1⟩ (blk_new w13 (.cells #[.int .i64 1, .int .u64 0, .int .u64 1] 32 (0, 0)))) (HL.out.step (below_alloc (Below.refl _ _) _)) (by decide +kernel)).mono ?_; rintro e_ w14 ⟨rfl, hb0⟩; have hb := below_step (below_alloc (Below.refl _ _) (.cells #[.int .i64 1, .int .u64 0, .int .u64 1] 32 (0, 0))) hb0; clear hb0; have HL2 := Aside0.mk (HL.out.step hb); clear HL; have HL := Aside0.mk HL2.out; clear HL2; replace HP := Aside0.mk (HP.out.step hb); clear hb b0 b1 b2 b3; obtain ⟨b0, b1, b2, b3⟩ := HP.out.cells))
 have HB0 := Aside0.mk HP.out.below
 clear HP HL HPN HSN HDN b0 b1 b2 b3
 by_cases h : 20 < ws.length
 ·have g1 : decide ((20 : Int) < (ws.length : Int)) = true := decide_eq_true (by omega)
  clear h
  go_wp2_with (first | (go_at_call 51; with_reducible refine (lives_calls _).mono ?_; rintro e_ wz ⟨rfl, hb⟩; have HZ := Aside0.mk (below_step HB0.out hb); clear hb))
  go_ret
  exact ⟨rfl, HZ.out⟩
 ·have g1 : decide ((20 : Int) < (ws.length : Int)) = false := decide_eq_false (by omega)
  cases hL : lightB ops with
  | false =>
   have HLT := Aside0.mk (fun w1 (hb : Below w.heap.size w w1) => (show Calls Try.prog 50 #[.slice A ops.length c] w1 (fun e_ w' => e_ = .returned (.bool false) ∧ Below w1.heap.size w1 w') from by have := HA1.out w1 hb; rw [hL] at this; exact this))
   clear h hL
   go_wp2_with (first | (go_at_call 50; with_reducible refine (HLT.out _ HB0.out).mono ?_; rintro e_ wa ⟨rfl, hb⟩; have HB1 := Aside0.mk (below_step HB0.out hb); clear hb) | (go_at_call 51; with_reducible refine (lives_calls _).mono ?_; rintro e_ wz ⟨rfl, hb⟩; have HZ := Aside0.mk (below_step HB1.out hb); clear hb))
   go_ret
   exact ⟨rfl, HZ.out⟩
  | true =>
   cases hM : lightB more with
   | false =>
    have HLT := Aside0.mk (fun w1 (hb : Below w.heap.size w w1) => (show Calls Try.prog 50 #[.slice A ops.length c] w1 (fun e_ w' => e_ = .returned (.bool true) ∧ Below w1.heap.size w1 w') from by have := HA1.out w1 hb; rw [hL] at this; exact this))
    have HLM := Aside0.mk (fun w1 (hb : Below w.heap.size w w1) => (show Calls Try.prog 50 #[.slice B more.length d] w1 (fun e_ w' => e_ = .returned (.bool false) ∧ Below w1.heap.size w1 w') from by have := HA2.out w1 hb; rw [hM] at this; exact this))
    clear h hL hM
    go_wp2_with (first | (go_at_call 50; with_reducible refine (HLT.out _ HB0.out).mono ?_; rintro e_ wa ⟨rfl, hb⟩; have HB1 := Aside0.mk (below_step HB0.out hb); clear hb) | (go_at_call 50; with_reducible refine (HLM.out _ HB1.out).mono ?_; rintro e_ wb ⟨rfl, hb⟩; have HB2 := Aside0.mk (below_step HB1.out hb); clear hb) | (go_at_call 51; with_reducible refine (lives_calls _).mono ?_; rintro e_ wz ⟨rfl, hb⟩; have HZ := Aside0.mk (below_step HB2.out hb); clear hb))
    go_ret
    exact ⟨rfl, HZ.out⟩
   | true =>
    cases hW : widB ws 30 with
    | false =>
     have HLT := Aside0.mk (fun w1 (hb : Below w.heap.size w w1) => (show Calls Try.prog 50 #[.slice A ops.length c] w1 (fun e_ w' => e_ = .returned (.bool true) ∧ Below w1.heap.size w1 w') from by have := HA1.out w1 hb; rw [hL] at this; exact this))
     have HLM := Aside0.mk (fun w1 (hb : Below w.heap.size w w1) => (show Calls Try.prog 50 #[.slice B more.length d] w1 (fun e_ w' => e_ = .returned (.bool true) ∧ Below w1.heap.size w1 w') from by have := HA2.out w1 hb; rw [hM] at this; exact this))
     have HWD := Aside0.mk (fun w1 (hb : Below w.heap.size w w1) => (show Calls Try.prog 53 #[.slice E ws.length e, .int .i64 30] w1 (fun e_ w' => e_ = .returned (.bool false) ∧ Below w1.heap.size w1 w') from by have := HWG.out w1 hb (by omega); rw [hW] at this; exact this))
     clear h hL hM hW
     go_wp2_with (first | (go_at_call 50; with_reducible refine (HLT.out _ HB0.out).mono ?_; rintro e_ wa ⟨rfl, hb⟩; have HB1 := Aside0.mk (below_step HB0.out hb); clear hb) | (go_at_call 50; with_reducible refine (HLM.out _ HB1.out).mono ?_; rintro e_ wb ⟨rfl, hb⟩; have HB2 := Aside0.mk (below_step HB1.out hb); clear hb) | (go_at_call 53; with_reducible refine (HWD.out _ HB2.out).mono ?_; rintro e_ wl ⟨rfl, hb⟩; have HBL := Aside0.mk (below_step HB2.out hb); clear hb) | (go_at_call 51; with_reducible refine (lives_calls _).mono ?_; rintro e_ wz ⟨rfl, hb⟩; have HZ := Aside0.mk (below_step HBL.out hb); clear hb))
     go_ret
     exact ⟨rfl, HZ.out⟩
    | true =>
     have HLT := Aside0.mk (fun w1 (hb : Below w.heap.size w w1) => (show Calls Try.prog 50 #[.slice A ops.length c] w1 (fun e_ w' => e_ = .returned (.bool true) ∧ Below w1.heap.size w1 w') from by have := HA1.out w1 hb; rw [hL] at this; exact this))
     have HLM := Aside0.mk (fun w1 (hb : Below w.heap.size w w1) => (show Calls Try.prog 50 #[.slice B more.length d] w1 (fun e_ w' => e_ = .returned (.bool true) ∧ Below w1.heap.size w1 w') from by have := HA2.out w1 hb; rw [hM] at this; exact this))
     have HWD := Aside0.mk (fun w1 (hb : Below w.heap.size w w1) => (show Calls Try.prog 53 #[.slice E ws.length e, .int .i64 30] w1 (fun e_ w' => e_ = .returned (.bool true) ∧ Below w1.heap.size w1 w') from by have := HWG.out w1 hb (by omega); rw [hW] at this; exact this))
     have HNW := Aside0.mk (fun w1 (hb : Below w.heap.size w w1) => HNG.out w1 hb hW)
     have HOKS := Aside0.mk (show ∀ y ∈ ops, okI (opX y) from (fun y hy => ⟨(HVO.out y hy).1, (HVO.out y hy).2, (show y.f3.length ≤ 1000 by have := ((light_len hL).2 y hy).1; omega), (show y.f4.length ≤ 1000 by have := ((light_len hL).2 y hy).2; omega)⟩))
     have HOKM := Aside0.mk (show ∀ y ∈ more, okI (opX y) from (fun y hy => ⟨(HVM.out y hy).1, (HVM.out y hy).2, (show y.f3.length ≤ 1000 by have := ((light_len hM).2 y hy).1; omega), (show y.f4.length ≤ 1000 by have := ((light_len hM).2 y hy).2; omega)⟩))
     have HRUN := Aside0.mk (runI_ok ws 30 [] (SI_nil ws.length 30 (by omega)) ops HOKS.out)
     have HRZ := Aside0.mk (runI_ok ws 30 [] (SI_nil ws.length 30 (by omega)) more HOKM.out)
     have HLN := Aside0.mk (light_len hL).1
     have HLK := Aside0.mk (light_len hM).1
     clear h hL hM hW
     go_wp2_with (first | (go_at_call 50; with_reducible refine (HLT.out _ HB0.out).mono ?_; rintro e_ wa ⟨rfl, hb⟩; have HB1 := Aside0.mk (below_step HB0.out hb); clear hb) | (go_at_call 50; with_reducible refine (HLM.out _ HB1.out).mono ?_; rintro e_ wb ⟨rfl, hb⟩; have HB2 := Aside0.mk (below_step HB1.out hb); clear hb) | (go_at_call 53; with_reducible refine (HWD.out _ HB2.out).mono ?_; rintro e_ wl ⟨rfl, hb⟩; have HBL := Aside0.mk (below_step HB2.out hb); clear hb) | (go_at_call 52; with_reducible refine (HNW.out _ HBL.out).mono ?_; rintro e_ wn ⟨g, wv, rfl, hlk⟩; have HS1 := Aside0.mk (SS_new hlk); clear hlk))
     have HT0 := Aside0.mk (show SS wl wn g (.slice none 0 0) wv (.slice none 0 0) (isoT (runI ws 30 [] (ops.take 0))) (runI ws 30 [] (ops.take 0)) ws 30 from by rw [show runI ws 30 [] (ops.take 0) = [] from by rw [List.take_zero]; rfl]; exact HS1.out)
     clear HS1 HB0 HB1 HB2 HLT HLM HWD HNW HA1 HA2 HWG HNG HVO HVM
     go_loopw [21, 23] (fun u21 u23 w' => ∃ (i : Nat) (v : Value), i ≤ ops.length ∧ u23 = .int .i64 i ∧ Aside0 (SS wl w' g v wv u21 (isoT (runI ws 30 [] (ops.take i))) (runI ws 30 [] (ops.take i)) ws 30)) (fun _ u23 _ => ops.length - (intOf u23).toNat)
     case atStart => exact ⟨0, _, Nat.zero_le _, rfl, HT0⟩
     case round =>
      obtain ⟨i, v, hi, rfl, HT⟩ := hrel
      clear HT0
      by_cases hlt : i < ops.length
      ·have hl80 := HLN.out
       have hi0 : 0 ≤ (i : Int) := by omega
       have hil : (i : Int) < (ops.length : Int) := by omega
       have HR1 := Aside0.mk (HRUN.out i hi)
       have HR4 := Aside0.mk (show (runI ws 30 [] (ops.take i)).length ≤ 400 from by have h1 := HR1.out.2; have h2 := HLN.out; rw [List.length_nil] at h1; omega)
       have HRS := Aside0.mk (runI_take ws 30 [] ops i hlt)
       obtain ⟨ad, A3, c3, A4, c4, hA, hor, hcl⟩ := op_at (HC.out _ HBL.out) HOKS.out i hlt
       subst hA
       generalize ops[i] = y at hor hcl HRS
       have HO := Aside0.mk (show OR wl A3 c3 A4 c4 ⟨y.f3, y.f4, y.f1, y.f2⟩ from hor)
       have HRS2 := Aside0.mk (show stepL ws 30 (runI ws 30 [] (ops.take i)) y.f0 ⟨y.f3, y.f4, y.f1, y.f2⟩ = (runI ws 30 [] (ops.take (i + 1))) from HRS.out.symm)
       clear hor
       obtain ⟨s0, s1, s2, s3, s4⟩ := hcl _ HT.out.lk.below
       clear hcl
       go_wp2_with (first | (go_at_call 60; with_reducible refine (step_two wl _ g v wv u21 (runI ws 30 [] (ops.take i)) (runI ws 30 [] (ops.take i)) ws 30 E e y.f0 ⟨y.f3, y.f4, y.f1, y.f2⟩ A3 c3 A4 c4 HT.out (HE.out _ HBL.out) HEC.out HO.out HR1.out.1 HR1.out.1 HR4.out HR4.out).mono ?_; rintro e_ w5 ⟨v1, vx1, bb, rfl, hbb, hst⟩; rw [HRS2.out] at hst; obtain ⟨Az, cz, rfl⟩ := Kd.V_slice hst.rx; have HT2 := Aside0.mk hst; clear hst hbb HT; have HT := Aside0.mk HT2.out; clear HT2))
       go_roundw
       case measure => first | (simp [intOf]; done) | (simp [intOf]; omega)
       case rel => exact ⟨i + 1, v1, hlt, by go_num, HT⟩
      ·have hie : i = ops.length := by omega
       have HR1 := HRUN.out i hi
       have hR4 : (runI ws 30 [] (ops.take i)).length ≤ 80 := by have h1 := HR1.2; have h2 := HLN.out; rw [List.length_nil] at h1; omega
       generalize (runI ws 30 [] (ops.take i)) = x at HT HR1 hR4 ⊢
       obtain ⟨Ax, cx, rfl⟩ := Kd.V_slice HT.out.rx
       have HXO := Aside0.mk HR1.1
       have HX4 := Aside0.mk hR4
       have HIX := Aside0.mk (show ∀ y ∈ isoT x, y.f0.length ≤ 1000 ∧ y.f1.length ≤ 1000 from fun y hy => ⟨(HXO.out.iso y hy).i.la, (HXO.out.iso y hy).i.lb⟩)
       have HIL := Aside0.mk (show (isoT x).length ≤ 1000 from by rw [isoT_length]; omega)
       have HSO := Aside0.mk (ref22_Sorted_eq 200000 x (by omega) (fun z hz => (HXO.out.ok z hz).i) HXO.out.ap (by have := Nat.mul_le_mul (show x.length + 1 ≤ 401 by omega) (show x.length + 3 ≤ 403 by omega); omega))
       have HRM := Aside0.mk (runI_ok ws 30 x HXO.out more HOKM.out)
       have hl80 := HLN.out
       clear HR1 hR4 hie
       go_wp2_with (first | (go_at_call 66; with_reducible refine (Copy_calls wl _ g v wv (isoT x) ws 30 HT.out.lk HIX.out HIL.out).mono ?_; rintro e_ w12 ⟨gc, vc_, rfl, htk⟩; have HCP := Aside0.mk htk; clear htk))
       clear hi hlt hl80
       have hx4 := HX4.out
       obtain ⟨wc, rfl⟩ : ∃ wc, wc = wr := ⟨_, rfl⟩
       have HBR := Aside0.mk (below_step HBL.out HT.out.lk.below)
       have HS0 := Aside0.mk (show SS wc w12 gc vc_ wv (.slice none 0 0) (isoT (runI ws 30 x (more.take 0))) (runI ws 30 [] (more.take 0)) ws 30 from by rw [show runI ws 30 [] (more.take 0) = [] from by rw [List.take_zero]; rfl, show runI ws 30 x (more.take 0) = x from by rw [List.take_zero]; rfl]; exact ⟨HCP.out, Kd.V_nil _ _ _ _ _⟩)
       clear HCP
       go_loopw [22, 25] (fun u22 u25 w' => ∃ (i : Nat) (v : Value), i ≤ more.length ∧ u25 = .int .i64 i ∧ Aside0 (SS wc w' gc v wv u22 (isoT (runI ws 30 x (more.take i))) (runI ws 30 [] (more.take i)) ws 30)) (fun _ u25 _ => more.length - (intOf u25).toNat)
       case atStart => exact ⟨0, _, Nat.zero_le _, rfl, HS0⟩
       case round =>
        obtain ⟨i, vd, hi, rfl, HM⟩ := hrel
        clear HS0
        by_cases hlt : i < more.length
        ·have hl80 := HLK.out
         have hi0 : 0 ≤ (i : Int) := by omega
         have hil : (i : Int) < (more.length : Int) := by omega
         have HR1 := Aside0.mk (HRM.out i hi)
         have HR2 := Aside0.mk (HRZ.out i hi)
         have HR3 := Aside0.mk (show (runI ws 30 x (more.take i)).length ≤ 400 from by have h1 := HR1.out.2; have h2 := HLK.out; omega)
         have HR4 := Aside0.mk (show (runI ws 30 [] (more.take i)).length ≤ 400 from by have h1 := HR2.out.2; have h2 := HLK.out; rw [List.length_nil] at h1; omega)
         have HRS := Aside0.mk (runI_take ws 30 x more i hlt)
         have HRT := Aside0.mk (runI_take ws 30 [] more i hlt)
         obtain ⟨ad, A3, c3, A4, c4, hA, hor, hcl⟩ := op_at (HD.out _ HBR.out) HOKM.out i hlt
         subst hA
         generalize more[i] = y at hor hcl HRS HRT
         have HO := Aside0.mk (show OR wc A3 c3 A4 c4 ⟨y.f3, y.f4, y.f1, y.f2⟩ from hor)
         have HRS2 := Aside0.mk (show stepL ws 30 (runI ws 30 x (more.take i)) y.f0 ⟨y.f3, y.f4, y.f1, y.f2⟩ = (runI ws 30 x (more.take (i + 1))) from HRS.out.symm)
         have HRT2 := Aside0.mk (show stepL ws 30 (runI ws 30 [] (more.take i)) y.f0 ⟨y.f3, y.f4, y.f1, y.f2⟩ = (runI ws 30 [] (more.take (i + 1))) from HRT.out.symm)
         clear hor
         obtain ⟨s0, s1, s2, s3, s4⟩ := hcl _ HM.out.lk.below
         clear hcl
         go_wp2_with (first | (go_at_call 60; with_reducible refine (step_two wc _ gc vd wv u22 (runI ws 30 x (more.take i)) (runI ws 30 [] (more.take i)) ws 30 E e y.f0 ⟨y.f3, y.f4, y.f1, y.f2⟩ A3 c3 A4 c4 HM.out (HE.out _ HBR.out) HEC.out HO.out HR1.out.1 HR2.out.1 HR3.out HR4.out).mono ?_; rintro e_ w5 ⟨v1, vx1, bb, rfl, hbb, hst⟩; rw [HRS2.out, HRT2.out] at hst; obtain ⟨Az, cz, rfl⟩ := Kd.V_slice hst.rx; have HT2 := Aside0.mk hst; clear hst hbb HM; have HM := Aside0.mk HT2.out; clear HT2))
         go_roundw
         case measure => first | (simp [intOf]; done) | (simp [intOf]; omega)
         case rel => exact ⟨i + 1, v1, hlt, by go_num, HM⟩
        ·have hl80 := HLK.out
         have HT3 := Aside0.mk (HT.out.step HM.out.lk.below)
         clear HT HM
         go_wp2_with (first | (go_at_call 61; with_reducible refine (List_calls wl _ g v wv (isoT x) ws 30 HT3.out.lk HIX.out HIL.out).mono ?_; rintro e_ w5 ⟨v5, rfl, hr, hb⟩; obtain ⟨Ag, cg, e0⟩ := Kd.R_slice hr; rw [isoT_length] at e0; subst e0; have HG := Aside0.mk hr; have HT2 := Aside0.mk (HT3.out.step hb); clear hr hb HT3) | (go_at_call 62; with_reducible refine (shunterref22_Sorted.calls 200000 (fun k => k ≠ g ∧ some k ≠ v.ownBlock) Ax cx x _ _ (Kd.V_map HT2.out.rx (fun _ hf => hf)) HSO.out).mono ?_; rintro e_ w6 ⟨v6, rfl, hr, hb⟩; obtain ⟨Aw, cw, e0⟩ := Kd.N_slice hr; rw [List.length_map, isoT_length] at e0; subst e0; have HW := Aside0.mk (Kd.N_reads' hr); have HG2 := Aside0.mk (Kd.R_reads' (Kd.R_below HG.out hb)); have HB6 := Aside0.mk (below_step HBL.out (HT2.out.step hb).lk.below); clear hr hb HG HT2))
         clear hi hlt hl80
         go_loopw [28] (fun u28 w' => ∃ j : Nat, j ≤ x.length ∧ u28 = .int .i64 j ∧ Aside0 (Below w6.heap.size w6 w')) (fun u28 _ => x.length - (intOf u28).toNat)
         case atStart => exact ⟨0, Nat.zero_le _, rfl, ⟨Below.refl _ _⟩⟩
         case round =>
          obtain ⟨j, hj, rfl, HB7⟩ := hrel
          by_cases hjt : j < x.length
          ·have hj0 : 0 ≤ (j : Int) := by omega
           have hjl : (j : Int) < (x.length : Int) := by omega
           have hji : j < (isoT x).length := by rw [isoT_length]; exact hjt
           obtain ⟨d1, A0, c0, A1, c1, hA1, hs1, hc1⟩ := it_at (by have h_ := HG2.out.2.2; exact h_) j hji
           subst hA1
           obtain ⟨d2, B0, c2, B1, c3, hA2, hs2, hc2⟩ := it9_at (by rw [List.length_map]) HW.out.2.2 j hji
           subst hA2
           have hyx := HIX.out _ (List.getElem_mem hji)
           generalize (isoT x)[j] = y at hs1 hc1 hs2 hc2 hyx
           have HC1 := Aside0.mk hc1
           have HC2 := Aside0.mk hc2
           have HSA := Aside0.mk (same_eq y hyx.1 hyx.2)
           have HQ1 := Aside0.mk hs1
           have HQ2 := Aside0.mk hs2
           clear hs1 hs2 hc1 hc2 hyx hji
           go_wp2
           refine start_ (n := 11) (S := fun w' => Below w6.heap.size w6 w') (ds := []) #[false, false, false, false, false, false, false, false, false, false, false] (by kernel_rfl) rfl rfl (below_drew1 HB7.out) (fun hHeld => ?_)
           clear HB7
           generalize World.drew _ = w7 at hHeld ⊢
           refine pl_ [0, 1, 2, 5, 6, 7] ?_
           iterate 6 refine qP rfl rfl ?_
           refine pl0 ?_
           refine take_ (i := 3) (N := some 220) (v := ?_) (a' := ?_) #[true, true, true, true, false, true, true, true, false, false, false] rfl rfl (by kernel_rfl) (fun _ _ _ h => h) (Or.inl ⟨by rfl, ?_⟩) hHeld ?_ ?_
           rotate_left
           ·intro w' hs
            obtain ⟨s0, s1, s2, s3⟩ := HC1.out w' hs
            go_simp
            with_reducible rfl
           rotate_left
           ·simp only [Act.put, List.setIfInBounds_toArray, List.set_cons_zero, List.set_cons_succ, i64_w, i32_w]
            rfl
           refine take_ (i := 8) (N := some 225) (v := ?_) (a' := ?_) #[true, true, true, true, false, true, true, true, true, false, false] rfl rfl (by kernel_rfl) (fun _ _ _ h => h) (Or.inl ⟨by rfl, ?_⟩) hHeld ?_ ?_
           rotate_left
           ·intro w' hs
            obtain ⟨s0, s1, s2, s3⟩ := HC2.out w' hs
            go_simp
            with_reducible rfl
           rotate_left
           ·simp only [Act.put, List.setIfInBounds_toArray, List.set_cons_zero, List.set_cons_succ, i64_w, i32_w]
            rfl
           have HH := Aside0.mk hHeld
           clear hHeld
           refine one_ (i := 4) (N := some 221) #[true, true, true, true, true, true, true, true, true, false, false] rfl rfl (by kernel_rfl) (by decide) (fun K hK => ?_)
           refine goes_ Try.func58 (by kernel_rfl) rfl #[.agg #[.slice A0 y.f0.length c0, .slice A1 y.f1.length c1, .int .i64 y.f2, .int .i64 y.f3]] (by rfl) rfl rfl (by simp only [List.map_toArray, List.map_cons, List.map_nil]; first | rfl | (go_simp; done)) ?_
           with_reducible refine (theirs_calls y A0 c0 A1 c1 _).mono ?_
           rintro e_ w1 ⟨rfl, hb⟩
           refine ⟨_, rfl, ?_⟩
           have HB8 := Aside0.mk (below_step HH.out hb)
           clear hb HH
           refine hK.out _ _ HB8.out (fun hHeld => ?_)
           clear hK K
           refine norm_ (a' := ?_) ?_ ?_
           rotate_left
           ·show Act.put _ (some 221) _ = _
            simp only [Act.put, List.setIfInBounds_toArray, List.set_cons_zero, List.set_cons_succ, i64_w, i32_w]
            rfl
           have HH := Aside0.mk hHeld
           clear hHeld HB8
           refine one_ (i := 9) (N := some 226) #[true, true, true, true, true, true, true, true, true, true, false] rfl rfl (by kernel_rfl) (by decide) (fun K hK => ?_)
           refine goes_ Try.func63 (by kernel_rfl) rfl #[.agg #[.slice A0 y.f0.length c0, .slice A1 y.f1.length c1, .int .i64 y.f2, .int .i64 y.f3], .agg #[.slice B0 y.f0.length c2, .slice B1 y.f1.length c3, .int .i64 y.f2, .int .i64 y.f3]] (by rfl) rfl rfl (by simp only [List.map_toArray, List.map_cons, List.map_nil]; first | rfl | (go_simp; done)) ?_
           with_reducible refine (shunterlaw22_same.calls 2000 A0 c0 y.f0 A1 c1 y.f1 y.f2 y.f3 B0 c2 y.f0 B1 c3 y.f1 y.f2 y.f3 true _ (Kd.C_below HQ1.out.1 HH.out) HQ1.out.2.1 (Kd.C_below HQ1.out.2.2.1 HH.out) HQ1.out.2.2.2 (Kd.C_below HQ2.out.1 HH.out) HQ2.out.2.1 (Kd.C_below HQ2.out.2.2.1 HH.out) HQ2.out.2.2.2 HSA.out).mono ?_
           rintro e_ w1 ⟨rfl, hb⟩
           refine ⟨_, rfl, ?_⟩
           have HB9 := Aside0.mk (below_step HH.out hb)
           clear hb HH
           refine hK.out _ _ HB9.out (fun hHeld => ?_)
           clear hK K
           refine norm_ (a' := ?_) ?_ ?_
           rotate_left
           ·show Act.put _ (some 226) _ = _
            simp only [Act.put, List.setIfInBounds_toArray, List.set_cons_zero, List.set_cons_succ, i64_w, i32_w]
            rfl
           refine pl_ [10] ?_
           refine qP rfl rfl ?_
           refine pl0 ?_
           refine done_ (by kernel_rfl) ?_
           go_wp2
           go_roundw
           case measure => first | (simp [intOf]; done) | (simp [intOf]; omega)
           case rel => exact ⟨j + 1, hjt, by go_num, HB9⟩
          ·have hje : j = x.length := by omega
           subst hje
           have HB10 := Aside0.mk (below_step HB6.out HB7.out)
           go_wp2_with (first | (go_at_call 51; with_reducible refine (lives_calls _).mono ?_; rintro e_ wz ⟨rfl, hb⟩; have HZ := Aside0.mk (below_step HB10.out hb); clear hb))
           go_ret
           exact ⟨rfl, HZ.out⟩
end Go.Proofs.Ytfdbcnbakchcgaa.XQ
