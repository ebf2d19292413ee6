import Derived.Test.YtfdbcnbakchcgaaSq
import Derived.Test.YtfdbcnbakchcgaaTe
import Derived.Test.YtfdbcnbakchcgaaTf
import Derived.Test.YtfdbcnbakchcgaaTi
import Derived.Test.YtfdbcnbakchcgaaXTx2
import Derived.Test.YtfdbcnbakchcgaaXTx10
import Derived.Test.YtfdbcnbakchcgaaXTx11
import Derived.Test.YtfdbcnbakchcgaaXTx12
namespace Go.Proofs.Ytfdbcnbakchcgaa.XT
open Go.RowKit Go.Proofs.YtfdbcnbakchcgaaW.PrintWords Go.Proofs.YtfdbcnbakchcgaaW.PrintLast Go.Proofs.YtfdbcnbakchcgaaW.PrintMore
attribute [local go_sem] max2_int min2_int max_two min_two max_three min_three max_four min_four   -- for this text's walks alone
set_option linter.unusedVariables false
set_option linter.unusedSimpArgs false
theorem R59_only {w : World} {base : Nat} {ok : Nat → Prop} {v : Value} {xs : List S59} (h : Kd.R k59 59 w base ok v xs) : Kd.R k59 59 w base (fun k => some k = v.ownBlock) v xs :=
 ⟨fun k hk => hk.symm, h.2.imp_ (fun x _ hp => by have e := k59_openM hp; subst e; exact k59_mkM _ _ _ x)⟩
theorem R78_only {w : World} {base : Nat} {ok : Nat → Prop} {v : Value} {xs : List S78} (h : Kd.R k78 78 w base ok v xs) : Kd.R k78 78 w base (fun k => some k = v.ownBlock) v xs :=
 ⟨fun k hk => hk.symm, h.2.imp_ (fun x _ hp => by have e := k78_openM hp; subst e; exact k78_mkM _ _ _ x)⟩
/-- The program's list and the reference's, apart from each other. -/
structure ST (w0 w : World) (g : Nat) (v vx : Value) (xs : List S59) (x : List S78) (W m : Int) : Prop where
 tk : TK w0 w g v xs W m
 rx : Kd.R k78 78 w w0.heap.size (fun k => some k = vx.ownBlock) vx x
 ne : ∀ k, vx.ownBlock = some k → k ≠ g ∧ some k ≠ v.ownBlock
theorem ST.step {w0 w w1 : World} {g : Nat} {v vx : Value} {xs : List S59} {x : List S78} {W m : Int} (h : ST w0 w g v vx xs x W m) (hb : Below w.heap.size w w1) : ST w0 w1 g v vx xs x W m :=
 ⟨h.tk.step hb, Kd.R_below h.rx hb, h.ne⟩
/-- The reference has gone on. -/
theorem ST.ref {w0 w w1 : World} {g : Nat} {v vx v1 : Value} {xs : List S59} {x x1 : List S78} {W m : Int} (h : ST w0 w g v vx xs x W m) (hr : Kd.R k78 78 w1 w0.heap.size (fun k => some k = vx.ownBlock ∨ w.heap.size ≤ k) v1 x1) (hb : Below w0.heap.size w0 w1) (hk : Kept w w1 (fun k => some k = vx.ownBlock)) : ST w0 w1 g v v1 xs x1 W m := by
 refine ⟨⟨blk_kept h.tk.blk hk (fun e => (h.ne _ e.symm).1 rfl), ?_, h.tk.ge, hb⟩, R78_only hr, fun k e => ?_⟩
 ·refine Kd.R_mono (Kd.R_kept (R59_only h.tk.row) hk (fun k e1 e2 => (h.ne k e2.symm).2 e1)) (fun k e => h.tk.row.1 k e.symm)
 ·rcases hr.1 k e with h1 | h1
  ·exact h.ne k h1.symm
  ·have := blk_lt h.tk.blk
   exact ⟨by omega, fun e2 => by have := Kd.R_lt h.tk.row k e2.symm; omega⟩
/-- The program has gone on. -/
theorem ST.prog {w0 w w1 : World} {g : Nat} {v vx v1 : Value} {xs xs1 : List S59} {x : List S78} {W m : Int} (h : ST w0 w g v vx xs x W m) (hp : TP w0 w w1 g v v1 xs1 W m) : ST w0 w1 g v1 vx xs1 x W m := by
 refine ⟨hp.tk, Kd.R_kept h.rx hp.kept (fun k e1 e2 => ?_), fun k e => ⟨(h.ne k e).1, fun e2 => ?_⟩⟩
 ·have := h.ne k e1.symm
  rcases e2 with e2 | e2
  ·exact this.1 e2
  ·exact this.2 e2
 ·rcases hp.at_ with e3 | ⟨b, e3, e4⟩
  ·rw [e3] at e2; exact (h.ne k e).2 e2
  ·rw [e3] at e2; injection e2 with e2
   have := Kd.R_lt h.rx k e
   omega
/-- Two blocks of this call's own. -/
structure BX2 (w W : World) (a b : Obj) : Prop where
 b0 : W.heap[w.heap.size]? = some a
 b1 : W.heap[w.heap.size + 1]? = some b
theorem BX2.start (w : World) (a b : Obj) : BX2 w ((w.alloc a).alloc b) a b := by
 have h1 : (w.alloc a).heap.size = w.heap.size + 1 := by simp
 refine ⟨blk_alloc (blk_new w a) b, ?_⟩
 have := blk_new (w.alloc a) b
 rwa [h1] at this
theorem BX2.step {w W W1 : World} {a b : Obj} (h : BX2 w W a b) (hb : Below W.heap.size W W1) : BX2 w W1 a b := ⟨blk_below h.b0 hb, blk_below h.b1 hb⟩
theorem BX2.kept {w W W1 : World} {a b : Obj} {S : Nat → Prop} (h : BX2 w W a b) (hk : Kept W W1 S) (hs : ∀ k, S k → k < w.heap.size) : BX2 w W1 a b :=
 ⟨blk_kept h.b0 hk (fun e => by have := hs _ e; omega), blk_kept h.b1 hk (fun e => by have := hs _ e; omega)⟩
/-- The blocks that a step writes. -/
def SK (g : Nat) (v vx : Value) (k : Nat) : Prop := k = g ∨ some k = v.ownBlock ∨ some k = vx.ownBlock
/-- Two blocks of this call's own, and what is kept. -/
structure BXS (w W : World) (a b : Obj) (S : Nat → Prop) : Prop where
 b0 : W.heap[w.heap.size]? = some a
 b1 : W.heap[w.heap.size + 1]? = some b
 kp : Kept w W S
theorem BXS.start (w : World) (a b : Obj) (S : Nat → Prop) : BXS w ((w.alloc a).alloc b) a b S :=
 ⟨(BX2.start w a b).b0, (BX2.start w a b).b1, Kept.of_below (below_alloc (below_alloc (Below.refl _ _) a) b) S⟩
theorem BXS.step {w W W1 : World} {a b : Obj} {S : Nat → Prop} (h : BXS w W a b S) (hb : Below W.heap.size W W1) : BXS w W1 a b S := ⟨blk_below h.b0 hb, blk_below h.b1 hb, h.kp.below hb⟩
theorem BXS.kept {w W W1 : World} {a b : Obj} {S T : Nat → Prop} (h : BXS w W a b T) (hk : Kept W W1 S) (hs : ∀ k, S k → k < w.heap.size) (ht : ∀ k, S k → T k) : BXS w W1 a b T :=
 ⟨blk_kept h.b0 hk (fun e => by have := hs _ e; omega), blk_kept h.b1 hk (fun e => by have := hs _ e; omega), h.kp.then_ hk (fun k e => .inl (ht k e))⟩
theorem R_blk {α : Type} {d : Kd α} {e : Nat} {w : World} {base : Nat} {ok : Nat → Prop} {v : Value} {xs : List α} (h : Kd.R d e w base ok v xs) (k : Nat) (hk : some k = v.ownBlock) : ∃ cur, w.heap[k]? = some (.cells cur e (0, 0)) := by
 obtain ⟨_, inner, hown, _⟩ := h
 rcases hown.2 with ⟨hv, _⟩ | ⟨g, cap, cur, hv, hb, hh, _⟩
 ·rw [hv] at hk; cases hk
 ·rw [hv] at hk
  have : k = g := by simpa [Value.ownBlock] using hk
  subst this
  exact ⟨cur, hh⟩
/-- A block of another type stays. -/
theorem ST.keep {w0 w w1 : World} {g : Nat} {v vx : Value} {xs : List S59} {x : List S78} {W m : Int} (h : ST w0 w g v vx xs x W m) (hk : Kept w w1 (SK g v vx)) {gn : Nat} {cs : Array Value} {t : TypeId} (hb : w.heap[gn]? = some (.cells cs t (0, 0))) (h1 : t ≠ 147) (h2 : t ≠ 59) (h3 : t ≠ 78) : w1.heap[gn]? = some (.cells cs t (0, 0)) := by
 refine blk_kept hb hk (fun e => ?_)
 rcases e with e | e | e
 ·subst e; exact blk_ne hb h.tk.blk h1 rfl
 ·obtain ⟨cur, hc⟩ := R_blk h.tk.row _ e; exact blk_ne hb hc h2 rfl
 ·obtain ⟨cur, hc⟩ := R_blk h.rx _ e; exact blk_ne hb hc h3 rfl
/-- Where the reference's rows lie. -/
theorem ST.old {w0 w : World} {g : Nat} {v vx : Value} {xs : List S59} {x : List S78} {W m : Int} (h : ST w0 w g v vx xs x W m) : ∀ k, some k = vx.ownBlock → k < w.heap.size := fun k e => Kd.R_lt h.rx k e.symm
set_option maxHeartbeats 1000000 in
set_option maxRecDepth 100000 in
theorem step_put (w0 w : World) (g kf : Nat) (v vx : Value) (xs : List S59) (x x1 : List S78) (W m e c : Int) (pr nn p0 p1 p2 m0 m1 m2 : Int) (h : ST w0 w g v vx xs x W m) (hn : xs.length ≤ 1000) (hm : mayT W (⟨⟨p0, p1, p2⟩, ⟨m0, m1, m2⟩, pr, nn⟩ : S59) = some c)  (hr : shunterref21_Put.f kf x W m p0 p1 p2 m0 m1 m2 pr nn = some (x1, e)) (re : Int) (hre : putE c m xs (⟨⟨p0, p1, p2⟩, ⟨m0, m1, m2⟩, pr, nn⟩ : S59) = re) (bb : Bool) (he : (re == e) = bb) :
 Calls Try.prog 40 #[.pointer (some ⟨g, 0, none⟩), vx, .agg #[.int .i64 W, .int .i64 m], .agg #[.int .i64 0, .int .i64 pr, .int .i64 nn, .int .i64 p0, .int .u64 p1, .int .u64 p2, .int .i64 m0, .int .u64 m1, .int .u64 m2]] w fun e_ w' => ∃ v1 vx1, e_ = .returned (.tuple #[vx1, .bool bb]) ∧ ST w0 w' g v1 vx1 (putL c m xs (⟨⟨p0, p1, p2⟩, ⟨m0, m1, m2⟩, pr, nn⟩ : S59)) x1 W m ∧ Kept w w' (SK g v vx) := by
 have HX := Aside0.mk (BXS.start w (.cells #[.int .i64 W, .int .i64 m] 22 (0, 0)) (.cells #[.int .i64 0, .int .i64 pr, .int .i64 nn, .int .i64 p0, .int .u64 p1, .int .u64 p2, .int .i64 m0, .int .u64 m1, .int .u64 m2] 57 (0, 0)) (SK g v vx))
 have HT := Aside0.mk (h.step (below_alloc (below_alloc (Below.refl _ _) (.cells #[.int .i64 W, .int .i64 m] 22 (0, 0))) (.cells #[.int .i64 0, .int .i64 pr, .int .i64 nn, .int .i64 p0, .int .u64 p1, .int .u64 p2, .int .i64 m0, .int .u64 m1, .int .u64 m2] 57 (0, 0))))
 have HOL := Aside0.mk h.old
 have HO2 := Aside0.mk (show ∀ k, k = g ∨ some k = v.ownBlock → k < w.heap.size from fun k e => by rcases e with rfl | e; exact blk_lt h.tk.blk; exact Kd.R_lt h.tk.row k e.symm)
 have HO3 := Aside0.mk (show ∀ k, k = g ∨ some k = v.ownBlock → SK g v vx k from fun k e => by rcases e with e | e; exact Or.inl e; exact Or.inr (Or.inl e))
 have HRF := Aside0.mk hr
 have PR : ∀ w1, TK w0 w1 g v xs W m → Calls Try.prog 46 #[.pointer (some ⟨g, 0, none⟩), .agg #[.int .i64 p0, .int .u64 p1, .int .u64 p2, .int .i64 m0, .int .u64 m1, .int .u64 m2, .int .i64 pr, .int .i64 nn]] w1 fun e_ w' => e_ = .returned (.int .i64 re) ∧ ∃ v1, TP w0 w1 w' g v v1 (putL c m xs (⟨⟨p0, p1, p2⟩, ⟨m0, m1, m2⟩, pr, nn⟩ : S59)) W m := by
  intro w1 h1
  have := Put_calls w0 w1 g v xs W m (⟨⟨p0, p1, p2⟩, ⟨m0, m1, m2⟩, pr, nn⟩ : S59) h1 c hm hn
  rw [hre] at this
  exact this
 have HPR := Aside0.mk PR
 clear h hr PR hm hre
 have n0 := blk_cell HX.out.b0 0
 have n1 := blk_cell HX.out.b0 1
 have o0 := blk_cell HX.out.b1 0
 have o1 := blk_cell HX.out.b1 1
 have o2 := blk_cell HX.out.b1 2
 have o3 := blk_cell HX.out.b1 3
 have o4 := blk_cell HX.out.b1 4
 have o5 := blk_cell HX.out.b1 5
 have o6 := blk_cell HX.out.b1 6
 have o7 := blk_cell HX.out.b1 7
 have o8 := blk_cell HX.out.b1 8
 simp only [List.getElem?_toArray, List.getElem?_cons_succ, List.getElem?_cons_zero] at n0 n1 o0 o1 o2 o3 o4 o5 o6 o7 o8
 go_enter Try.func40, Try.ntmps40
 go_wp2
 have HY := Aside0.mk (show BXS w _ (.cells #[.int .i64 W, .int .i64 m] 22 (0, 0)) (.cells #[.int .i64 0, .int .i64 pr, .int .i64 nn, .int .i64 p0, .int .u64 p1, .int .u64 p2, .int .i64 m0, .int .u64 m1, .int .u64 m2] 57 (0, 0)) (SK g v vx) from HX.out.step (below_drew1 (Below.refl _ _))); have HT2 := Aside0.mk (HT.out.step (below_drew1 (Below.refl _ _))); clear HX HT n0 n1 o0 o1 o2 o3 o4 o5 o6 o7 o8
 refine start_ (n := 14) (S := fun w' => BXS w w' (.cells #[.int .i64 W, .int .i64 m] 22 (0, 0)) (.cells #[.int .i64 0, .int .i64 pr, .int .i64 nn, .int .i64 p0, .int .u64 p1, .int .u64 p2, .int .i64 m0, .int .u64 m1, .int .u64 m2] 57 (0, 0)) (SK g v vx)) (ds := []) #[false, false, false, false, false, false, false, false, false, false, false, false, false, false] (by kernel_rfl) rfl rfl HY.out (fun hHeld => ?_)
 generalize World.drew _ = w5 at HY HT2 hHeld ⊢
 refine pl_ [0, 1] ?_
 iterate 2 refine pP rfl rfl (by kernel_rfl) (fun _ _ _ h => h) (by rfl) (by intro w'; go_simp; with_reducible rfl) (by simp only [Act.put, z1, z2, z3, i64_w, i32_w]; rfl) ?_
 refine pl0 ?_
 refine take_ (i := 2) (N := some 22) (v := ?_) (a' := ?_) #[true, true, true, false, false, false, false, false, false, false, false, false, false, false] rfl rfl (by kernel_rfl) (fun _ _ _ h => h) (Or.inl ⟨by rfl, ?_⟩) hHeld ?_ ?_
 rotate_left
 ·intro w' hs
  have n0 := blk_cell hs.b0 0
  have n1 := blk_cell hs.b0 1
  simp only [List.getElem?_toArray, List.getElem?_cons_succ, List.getElem?_cons_zero] at n0 n1
  go_simp
  with_reducible rfl
 rotate_left
 ·simp only [Act.put, List.setIfInBounds_toArray, List.set_cons_zero, List.set_cons_succ, i64_w, i32_w]
  rfl
 refine pl_ [3] ?_
 refine pP rfl rfl (by kernel_rfl) (fun _ _ _ h => h) (by rfl) (by intro w'; go_simp; with_reducible rfl) (by simp only [Act.put, z1, z2, z3, i64_w, i32_w]; rfl) ?_
 refine pl0 ?_
 refine take_ (i := 4) (N := some 24) (v := ?_) (a' := ?_) #[true, true, true, true, true, false, false, false, false, false, false, false, false, false] rfl rfl (by kernel_rfl) (fun _ _ _ h => h) (Or.inl ⟨by rfl, ?_⟩) hHeld ?_ ?_
 rotate_left
 ·intro w' hs
  have n0 := blk_cell hs.b0 0
  have n1 := blk_cell hs.b0 1
  simp only [List.getElem?_toArray, List.getElem?_cons_succ, List.getElem?_cons_zero] at n0 n1
  go_simp
  with_reducible rfl
 rotate_left
 ·simp only [Act.put, List.setIfInBounds_toArray, List.set_cons_zero, List.set_cons_succ, i64_w, i32_w]
  rfl
 refine take_ (i := 5) (N := some 25) (v := ?_) (a' := ?_) #[true, true, true, true, true, true, false, false, false, false, false, false, false, false] rfl rfl (by kernel_rfl) (fun _ _ _ h => h) (Or.inl ⟨by rfl, ?_⟩) hHeld ?_ ?_
 rotate_left
 ·intro w' hs
  have o0 := blk_cell hs.b1 0
  have o1 := blk_cell hs.b1 1
  have o2 := blk_cell hs.b1 2
  have o3 := blk_cell hs.b1 3
  have o4 := blk_cell hs.b1 4
  have o5 := blk_cell hs.b1 5
  have o6 := blk_cell hs.b1 6
  have o7 := blk_cell hs.b1 7
  have o8 := blk_cell hs.b1 8
  simp only [List.getElem?_toArray, List.getElem?_cons_succ, List.getElem?_cons_zero] at o0 o1 o2 o3 o4 o5 o6 o7 o8
  go_simp
  with_reducible rfl
 rotate_left
 ·simp only [Act.put, List.setIfInBounds_toArray, List.set_cons_zero, List.set_cons_succ, i64_w, i32_w]
  rfl
 refine one_ (i := 6) (N := some 26) #[true, true, true, true, true, true, true, false, false, false, false, false, false, false] rfl rfl (by kernel_rfl) (by decide) (fun K hK => ?_)
 refine goes_ Try.func32 (by kernel_rfl) rfl #[.agg #[.int .i64 0, .int .i64 pr, .int .i64 nn, .int .i64 p0, .int .u64 p1, .int .u64 p2, .int .i64 m0, .int .u64 m1, .int .u64 m2]] (by rfl) rfl rfl (by simp only [List.map_toArray, List.map_cons, List.map_nil]; rfl) ?_
 with_reducible refine (shunterlaw21_mine.calls 0 pr nn p0 p1 p2 m0 m1 m2 p0 p1 p2 m0 m1 m2 pr nn _ rfl).mono ?_
 rintro e w1 ⟨rfl, hb⟩
 refine ⟨_, rfl, ?_⟩
 have HX := Aside0.mk (HY.out.step hb)
 have HT := Aside0.mk (HT2.out.step hb)
 clear hb HY HT2
 have HY := Aside0.mk HX.out
 have HT2 := Aside0.mk HT.out
 clear HX HT
 refine hK.out _ _ HY.out (fun hHeld => ?_)
 clear hK K
 refine norm_ (a' := ?_) ?_ ?_
 rotate_left
 ·show Act.put _ (some 26) _ = _
  simp only [Act.put, List.setIfInBounds_toArray, List.set_cons_zero, List.set_cons_succ, i64_w, i32_w]
  rfl
 refine one_ (i := 7) (N := some 27) #[true, true, true, true, true, true, true, true, false, false, false, false, false, false] rfl rfl (by kernel_rfl) (by decide) (fun K hK => ?_)
 refine goes_ Try.func45 (by kernel_rfl) rfl #[.agg #[.int .i64 p0, .int .u64 p1, .int .u64 p2, .int .i64 m0, .int .u64 m1, .int .u64 m2, .int .i64 pr, .int .i64 nn]] (by rfl) rfl rfl (by simp only [List.map_toArray, List.map_cons, List.map_nil]; rfl) ?_
 with_reducible refine (shunterlaw21_theirs.calls p0 p1 p2 m0 m1 m2 pr nn p0 p1 p2 m0 m1 m2 pr nn _ rfl).mono ?_
 rintro e w1 ⟨rfl, hb⟩
 refine ⟨_, rfl, ?_⟩
 have HX := Aside0.mk (HY.out.step hb)
 have HT := Aside0.mk (HT2.out.step hb)
 clear hb HY HT2
 have HY := Aside0.mk HX.out
 have HT2 := Aside0.mk HT.out
 clear HX HT
 refine hK.out _ _ HY.out (fun hHeld => ?_)
 clear hK K
 refine norm_ (a' := ?_) ?_ ?_
 rotate_left
 ·show Act.put _ (some 27) _ = _
  simp only [Act.put, List.setIfInBounds_toArray, List.set_cons_zero, List.set_cons_succ, i64_w, i32_w]
  rfl
 refine one_ (i := 8) (N := some 28) #[true, true, true, true, true, true, true, true, true, false, false, false, false, false] rfl rfl (by kernel_rfl) (by decide) (fun K hK => ?_)
 refine goes_ Try.func91 (by kernel_rfl) rfl #[vx, .int .i64 W, .int .i64 m, .agg #[.int .i64 p0, .int .u64 p1, .int .u64 p2, .int .i64 m0, .int .u64 m1, .int .u64 m2, .int .i64 pr, .int .i64 nn]] (by rfl) rfl rfl (by simp only [List.map_toArray, List.map_cons, List.map_nil]; rfl) ?_
 with_reducible refine (shunterref21_Put.calls kf (fun k => some k = vx.ownBlock) vx x W m p0 p1 p2 m0 m1 m2 pr nn _ _ w0 _ HT2.out.tk.below HT2.out.rx HRF.out).mono ?_
 rintro e w1 ⟨v1, rfl, hr, hb, hk⟩
 refine ⟨_, rfl, ?_⟩
 have HX := Aside0.mk (HY.out.kept hk (fun k e => HOL.out k e) (fun k e => .inr (.inr e)))
 have HT := Aside0.mk (HT2.out.ref hr hb hk)
 clear hr hb hk HY HT2
 have HY := Aside0.mk HX.out
 have HT2 := Aside0.mk HT.out
 clear HX HT
 refine hK.out _ _ HY.out (fun hHeld => ?_)
 clear hK K
 refine norm_ (a' := ?_) ?_ ?_
 rotate_left
 ·show Act.put _ (some 28) _ = _
  simp only [Act.put, List.setIfInBounds_toArray, List.set_cons_zero, List.set_cons_succ, i64_w, i32_w]
  rfl
 refine pl_ [9, 10, 11, 12, 13] ?_
 iterate 5 refine pP rfl rfl (by kernel_rfl) (fun _ _ _ h => h) (by rfl) (by intro w'; go_simp; with_reducible rfl) (by simp only [Act.put, z1, z2, z3, i64_w, i32_w]; rfl) ?_
 refine pl0 ?_
 refine done_ (by kernel_rfl) ?_
 have HX := Aside0.mk HY.out
 have HT := Aside0.mk HT2.out
 clear HY HT2 hHeld
 have n0 := blk_cell HX.out.b0 0
 have n1 := blk_cell HX.out.b0 1
 have o0 := blk_cell HX.out.b1 0
 have o1 := blk_cell HX.out.b1 1
 have o2 := blk_cell HX.out.b1 2
 have o3 := blk_cell HX.out.b1 3
 have o4 := blk_cell HX.out.b1 4
 have o5 := blk_cell HX.out.b1 5
 have o6 := blk_cell HX.out.b1 6
 have o7 := blk_cell HX.out.b1 7
 have o8 := blk_cell HX.out.b1 8
 simp only [List.getElem?_toArray, List.getElem?_cons_succ, List.getElem?_cons_zero] at n0 n1 o0 o1 o2 o3 o4 o5 o6 o7 o8
 go_wp2_with (first | (go_at_call 32; with_reducible refine (shunterlaw21_mine.calls 0 pr nn p0 p1 p2 m0 m1 m2 p0 p1 p2 m0 m1 m2 pr nn _ rfl).mono ?_; rintro e_ w1 ⟨rfl, hb⟩; have HY := Aside0.mk (HX.out.step hb); have HT2 := Aside0.mk (HT.out.step hb); clear HX HT hb; (try clear n0 n1 o0 o1 o2 o3 o4 o5 o6 o7 o8); have HX := Aside0.mk HY.out; have HT := Aside0.mk HT2.out; clear HY HT2; have n0 := blk_cell HX.out.b0 0; have n1 := blk_cell HX.out.b0 1; have o0 := blk_cell HX.out.b1 0; have o1 := blk_cell HX.out.b1 1; have o2 := blk_cell HX.out.b1 2; have o3 := blk_cell HX.out.b1 3; have o4 := blk_cell HX.out.b1 4; have o5 := blk_cell HX.out.b1 5; have o6 := blk_cell HX.out.b1 6; have o7 := blk_cell HX.out.b1 7; have o8 := blk_cell HX.out.b1 8; simp only [List.getElem?_toArray, List.getElem?_cons_succ, List.getElem?_cons_zero] at n0 n1 o0 o1 o2 o3 o4 o5 o6 o7 o8) | (go_at_call 46; with_reducible refine (HPR.out _ HT.out.tk).mono ?_; rintro e_ w2 ⟨rfl, v3, hp⟩; have HT2 := Aside0.mk (HT.out.prog hp); have HY := Aside0.mk (HX.out.kept hp.kept HO2.out HO3.out); clear HX HT hp; (try clear n0 n1 o0 o1 o2 o3 o4 o5 o6 o7 o8); have HX := Aside0.mk HY.out; have HT := Aside0.mk HT2.out; clear HY HT2; have n0 := blk_cell HX.out.b0 0; have n1 := blk_cell HX.out.b0 1; have o0 := blk_cell HX.out.b1 0; have o1 := blk_cell HX.out.b1 1; have o2 := blk_cell HX.out.b1 2; have o3 := blk_cell HX.out.b1 3; have o4 := blk_cell HX.out.b1 4; have o5 := blk_cell HX.out.b1 5; have o6 := blk_cell HX.out.b1 6; have o7 := blk_cell HX.out.b1 7; have o8 := blk_cell HX.out.b1 8; simp only [List.getElem?_toArray, List.getElem?_cons_succ, List.getElem?_cons_zero] at n0 n1 o0 o1 o2 o3 o4 o5 o6 o7 o8))
 go_ret2
 exact ⟨_, _, rfl, HT.out, HX.out.kp⟩
set_option maxHeartbeats 1000000 in
set_option maxRecDepth 100000 in
theorem step_set (w0 w : World) (g kf : Nat) (v vx : Value) (xs : List S59) (x x1 : List S78) (W m e c : Int) (pr nn p0 p1 p2 m0 m1 m2 : Int) (h : ST w0 w g v vx xs x W m) (hn : xs.length ≤ 1000) (hm : mayT W (⟨⟨p0, p1, p2⟩, ⟨m0, m1, m2⟩, pr, nn⟩ : S59) = some c) (hd : xs.Pairwise (fun a b => sameT a b = false)) (hr : shunterref21_Set.f kf x W p0 p1 p2 m0 m1 m2 pr nn = some (x1, e)) (re : Int) (hre : setE c xs (⟨⟨p0, p1, p2⟩, ⟨m0, m1, m2⟩, pr, nn⟩ : S59) = re) (bb : Bool) (he : (re == e) = bb) :
 Calls Try.prog 40 #[.pointer (some ⟨g, 0, none⟩), vx, .agg #[.int .i64 W, .int .i64 m], .agg #[.int .i64 1, .int .i64 pr, .int .i64 nn, .int .i64 p0, .int .u64 p1, .int .u64 p2, .int .i64 m0, .int .u64 m1, .int .u64 m2]] w fun e_ w' => ∃ v1 vx1, e_ = .returned (.tuple #[vx1, .bool bb]) ∧ ST w0 w' g v1 vx1 (setL c xs (⟨⟨p0, p1, p2⟩, ⟨m0, m1, m2⟩, pr, nn⟩ : S59)) x1 W m ∧ Kept w w' (SK g v vx) := by
 have HX := Aside0.mk (BXS.start w (.cells #[.int .i64 W, .int .i64 m] 22 (0, 0)) (.cells #[.int .i64 1, .int .i64 pr, .int .i64 nn, .int .i64 p0, .int .u64 p1, .int .u64 p2, .int .i64 m0, .int .u64 m1, .int .u64 m2] 57 (0, 0)) (SK g v vx))
 have HT := Aside0.mk (h.step (below_alloc (below_alloc (Below.refl _ _) (.cells #[.int .i64 W, .int .i64 m] 22 (0, 0))) (.cells #[.int .i64 1, .int .i64 pr, .int .i64 nn, .int .i64 p0, .int .u64 p1, .int .u64 p2, .int .i64 m0, .int .u64 m1, .int .u64 m2] 57 (0, 0))))
 have HOL := Aside0.mk h.old
 have HO2 := Aside0.mk (show ∀ k, k = g ∨ some k = v.ownBlock → k < w.heap.size from fun k e => by rcases e with rfl | e; exact blk_lt h.tk.blk; exact Kd.R_lt h.tk.row k e.symm)
 have HO3 := Aside0.mk (show ∀ k, k = g ∨ some k = v.ownBlock → SK g v vx k from fun k e => by rcases e with e | e; exact Or.inl e; exact Or.inr (Or.inl e))
 have HRF := Aside0.mk hr
 have PR : ∀ w1, TK w0 w1 g v xs W m → Calls Try.prog 47 #[.pointer (some ⟨g, 0, none⟩), .agg #[.int .i64 p0, .int .u64 p1, .int .u64 p2, .int .i64 m0, .int .u64 m1, .int .u64 m2, .int .i64 pr, .int .i64 nn]] w1 fun e_ w' => e_ = .returned (.int .i64 re) ∧ ∃ v1, TP w0 w1 w' g v v1 (setL c xs (⟨⟨p0, p1, p2⟩, ⟨m0, m1, m2⟩, pr, nn⟩ : S59)) W m := by
  intro w1 h1
  have := Set_calls w0 w1 g v xs W m (⟨⟨p0, p1, p2⟩, ⟨m0, m1, m2⟩, pr, nn⟩ : S59) h1 c hm hn hd
  rw [hre] at this
  exact this
 have HPR := Aside0.mk PR
 clear h hr PR hm hre hd
 have n0 := blk_cell HX.out.b0 0
 have n1 := blk_cell HX.out.b0 1
 have o0 := blk_cell HX.out.b1 0
 have o1 := blk_cell HX.out.b1 1
 have o2 := blk_cell HX.out.b1 2
 have o3 := blk_cell HX.out.b1 3
 have o4 := blk_cell HX.out.b1 4
 have o5 := blk_cell HX.out.b1 5
 have o6 := blk_cell HX.out.b1 6
 have o7 := blk_cell HX.out.b1 7
 have o8 := blk_cell HX.out.b1 8
 simp only [List.getElem?_toArray, List.getElem?_cons_succ, List.getElem?_cons_zero] at n0 n1 o0 o1 o2 o3 o4 o5 o6 o7 o8
 go_enter Try.func40, Try.ntmps40
 go_wp2
 have HY := Aside0.mk (show BXS w _ (.cells #[.int .i64 W, .int .i64 m] 22 (0, 0)) (.cells #[.int .i64 1, .int .i64 pr, .int .i64 nn, .int .i64 p0, .int .u64 p1, .int .u64 p2, .int .i64 m0, .int .u64 m1, .int .u64 m2] 57 (0, 0)) (SK g v vx) from HX.out.step (below_drew1 (Below.refl _ _))); have HT2 := Aside0.mk (HT.out.step (below_drew1 (Below.refl _ _))); clear HX HT n0 n1 o0 o1 o2 o3 o4 o5 o6 o7 o8
 refine start_ (n := 12) (S := fun w' => BXS w w' (.cells #[.int .i64 W, .int .i64 m] 22 (0, 0)) (.cells #[.int .i64 1, .int .i64 pr, .int .i64 nn, .int .i64 p0, .int .u64 p1, .int .u64 p2, .int .i64 m0, .int .u64 m1, .int .u64 m2] 57 (0, 0)) (SK g v vx)) (ds := []) #[false, false, false, false, false, false, false, false, false, false, false, false] (by kernel_rfl) rfl rfl HY.out (fun hHeld => ?_)
 generalize World.drew _ = w5 at HY HT2 hHeld ⊢
 refine pl_ [0, 1] ?_
 iterate 2 refine pP rfl rfl (by kernel_rfl) (fun _ _ _ h => h) (by rfl) (by intro w'; go_simp; with_reducible rfl) (by simp only [Act.put, z1, z2, z3, i64_w, i32_w]; rfl) ?_
 refine pl0 ?_
 refine take_ (i := 2) (N := some 43) (v := ?_) (a' := ?_) #[true, true, true, false, false, false, false, false, false, false, false, false] rfl rfl (by kernel_rfl) (fun _ _ _ h => h) (Or.inl ⟨by rfl, ?_⟩) hHeld ?_ ?_
 rotate_left
 ·intro w' hs
  have n0 := blk_cell hs.b0 0
  have n1 := blk_cell hs.b0 1
  simp only [List.getElem?_toArray, List.getElem?_cons_succ, List.getElem?_cons_zero] at n0 n1
  go_simp
  with_reducible rfl
 rotate_left
 ·simp only [Act.put, List.setIfInBounds_toArray, List.set_cons_zero, List.set_cons_succ, i64_w, i32_w]
  rfl
 refine take_ (i := 3) (N := some 44) (v := ?_) (a' := ?_) #[true, true, true, true, false, false, false, false, false, false, false, false] rfl rfl (by kernel_rfl) (fun _ _ _ h => h) (Or.inl ⟨by rfl, ?_⟩) hHeld ?_ ?_
 rotate_left
 ·intro w' hs
  have o0 := blk_cell hs.b1 0
  have o1 := blk_cell hs.b1 1
  have o2 := blk_cell hs.b1 2
  have o3 := blk_cell hs.b1 3
  have o4 := blk_cell hs.b1 4
  have o5 := blk_cell hs.b1 5
  have o6 := blk_cell hs.b1 6
  have o7 := blk_cell hs.b1 7
  have o8 := blk_cell hs.b1 8
  simp only [List.getElem?_toArray, List.getElem?_cons_succ, List.getElem?_cons_zero] at o0 o1 o2 o3 o4 o5 o6 o7 o8
  go_simp
  with_reducible rfl
 rotate_left
 ·simp only [Act.put, List.setIfInBounds_toArray, List.set_cons_zero, List.set_cons_succ, i64_w, i32_w]
  rfl
 refine one_ (i := 4) (N := some 45) #[true, true, true, true, true, false, false, false, false, false, false, false] rfl rfl (by kernel_rfl) (by decide) (fun K hK => ?_)
 refine goes_ Try.func32 (by kernel_rfl) rfl #[.agg #[.int .i64 1, .int .i64 pr, .int .i64 nn, .int .i64 p0, .int .u64 p1, .int .u64 p2, .int .i64 m0, .int .u64 m1, .int .u64 m2]] (by rfl) rfl rfl (by simp only [List.map_toArray, List.map_cons, List.map_nil]; rfl) ?_
 with_reducible refine (shunterlaw21_mine.calls 1 pr nn p0 p1 p2 m0 m1 m2 p0 p1 p2 m0 m1 m2 pr nn _ rfl).mono ?_
 rintro e w1 ⟨rfl, hb⟩
 refine ⟨_, rfl, ?_⟩
 have HX := Aside0.mk (HY.out.step hb)
 have HT := Aside0.mk (HT2.out.step hb)
 clear hb HY HT2
 have HY := Aside0.mk HX.out
 have HT2 := Aside0.mk HT.out
 clear HX HT
 refine hK.out _ _ HY.out (fun hHeld => ?_)
 clear hK K
 refine norm_ (a' := ?_) ?_ ?_
 rotate_left
 ·show Act.put _ (some 45) _ = _
  simp only [Act.put, List.setIfInBounds_toArray, List.set_cons_zero, List.set_cons_succ, i64_w, i32_w]
  rfl
 refine one_ (i := 5) (N := some 46) #[true, true, true, true, true, true, false, false, false, false, false, false] rfl rfl (by kernel_rfl) (by decide) (fun K hK => ?_)
 refine goes_ Try.func45 (by kernel_rfl) rfl #[.agg #[.int .i64 p0, .int .u64 p1, .int .u64 p2, .int .i64 m0, .int .u64 m1, .int .u64 m2, .int .i64 pr, .int .i64 nn]] (by rfl) rfl rfl (by simp only [List.map_toArray, List.map_cons, List.map_nil]; rfl) ?_
 with_reducible refine (shunterlaw21_theirs.calls p0 p1 p2 m0 m1 m2 pr nn p0 p1 p2 m0 m1 m2 pr nn _ rfl).mono ?_
 rintro e w1 ⟨rfl, hb⟩
 refine ⟨_, rfl, ?_⟩
 have HX := Aside0.mk (HY.out.step hb)
 have HT := Aside0.mk (HT2.out.step hb)
 clear hb HY HT2
 have HY := Aside0.mk HX.out
 have HT2 := Aside0.mk HT.out
 clear HX HT
 refine hK.out _ _ HY.out (fun hHeld => ?_)
 clear hK K
 refine norm_ (a' := ?_) ?_ ?_
 rotate_left
 ·show Act.put _ (some 46) _ = _
  simp only [Act.put, List.setIfInBounds_toArray, List.set_cons_zero, List.set_cons_succ, i64_w, i32_w]
  rfl
 refine one_ (i := 6) (N := some 47) #[true, true, true, true, true, true, true, false, false, false, false, false] rfl rfl (by kernel_rfl) (by decide) (fun K hK => ?_)
 refine goes_ Try.func92 (by kernel_rfl) rfl #[vx, .int .i64 W, .agg #[.int .i64 p0, .int .u64 p1, .int .u64 p2, .int .i64 m0, .int .u64 m1, .int .u64 m2, .int .i64 pr, .int .i64 nn]] (by rfl) rfl rfl (by simp only [List.map_toArray, List.map_cons, List.map_nil]; rfl) ?_
 with_reducible refine (shunterref21_Set.calls kf (fun k => some k = vx.ownBlock) vx x W p0 p1 p2 m0 m1 m2 pr nn _ _ w0 _ HT2.out.tk.below HT2.out.rx HRF.out).mono ?_
 rintro e w1 ⟨v1, rfl, hr, hb, hk⟩
 refine ⟨_, rfl, ?_⟩
 have HX := Aside0.mk (HY.out.kept hk (fun k e => HOL.out k e) (fun k e => .inr (.inr e)))
 have HT := Aside0.mk (HT2.out.ref hr hb hk)
 clear hr hb hk HY HT2
 have HY := Aside0.mk HX.out
 have HT2 := Aside0.mk HT.out
 clear HX HT
 refine hK.out _ _ HY.out (fun hHeld => ?_)
 clear hK K
 refine norm_ (a' := ?_) ?_ ?_
 rotate_left
 ·show Act.put _ (some 47) _ = _
  simp only [Act.put, List.setIfInBounds_toArray, List.set_cons_zero, List.set_cons_succ, i64_w, i32_w]
  rfl
 refine pl_ [7, 8, 9, 10, 11] ?_
 iterate 5 refine pP rfl rfl (by kernel_rfl) (fun _ _ _ h => h) (by rfl) (by intro w'; go_simp; with_reducible rfl) (by simp only [Act.put, z1, z2, z3, i64_w, i32_w]; rfl) ?_
 refine pl0 ?_
 refine done_ (by kernel_rfl) ?_
 have HX := Aside0.mk HY.out
 have HT := Aside0.mk HT2.out
 clear HY HT2 hHeld
 have n0 := blk_cell HX.out.b0 0
 have n1 := blk_cell HX.out.b0 1
 have o0 := blk_cell HX.out.b1 0
 have o1 := blk_cell HX.out.b1 1
 have o2 := blk_cell HX.out.b1 2
 have o3 := blk_cell HX.out.b1 3
 have o4 := blk_cell HX.out.b1 4
 have o5 := blk_cell HX.out.b1 5
 have o6 := blk_cell HX.out.b1 6
 have o7 := blk_cell HX.out.b1 7
 have o8 := blk_cell HX.out.b1 8
 simp only [List.getElem?_toArray, List.getElem?_cons_succ, List.getElem?_cons_zero] at n0 n1 o0 o1 o2 o3 o4 o5 o6 o7 o8
 go_wp2_with (first | (go_at_call 32; with_reducible refine (shunterlaw21_mine.calls 1 pr nn p0 p1 p2 m0 m1 m2 p0 p1 p2 m0 m1 m2 pr nn _ rfl).mono ?_; rintro e_ w1 ⟨rfl, hb⟩; have HY := Aside0.mk (HX.out.step hb); have HT2 := Aside0.mk (HT.out.step hb); clear HX HT hb; (try clear n0 n1 o0 o1 o2 o3 o4 o5 o6 o7 o8); have HX := Aside0.mk HY.out; have HT := Aside0.mk HT2.out; clear HY HT2; have n0 := blk_cell HX.out.b0 0; have n1 := blk_cell HX.out.b0 1; have o0 := blk_cell HX.out.b1 0; have o1 := blk_cell HX.out.b1 1; have o2 := blk_cell HX.out.b1 2; have o3 := blk_cell HX.out.b1 3; have o4 := blk_cell HX.out.b1 4; have o5 := blk_cell HX.out.b1 5; have o6 := blk_cell HX.out.b1 6; have o7 := blk_cell HX.out.b1 7; have o8 := blk_cell HX.out.b1 8; simp only [List.getElem?_toArray, List.getElem?_cons_succ, List.getElem?_cons_zero] at n0 n1 o0 o1 o2 o3 o4 o5 o6 o7 o8) | (go_at_call 47; with_reducible refine (HPR.out _ HT.out.tk).mono ?_; rintro e_ w2 ⟨rfl, v3, hp⟩; have HT2 := Aside0.mk (HT.out.prog hp); have HY := Aside0.mk (HX.out.kept hp.kept HO2.out HO3.out); clear HX HT hp; (try clear n0 n1 o0 o1 o2 o3 o4 o5 o6 o7 o8); have HX := Aside0.mk HY.out; have HT := Aside0.mk HT2.out; clear HY HT2; have n0 := blk_cell HX.out.b0 0; have n1 := blk_cell HX.out.b0 1; have o0 := blk_cell HX.out.b1 0; have o1 := blk_cell HX.out.b1 1; have o2 := blk_cell HX.out.b1 2; have o3 := blk_cell HX.out.b1 3; have o4 := blk_cell HX.out.b1 4; have o5 := blk_cell HX.out.b1 5; have o6 := blk_cell HX.out.b1 6; have o7 := blk_cell HX.out.b1 7; have o8 := blk_cell HX.out.b1 8; simp only [List.getElem?_toArray, List.getElem?_cons_succ, List.getElem?_cons_zero] at n0 n1 o0 o1 o2 o3 o4 o5 o6 o7 o8))
 go_ret2
 exact ⟨_, _, rfl, HT.out, HX.out.kp⟩
set_option maxHeartbeats 1000000 in
set_option maxRecDepth 100000 in
theorem step_drop (w0 w : World) (g kf : Nat) (v vx : Value) (xs : List S59) (x x1 : List S78) (W m e c : Int) (pr nn p0 p1 p2 m0 m1 m2 : Int) (h : ST w0 w g v vx xs x W m) (hn : xs.length ≤ 1000) (hm : mayT W (⟨⟨p0, p1, p2⟩, ⟨m0, m1, m2⟩, pr, nn⟩ : S59) = some c) (hd : xs.Pairwise (fun a b => sameT a b = false)) (hr : shunterref21_Drop.f kf x W p0 p1 p2 m0 m1 m2 pr nn = some (x1, e)) (re : Int) (hre : setE c xs (⟨⟨p0, p1, p2⟩, ⟨m0, m1, m2⟩, pr, nn⟩ : S59) = re) (bb : Bool) (he : (re == e) = bb) :
 Calls Try.prog 40 #[.pointer (some ⟨g, 0, none⟩), vx, .agg #[.int .i64 W, .int .i64 m], .agg #[.int .i64 2, .int .i64 pr, .int .i64 nn, .int .i64 p0, .int .u64 p1, .int .u64 p2, .int .i64 m0, .int .u64 m1, .int .u64 m2]] w fun e_ w' => ∃ v1 vx1, e_ = .returned (.tuple #[vx1, .bool bb]) ∧ ST w0 w' g v1 vx1 (dropL c xs (⟨⟨p0, p1, p2⟩, ⟨m0, m1, m2⟩, pr, nn⟩ : S59)) x1 W m ∧ Kept w w' (SK g v vx) := by
 have HX := Aside0.mk (BXS.start w (.cells #[.int .i64 W, .int .i64 m] 22 (0, 0)) (.cells #[.int .i64 2, .int .i64 pr, .int .i64 nn, .int .i64 p0, .int .u64 p1, .int .u64 p2, .int .i64 m0, .int .u64 m1, .int .u64 m2] 57 (0, 0)) (SK g v vx))
 have HT := Aside0.mk (h.step (below_alloc (below_alloc (Below.refl _ _) (.cells #[.int .i64 W, .int .i64 m] 22 (0, 0))) (.cells #[.int .i64 2, .int .i64 pr, .int .i64 nn, .int .i64 p0, .int .u64 p1, .int .u64 p2, .int .i64 m0, .int .u64 m1, .int .u64 m2] 57 (0, 0))))
 have HOL := Aside0.mk h.old
 have HO2 := Aside0.mk (show ∀ k, k = g ∨ some k = v.ownBlock → k < w.heap.size from fun k e => by rcases e with rfl | e; exact blk_lt h.tk.blk; exact Kd.R_lt h.tk.row k e.symm)
 have HO3 := Aside0.mk (show ∀ k, k = g ∨ some k = v.ownBlock → SK g v vx k from fun k e => by rcases e with e | e; exact Or.inl e; exact Or.inr (Or.inl e))
 have HRF := Aside0.mk hr
 have PR : ∀ w1, TK w0 w1 g v xs W m → Calls Try.prog 48 #[.pointer (some ⟨g, 0, none⟩), .agg #[.int .i64 p0, .int .u64 p1, .int .u64 p2, .int .i64 m0, .int .u64 m1, .int .u64 m2, .int .i64 pr, .int .i64 nn]] w1 fun e_ w' => e_ = .returned (.int .i64 re) ∧ ∃ v1, TP w0 w1 w' g v v1 (dropL c xs (⟨⟨p0, p1, p2⟩, ⟨m0, m1, m2⟩, pr, nn⟩ : S59)) W m := by
  intro w1 h1
  have := Drop_calls w0 w1 g v xs W m (⟨⟨p0, p1, p2⟩, ⟨m0, m1, m2⟩, pr, nn⟩ : S59) h1 c hm hn hd
  rw [hre] at this
  exact this
 have HPR := Aside0.mk PR
 clear h hr PR hm hre hd
 have n0 := blk_cell HX.out.b0 0
 have n1 := blk_cell HX.out.b0 1
 have o0 := blk_cell HX.out.b1 0
 have o1 := blk_cell HX.out.b1 1
 have o2 := blk_cell HX.out.b1 2
 have o3 := blk_cell HX.out.b1 3
 have o4 := blk_cell HX.out.b1 4
 have o5 := blk_cell HX.out.b1 5
 have o6 := blk_cell HX.out.b1 6
 have o7 := blk_cell HX.out.b1 7
 have o8 := blk_cell HX.out.b1 8
 simp only [List.getElem?_toArray, List.getElem?_cons_succ, List.getElem?_cons_zero] at n0 n1 o0 o1 o2 o3 o4 o5 o6 o7 o8
 go_enter Try.func40, Try.ntmps40
 go_wp2
 have HY := Aside0.mk (show BXS w _ (.cells #[.int .i64 W, .int .i64 m] 22 (0, 0)) (.cells #[.int .i64 2, .int .i64 pr, .int .i64 nn, .int .i64 p0, .int .u64 p1, .int .u64 p2, .int .i64 m0, .int .u64 m1, .int .u64 m2] 57 (0, 0)) (SK g v vx) from HX.out.step (below_drew1 (Below.refl _ _))); have HT2 := Aside0.mk (HT.out.step (below_drew1 (Below.refl _ _))); clear HX HT n0 n1 o0 o1 o2 o3 o4 o5 o6 o7 o8
 refine start_ (n := 12) (S := fun w' => BXS w w' (.cells #[.int .i64 W, .int .i64 m] 22 (0, 0)) (.cells #[.int .i64 2, .int .i64 pr, .int .i64 nn, .int .i64 p0, .int .u64 p1, .int .u64 p2, .int .i64 m0, .int .u64 m1, .int .u64 m2] 57 (0, 0)) (SK g v vx)) (ds := []) #[false, false, false, false, false, false, false, false, false, false, false, false] (by kernel_rfl) rfl rfl HY.out (fun hHeld => ?_)
 generalize World.drew _ = w5 at HY HT2 hHeld ⊢
 refine pl_ [0, 1] ?_
 iterate 2 refine pP rfl rfl (by kernel_rfl) (fun _ _ _ h => h) (by rfl) (by intro w'; go_simp; with_reducible rfl) (by simp only [Act.put, z1, z2, z3, i64_w, i32_w]; rfl) ?_
 refine pl0 ?_
 refine take_ (i := 2) (N := some 62) (v := ?_) (a' := ?_) #[true, true, true, false, false, false, false, false, false, false, false, false] rfl rfl (by kernel_rfl) (fun _ _ _ h => h) (Or.inl ⟨by rfl, ?_⟩) hHeld ?_ ?_
 rotate_left
 ·intro w' hs
  have n0 := blk_cell hs.b0 0
  have n1 := blk_cell hs.b0 1
  simp only [List.getElem?_toArray, List.getElem?_cons_succ, List.getElem?_cons_zero] at n0 n1
  go_simp
  with_reducible rfl
 rotate_left
 ·simp only [Act.put, List.setIfInBounds_toArray, List.set_cons_zero, List.set_cons_succ, i64_w, i32_w]
  rfl
 refine take_ (i := 3) (N := some 63) (v := ?_) (a' := ?_) #[true, true, true, true, false, false, false, false, false, false, false, false] rfl rfl (by kernel_rfl) (fun _ _ _ h => h) (Or.inl ⟨by rfl, ?_⟩) hHeld ?_ ?_
 rotate_left
 ·intro w' hs
  have o0 := blk_cell hs.b1 0
  have o1 := blk_cell hs.b1 1
  have o2 := blk_cell hs.b1 2
  have o3 := blk_cell hs.b1 3
  have o4 := blk_cell hs.b1 4
  have o5 := blk_cell hs.b1 5
  have o6 := blk_cell hs.b1 6
  have o7 := blk_cell hs.b1 7
  have o8 := blk_cell hs.b1 8
  simp only [List.getElem?_toArray, List.getElem?_cons_succ, List.getElem?_cons_zero] at o0 o1 o2 o3 o4 o5 o6 o7 o8
  go_simp
  with_reducible rfl
 rotate_left
 ·simp only [Act.put, List.setIfInBounds_toArray, List.set_cons_zero, List.set_cons_succ, i64_w, i32_w]
  rfl
 refine one_ (i := 4) (N := some 64) #[true, true, true, true, true, false, false, false, false, false, false, false] rfl rfl (by kernel_rfl) (by decide) (fun K hK => ?_)
 refine goes_ Try.func32 (by kernel_rfl) rfl #[.agg #[.int .i64 2, .int .i64 pr, .int .i64 nn, .int .i64 p0, .int .u64 p1, .int .u64 p2, .int .i64 m0, .int .u64 m1, .int .u64 m2]] (by rfl) rfl rfl (by simp only [List.map_toArray, List.map_cons, List.map_nil]; rfl) ?_
 with_reducible refine (shunterlaw21_mine.calls 2 pr nn p0 p1 p2 m0 m1 m2 p0 p1 p2 m0 m1 m2 pr nn _ rfl).mono ?_
 rintro e w1 ⟨rfl, hb⟩
 refine ⟨_, rfl, ?_⟩
 have HX := Aside0.mk (HY.out.step hb)
 have HT := Aside0.mk (HT2.out.step hb)
 clear hb HY HT2
 have HY := Aside0.mk HX.out
 have HT2 := Aside0.mk HT.out
 clear HX HT
 refine hK.out _ _ HY.out (fun hHeld => ?_)
 clear hK K
 refine norm_ (a' := ?_) ?_ ?_
 rotate_left
 ·show Act.put _ (some 64) _ = _
  simp only [Act.put, List.setIfInBounds_toArray, List.set_cons_zero, List.set_cons_succ, i64_w, i32_w]
  rfl
 refine one_ (i := 5) (N := some 65) #[true, true, true, true, true, true, false, false, false, false, false, false] rfl rfl (by kernel_rfl) (by decide) (fun K hK => ?_)
 refine goes_ Try.func45 (by kernel_rfl) rfl #[.agg #[.int .i64 p0, .int .u64 p1, .int .u64 p2, .int .i64 m0, .int .u64 m1, .int .u64 m2, .int .i64 pr, .int .i64 nn]] (by rfl) rfl rfl (by simp only [List.map_toArray, List.map_cons, List.map_nil]; rfl) ?_
 with_reducible refine (shunterlaw21_theirs.calls p0 p1 p2 m0 m1 m2 pr nn p0 p1 p2 m0 m1 m2 pr nn _ rfl).mono ?_
 rintro e w1 ⟨rfl, hb⟩
 refine ⟨_, rfl, ?_⟩
 have HX := Aside0.mk (HY.out.step hb)
 have HT := Aside0.mk (HT2.out.step hb)
 clear hb HY HT2
 have HY := Aside0.mk HX.out
 have HT2 := Aside0.mk HT.out
 clear HX HT
 refine hK.out _ _ HY.out (fun hHeld => ?_)
 clear hK K
 refine norm_ (a' := ?_) ?_ ?_
 rotate_left
 ·show Act.put _ (some 65) _ = _
  simp only [Act.put, List.setIfInBounds_toArray, List.set_cons_zero, List.set_cons_succ, i64_w, i32_w]
  rfl
 refine one_ (i := 6) (N := some 66) #[true, true, true, true, true, true, true, false, false, false, false, false] rfl rfl (by kernel_rfl) (by decide) (fun K hK => ?_)
 refine goes_ Try.func93 (by kernel_rfl) rfl #[vx, .int .i64 W, .agg #[.int .i64 p0, .int .u64 p1, .int .u64 p2, .int .i64 m0, .int .u64 m1, .int .u64 m2, .int .i64 pr, .int .i64 nn]] (by rfl) rfl rfl (by simp only [List.map_toArray, List.map_cons, List.map_nil]; rfl) ?_
 with_reducible refine (shunterref21_Drop.calls kf (fun k => some k = vx.ownBlock) vx x W p0 p1 p2 m0 m1 m2 pr nn _ _ w0 _ HT2.out.tk.below HT2.out.rx HRF.out).mono ?_
 rintro e w1 ⟨v1, rfl, hr, hb, hk⟩
 refine ⟨_, rfl, ?_⟩
 have HX := Aside0.mk (HY.out.kept hk (fun k e => HOL.out k e) (fun k e => .inr (.inr e)))
 have HT := Aside0.mk (HT2.out.ref hr hb hk)
 clear hr hb hk HY HT2
 have HY := Aside0.mk HX.out
 have HT2 := Aside0.mk HT.out
 clear HX HT
 refine hK.out _ _ HY.out (fun hHeld => ?_)
 clear hK K
 refine norm_ (a' := ?_) ?_ ?_
 rotate_left
 ·show Act.put _ (some 66) _ = _
  simp only [Act.put, List.setIfInBounds_toArray, List.set_cons_zero, List.set_cons_succ, i64_w, i32_w]
  rfl
 refine pl_ [7, 8, 9, 10, 11] ?_
 iterate 5 refine pP rfl rfl (by kernel_rfl) (fun _ _ _ h => h) (by rfl) (by intro w'; go_simp; with_reducible rfl) (by simp only [Act.put, z1, z2, z3, i64_w, i32_w]; rfl) ?_
 refine pl0 ?_
 refine done_ (by kernel_rfl) ?_
 have HX := Aside0.mk HY.out
 have HT := Aside0.mk HT2.out
 clear HY HT2 hHeld
 have n0 := blk_cell HX.out.b0 0
 have n1 := blk_cell HX.out.b0 1
 have o0 := blk_cell HX.out.b1 0
 have o1 := blk_cell HX.out.b1 1
 have o2 := blk_cell HX.out.b1 2
 have o3 := blk_cell HX.out.b1 3
 have o4 := blk_cell HX.out.b1 4
 have o5 := blk_cell HX.out.b1 5
 have o6 := blk_cell HX.out.b1 6
 have o7 := blk_cell HX.out.b1 7
 have o8 := blk_cell HX.out.b1 8
 simp only [List.getElem?_toArray, List.getElem?_cons_succ, List.getElem?_cons_zero] at n0 n1 o0 o1 o2 o3 o4 o5 o6 o7 o8
 go_wp2_with (first | (go_at_call 32; with_reducible refine (shunterlaw21_mine.calls 2 pr nn p0 p1 p2 m0 m1 m2 p0 p1 p2 m0 m1 m2 pr nn _ rfl).mono ?_; rintro e_ w1 ⟨rfl, hb⟩; have HY := Aside0.mk (HX.out.step hb); have HT2 := Aside0.mk (HT.out.step hb); clear HX HT hb; (try clear n0 n1 o0 o1 o2 o3 o4 o5 o6 o7 o8); have HX := Aside0.mk HY.out; have HT := Aside0.mk HT2.out; clear HY HT2; have n0 := blk_cell HX.out.b0 0; have n1 := blk_cell HX.out.b0 1; have o0 := blk_cell HX.out.b1 0; have o1 := blk_cell HX.out.b1 1; have o2 := blk_cell HX.out.b1 2; have o3 := blk_cell HX.out.b1 3; have o4 := blk_cell HX.out.b1 4; have o5 := blk_cell HX.out.b1 5; have o6 := blk_cell HX.out.b1 6; have o7 := blk_cell HX.out.b1 7; have o8 := blk_cell HX.out.b1 8; simp only [List.getElem?_toArray, List.getElem?_cons_succ, List.getElem?_cons_zero] at n0 n1 o0 o1 o2 o3 o4 o5 o6 o7 o8) | (go_at_call 48; with_reducible refine (HPR.out _ HT.out.tk).mono ?_; rintro e_ w2 ⟨rfl, v3, hp⟩; have HT2 := Aside0.mk (HT.out.prog hp); have HY := Aside0.mk (HX.out.kept hp.kept HO2.out HO3.out); clear HX HT hp; (try clear n0 n1 o0 o1 o2 o3 o4 o5 o6 o7 o8); have HX := Aside0.mk HY.out; have HT := Aside0.mk HT2.out; clear HY HT2; have n0 := blk_cell HX.out.b0 0; have n1 := blk_cell HX.out.b0 1; have o0 := blk_cell HX.out.b1 0; have o1 := blk_cell HX.out.b1 1; have o2 := blk_cell HX.out.b1 2; have o3 := blk_cell HX.out.b1 3; have o4 := blk_cell HX.out.b1 4; have o5 := blk_cell HX.out.b1 5; have o6 := blk_cell HX.out.b1 6; have o7 := blk_cell HX.out.b1 7; have o8 := blk_cell HX.out.b1 8; simp only [List.getElem?_toArray, List.getElem?_cons_succ, List.getElem?_cons_zero] at n0 n1 o0 o1 o2 o3 o4 o5 o6 o7 o8))
 go_ret2
 exact ⟨_, _, rfl, HT.out, HX.out.kp⟩
set_option maxHeartbeats 1000000 in
set_option maxRecDepth 100000 in
theorem step_none (w0 w : World) (g kf : Nat) (v vx : Value) (xs : List S59) (x : List S78) (W m : Int) (kd pr nn p0 p1 p2 m0 m1 m2 : Int) (q : S59 → Bool) (h : ST w0 w g v vx xs x W m) (hn : xs.length ≤ 1000) (k0 : (kd == 0) = false) (k1 : (kd == 1) = false) (k2 : (kd == 2) = false) (hp : ∀ y ∈ xs, vec_Meets.f p0 p1 p2 y.f0.f0 y.f0.f1 y.f0.f2 y.f1.f0 y.f1.f1 y.f1.f2 = some (q y)) (hr : shunterref21_Get.f kf x p0 p1 p2 = some (-1)) (ga gb : Int) (gc : Bool) (hg : getA q xs = (ga, gb, gc)) :
 Calls Try.prog 40 #[.pointer (some ⟨g, 0, none⟩), vx, .agg #[.int .i64 W, .int .i64 m], .agg #[.int .i64 kd, .int .i64 pr, .int .i64 nn, .int .i64 p0, .int .u64 p1, .int .u64 p2, .int .i64 m0, .int .u64 m1, .int .u64 m2]] w fun e_ w' => ∃ bb : Bool, e_ = .returned (.tuple #[vx, .bool bb]) ∧ (ga = 0 → gb = 0 → gc = false → bb = true) ∧ ST w0 w' g v vx xs x W m ∧ Kept w w' (SK g v vx) := by
 have HX := Aside0.mk (BXS.start w (.cells #[.int .i64 W, .int .i64 m] 22 (0, 0)) (.cells #[.int .i64 kd, .int .i64 pr, .int .i64 nn, .int .i64 p0, .int .u64 p1, .int .u64 p2, .int .i64 m0, .int .u64 m1, .int .u64 m2] 57 (0, 0)) (SK g v vx))
 have HT := Aside0.mk (h.step (below_alloc (below_alloc (Below.refl _ _) (.cells #[.int .i64 W, .int .i64 m] 22 (0, 0))) (.cells #[.int .i64 kd, .int .i64 pr, .int .i64 nn, .int .i64 p0, .int .u64 p1, .int .u64 p2, .int .i64 m0, .int .u64 m1, .int .u64 m2] 57 (0, 0))))
 have HRF := Aside0.mk hr
 obtain ⟨Ax, cx, rfl⟩ := Kd.R_slice h.rx
 have PG : ∀ w1, TK w0 w1 g v xs W m → Calls Try.prog 41 #[.pointer (some ⟨g, 0, none⟩), .agg #[.int .i64 p0, .int .u64 p1, .int .u64 p2]] w1 fun e_ w' => e_ = .returned (.tuple #[.int .i64 ga, .int .i64 gb, .bool gc]) ∧ Below w1.heap.size w1 w' := by
  intro w1 h1
  have := Get_calls w0 w1 g v xs W m p0 p1 p2 q h1 hn hp
  rw [hg] at this
  exact this
 have HPG := Aside0.mk PG
 clear h hr PG hp hg
 have n0 := blk_cell HX.out.b0 0
 have n1 := blk_cell HX.out.b0 1
 have o0 := blk_cell HX.out.b1 0
 have o1 := blk_cell HX.out.b1 1
 have o2 := blk_cell HX.out.b1 2
 have o3 := blk_cell HX.out.b1 3
 have o4 := blk_cell HX.out.b1 4
 have o5 := blk_cell HX.out.b1 5
 have o6 := blk_cell HX.out.b1 6
 have o7 := blk_cell HX.out.b1 7
 have o8 := blk_cell HX.out.b1 8
 simp only [List.getElem?_toArray, List.getElem?_cons_succ, List.getElem?_cons_zero] at n0 n1 o0 o1 o2 o3 o4 o5 o6 o7 o8
 cases h1 : (ga == 0) <;> cases h2 : (gb == 0) <;> cases gc <;>
  (go_enter Try.func40, Try.ntmps40; go_wp2_with (first | (go_at_call 41; with_reducible refine (HPG.out _ HT.out.tk).mono ?_; rintro e_ w1 ⟨rfl, hb⟩; have HY := Aside0.mk (HX.out.step hb); have HT2 := Aside0.mk (HT.out.step hb); clear HX HT hb; (try clear n0 n1 o0 o1 o2 o3 o4 o5 o6 o7 o8); have HX := Aside0.mk HY.out; have HT := Aside0.mk HT2.out; clear HY HT2; have n0 := blk_cell HX.out.b0 0; have n1 := blk_cell HX.out.b0 1; have o0 := blk_cell HX.out.b1 0; have o1 := blk_cell HX.out.b1 1; have o2 := blk_cell HX.out.b1 2; have o3 := blk_cell HX.out.b1 3; have o4 := blk_cell HX.out.b1 4; have o5 := blk_cell HX.out.b1 5; have o6 := blk_cell HX.out.b1 6; have o7 := blk_cell HX.out.b1 7; have o8 := blk_cell HX.out.b1 8; simp only [List.getElem?_toArray, List.getElem?_cons_succ, List.getElem?_cons_zero] at n0 n1 o0 o1 o2 o3 o4 o5 o6 o7 o8) | (go_at_call 94; with_reducible refine (shunterref21_Get.calls kf Ax cx x p0 p1 p2 (-1) _ (Kd.R_reads' HT.out.rx).2.2 (Kd.R_reads' HT.out.rx).2.1 HRF.out).mono ?_; rintro e_ w2 ⟨rfl, hb⟩; have HY := Aside0.mk (HX.out.step hb); have HT2 := Aside0.mk (HT.out.step hb); clear HX HT hb; (try clear n0 n1 o0 o1 o2 o3 o4 o5 o6 o7 o8); have HX := Aside0.mk HY.out; have HT := Aside0.mk HT2.out; clear HY HT2; have n0 := blk_cell HX.out.b0 0; have n1 := blk_cell HX.out.b0 1; have o0 := blk_cell HX.out.b1 0; have o1 := blk_cell HX.out.b1 1; have o2 := blk_cell HX.out.b1 2; have o3 := blk_cell HX.out.b1 3; have o4 := blk_cell HX.out.b1 4; have o5 := blk_cell HX.out.b1 5; have o6 := blk_cell HX.out.b1 6; have o7 := blk_cell HX.out.b1 7; have o8 := blk_cell HX.out.b1 8; simp only [List.getElem?_toArray, List.getElem?_cons_succ, List.getElem?_cons_zero] at n0 n1 o0 o1 o2 o3 o4 o5 o6 o7 o8)); go_ret2; exact ⟨_, rfl, (by intro a b c; first | rfl | (rw [a] at h1; simp at h1; done) | (rw [b] at h2; simp at h2; done) | (cases c; done)), HT.out, HX.out.kp⟩)
theorem rd78 (l : List S78) (i : Nat) (h : i < l.length) : rd_T78 l (i : Int) = l[i] := by simp [rd_T78, List.getD_eq_getElem?_getD, h]
set_option maxHeartbeats 1000000 in
set_option maxRecDepth 100000 in
theorem step_found (w0 w : World) (g kf : Nat) (v vx : Value) (xs : List S59) (x : List S78) (W m : Int) (kd pr nn p0 p1 p2 m0 m1 m2 : Int) (q : S59 → Bool) (h : ST w0 w g v vx xs x W m) (hn : xs.length ≤ 1000) (k0 : (kd == 0) = false) (k1 : (kd == 1) = false) (k2 : (kd == 2) = false) (hp : ∀ y ∈ xs, vec_Meets.f p0 p1 p2 y.f0.f0 y.f0.f1 y.f0.f2 y.f1.f0 y.f1.f1 y.f1.f2 = some (q y)) (j : Nat) (hj : j < x.length) (hr : shunterref21_Get.f kf x p0 p1 p2 = some (j : Int)) (ga gb : Int) (gc : Bool) (hg : getA q xs = (ga, gb, gc)) :
 Calls Try.prog 40 #[.pointer (some ⟨g, 0, none⟩), vx, .agg #[.int .i64 W, .int .i64 m], .agg #[.int .i64 kd, .int .i64 pr, .int .i64 nn, .int .i64 p0, .int .u64 p1, .int .u64 p2, .int .i64 m0, .int .u64 m1, .int .u64 m2]] w fun e_ w' => ∃ bb : Bool, e_ = .returned (.tuple #[vx, .bool bb]) ∧ (ga = (x[j]).f3 → gb = (x[j]).f2 → gc = true → bb = true) ∧ ST w0 w' g v vx xs x W m ∧ Kept w w' (SK g v vx) := by
 have HX := Aside0.mk (BXS.start w (.cells #[.int .i64 W, .int .i64 m] 22 (0, 0)) (.cells #[.int .i64 kd, .int .i64 pr, .int .i64 nn, .int .i64 p0, .int .u64 p1, .int .u64 p2, .int .i64 m0, .int .u64 m1, .int .u64 m2] 57 (0, 0)) (SK g v vx))
 have HT := Aside0.mk (h.step (below_alloc (below_alloc (Below.refl _ _) (.cells #[.int .i64 W, .int .i64 m] 22 (0, 0))) (.cells #[.int .i64 kd, .int .i64 pr, .int .i64 nn, .int .i64 p0, .int .u64 p1, .int .u64 p2, .int .i64 m0, .int .u64 m1, .int .u64 m2] 57 (0, 0))))
 have HRF := Aside0.mk hr
 obtain ⟨Ax, cx, rfl⟩ := Kd.R_slice h.rx
 have PG : ∀ w1, TK w0 w1 g v xs W m → Calls Try.prog 41 #[.pointer (some ⟨g, 0, none⟩), .agg #[.int .i64 p0, .int .u64 p1, .int .u64 p2]] w1 fun e_ w' => e_ = .returned (.tuple #[.int .i64 ga, .int .i64 gb, .bool gc]) ∧ Below w1.heap.size w1 w' := by
  intro w1 h1
  have := Get_calls w0 w1 g v xs W m p0 p1 p2 q h1 hn hp
  rw [hg] at this
  exact this
 have HPG := Aside0.mk PG
 clear h hr PG hp hg
 have hj0 : 0 ≤ (j : Int) := by omega
 have hjl : (j : Int) < (x.length : Int) := by omega
 have hjn : decide ((j : Int) < 0) = false := by simp
 have HXJ := Aside0.mk (rd78 x j hj)
 generalize x[j] = y at *
 have n0 := blk_cell HX.out.b0 0
 have n1 := blk_cell HX.out.b0 1
 have o0 := blk_cell HX.out.b1 0
 have o1 := blk_cell HX.out.b1 1
 have o2 := blk_cell HX.out.b1 2
 have o3 := blk_cell HX.out.b1 3
 have o4 := blk_cell HX.out.b1 4
 have o5 := blk_cell HX.out.b1 5
 have o6 := blk_cell HX.out.b1 6
 have o7 := blk_cell HX.out.b1 7
 have o8 := blk_cell HX.out.b1 8
 simp only [List.getElem?_toArray, List.getElem?_cons_succ, List.getElem?_cons_zero] at n0 n1 o0 o1 o2 o3 o4 o5 o6 o7 o8
 cases h1 : (ga == y.f3) <;> cases h2 : (gb == y.f2) <;> cases gc <;>
  (go_enter Try.func40, Try.ntmps40; go_wp2_with (first | (go_at_call 41; with_reducible refine (HPG.out _ HT.out.tk).mono ?_; rintro e_ w1 ⟨rfl, hb⟩; have HY := Aside0.mk (HX.out.step hb); have HT2 := Aside0.mk (HT.out.step hb); clear HX HT hb; (try clear n0 n1 o0 o1 o2 o3 o4 o5 o6 o7 o8); have HX := Aside0.mk HY.out; have HT := Aside0.mk HT2.out; clear HY HT2; have n0 := blk_cell HX.out.b0 0; have n1 := blk_cell HX.out.b0 1; have o0 := blk_cell HX.out.b1 0; have o1 := blk_cell HX.out.b1 1; have o2 := blk_cell HX.out.b1 2; have o3 := blk_cell HX.out.b1 3; have o4 := blk_cell HX.out.b1 4; have o5 := blk_cell HX.out.b1 5; have o6 := blk_cell HX.out.b1 6; have o7 := blk_cell HX.out.b1 7; have o8 := blk_cell HX.out.b1 8; simp only [List.getElem?_toArray, List.getElem?_cons_succ, List.getElem?_cons_zero] at n0 n1 o0 o1 o2 o3 o4 o5 o6 o7 o8) | (go_at_call 94; with_reducible refine (shunterref21_Get.calls kf Ax cx x p0 p1 p2 (j : Int) _ (Kd.R_reads' HT.out.rx).2.2 (Kd.R_reads' HT.out.rx).2.1 HRF.out).mono ?_; rintro e_ w2 ⟨rfl, hb⟩; have HY := Aside0.mk (HX.out.step hb); have HT2 := Aside0.mk (HT.out.step hb); clear HX HT hb; (try clear n0 n1 o0 o1 o2 o3 o4 o5 o6 o7 o8); have HX := Aside0.mk HY.out; have HT := Aside0.mk HT2.out; clear HY HT2; have n0 := blk_cell HX.out.b0 0; have n1 := blk_cell HX.out.b0 1; have o0 := blk_cell HX.out.b1 0; have o1 := blk_cell HX.out.b1 1; have o2 := blk_cell HX.out.b1 2; have o3 := blk_cell HX.out.b1 3; have o4 := blk_cell HX.out.b1 4; have o5 := blk_cell HX.out.b1 5; have o6 := blk_cell HX.out.b1 6; have o7 := blk_cell HX.out.b1 7; have o8 := blk_cell HX.out.b1 8; simp only [List.getElem?_toArray, List.getElem?_cons_succ, List.getElem?_cons_zero] at n0 n1 o0 o1 o2 o3 o4 o5 o6 o7 o8; obtain ⟨ad, hA, s0, s1, s2, s3, s4, s5, s6, s7⟩ := at_T78 (Kd.R_reads' HT.out.rx).2.2 (j : Int) hj0 hjl; subst hA; rw [Int.toNat_natCast] at s0 s1 s2 s3 s4 s5 s6 s7; rw [HXJ.out] at s0 s1 s2 s3 s4 s5 s6 s7)); go_ret2; exact ⟨_, rfl, (by intro a b c; first | rfl | (rw [a] at h1; simp at h1; done) | (rw [b] at h2; simp at h2; done) | (cases c; done)), HT.out, HX.out.kp⟩)
end Go.Proofs.Ytfdbcnbakchcgaa.XT
