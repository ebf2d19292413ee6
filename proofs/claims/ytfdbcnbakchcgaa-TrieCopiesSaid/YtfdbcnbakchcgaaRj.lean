import Derived.Test.YtfdbcnbakchcgaaRi
namespace Go.Proofs.Ytfdbcnbakchcgaa.XR
open Go.RowKit Go.Proofs.YtfdbcnbakchcgaaW.PrintWords Go.Proofs.YtfdbcnbakchcgaaW.PrintLast Go.Proofs.YtfdbcnbakchcgaaW.PrintMore
attribute [local go_sem] max2_int min2_int max_two min_two max_three min_three max_four min_four   -- for this text's walks alone
set_option linter.unusedVariables false
set_option linter.unusedSimpArgs false
/-- Then b is true. -/
def impB (p q r : Prop) (b : Bool) : Prop := p → q → r → b = true
def outB (e : Ending) (v : Value) (P : Bool → Prop) : Prop := ∃ bb, e = .returned (.tuple #[v, .bool bb]) ∧ P bb
theorem R45_only {w : World} {base : Nat} {ok : Nat → Prop} {v : Value} {xs : List S45} (h : Kd.R k45 45 w base ok v xs) : Kd.R k45 45 w base (fun k => some k = v.ownBlock) v xs :=
 ⟨fun k hk => hk.symm, h.2.imp_ (fun x _ hp => by have e := k45_openM hp; subst e; exact k45_mkM _ _ _ x)⟩
theorem R_blk {α : Type} {d : Kd α} {e : Nat} {w : World} {base : Nat} {ok : Nat → Prop} {v : Value} {xs : List α} (h : Kd.R d e w base ok v xs) (k : Nat) (hk : some k = v.ownBlock) : ∃ cur, w.heap[k]? = some (.cells cur e (0, 0)) := by
 obtain ⟨_, inner, hown, _⟩ := h
 rcases hown.2 with ⟨hv, _⟩ | ⟨g, cap, cur, hv, hb, hh, _⟩
 ·rw [hv] at hk; cases hk
 ·rw [hv] at hk
  have : k = g := by simpa [Value.ownBlock] using hk
  subst this
  exact ⟨cur, hh⟩
/-- The trie (its prefixes p) and the reference's list x. -/
structure STt (w0 w : World) (g : Nat) (M : NM) (vx : Value) (p x : List S45) (W : Nat) (m : Int) : Prop where
 kt : KT w0 w g M (W : Int) m (p.length : Int)
 sh : SH M (p.map (toTI W))
 rx : Kd.R k45 45 w w0.heap.size (fun k => some k = vx.ownBlock) vx x
theorem STt.step {w0 w w1 : World} {g : Nat} {M : NM} {vx : Value} {p x : List S45} {W : Nat} {m : Int} (h : STt w0 w g M vx p x W m) (hb : Below w.heap.size w w1) : STt w0 w1 g M vx p x W m :=
 ⟨h.kt.step hb, h.sh, Kd.R_below h.rx hb⟩
/-- The blocks that a step writes. -/
def SKt (g : Nat) (M : NM) (vx : Value) (k : Nat) : Prop := SKm g M k ∨ some k = vx.ownBlock
theorem STt.apart {w0 w : World} {g : Nat} {M : NM} {vx : Value} {p x : List S45} {W : Nat} {m : Int} (h : STt w0 w g M vx p x W m) (k : Nat) (e : some k = vx.ownBlock) : ¬ SKm g M k := by
 obtain ⟨cur, hc⟩ := R_blk h.rx k e
 rintro (e2 | ⟨i, c, ⟨b, h1, n⟩, hm, rfl⟩)
 ·subst e2; exact blk_ne hc h.kt.blk (by decide) rfl
 ·exact blk_ne hc (h.kt.nt.cell i c b h1 n hm) (by decide) rfl
/-- The reference has gone on. -/
theorem STt.ref {w0 w w1 : World} {g : Nat} {M : NM} {vx v1 : Value} {p x x1 : List S45} {W : Nat} {m : Int} (h : STt w0 w g M vx p x W m) (hr : Kd.R k45 45 w1 w0.heap.size (fun k => some k = vx.ownBlock ∨ w.heap.size ≤ k) v1 x1) (hb : Below w0.heap.size w0 w1) (hk : Kept w w1 (fun k => some k = vx.ownBlock)) : STt w0 w1 g M v1 p x1 W m :=
 ⟨⟨blk_kept h.kt.blk hk (fun e => h.apart _ e (.inl rfl)), h.kt.nt.kept hk (fun q hq e => h.apart q e (.inr hq)), h.kt.ge, hb⟩, h.sh, R45_only hr⟩
/-- The program has gone on. -/
theorem STt.prog {w0 w w1 : World} {g : Nat} {M M1 : NM} {vx : Value} {p p1 x : List S45} {W : Nat} {m N1 : Int} (h : STt w0 w g M vx p x W m) (hk : KT w0 w1 g M1 (W : Int) m N1) (hn : N1 = (p1.length : Int)) (hs : SH M1 (p1.map (toTI W))) (hp : Kept w w1 (SKm g M)) : STt w0 w1 g M1 vx p1 x W m :=
 ⟨by rw [← hn]; exact hk, hs, Kd.R_kept h.rx hp (fun k e1 e2 => h.apart k e1 e2)⟩
/-- A block of another type stays. -/
theorem STt.keep {w0 w w1 : World} {g : Nat} {M : NM} {vx : Value} {p x : List S45} {W : Nat} {m : Int} (h : STt w0 w g M vx p x W m) (hk : Kept w w1 (SKt g M vx)) {gn : Nat} {cs : Array Value} {t : TypeId} (hb : w.heap[gn]? = some (.cells cs t (0, 0))) (h1 : t ≠ 116) (h2 : t ≠ 118) (h3 : t ≠ 45) : w1.heap[gn]? = some (.cells cs t (0, 0)) := by
 refine blk_kept hb hk (fun e => ?_)
 rcases e with (e | ⟨i, c, ⟨b, h4, n⟩, hm, e⟩) | e
 ·subst e; exact blk_ne hb h.kt.blk h2 rfl
 ·subst e; exact blk_ne hb (h.kt.nt.cell i c b h4 n hm) h1 rfl
 ·obtain ⟨cur, hc⟩ := R_blk h.rx _ e; exact blk_ne hb hc h3 rfl
/-- Three blocks of this call's own, and what is kept. -/
structure BXT (w W : World) (a b c : Obj) (S : Nat → Prop) : Prop where
 b0 : W.heap[w.heap.size]? = some a
 b1 : W.heap[w.heap.size + 1]? = some b
 b2 : W.heap[w.heap.size + 2]? = some c
 kp : Kept w W S
theorem BXT.start (w : World) (a b c : Obj) (S : Nat → Prop) : BXT w (((w.alloc a).alloc b).alloc c) a b c S := by
 have h1 : (w.alloc a).heap.size = w.heap.size + 1 := by simp
 have h2 : ((w.alloc a).alloc b).heap.size = w.heap.size + 2 := by simp
 refine ⟨blk_alloc (blk_alloc (blk_new w a) b) c, blk_alloc ?_ c, ?_, Kept.of_below (below_alloc (below_alloc (below_alloc (Below.refl _ _) a) b) c) S⟩
 ·have := blk_new (w.alloc a) b
  rwa [h1] at this
 ·have := blk_new ((w.alloc a).alloc b) c
  rwa [h2] at this
theorem BXT.step {w W W1 : World} {a b c : Obj} {S : Nat → Prop} (h : BXT w W a b c S) (hb : Below W.heap.size W W1) : BXT w W1 a b c S := ⟨blk_below h.b0 hb, blk_below h.b1 hb, blk_below h.b2 hb, h.kp.below hb⟩
theorem BXT.kept {w W W1 : World} {a b c : Obj} {S T : Nat → Prop} (h : BXT w W a b c T) (hk : Kept W W1 S) (hs : ∀ k, S k → k < w.heap.size) (ht : ∀ k, S k → T k) : BXT w W1 a b c T :=
 ⟨blk_kept h.b0 hk (fun e => by have := hs _ e; omega), blk_kept h.b1 hk (fun e => by have := hs _ e; omega), blk_kept h.b2 hk (fun e => by have := hs _ e; omega), h.kp.then_ hk (fun k e => .inl (ht k e))⟩
theorem STt.old {w0 w : World} {g : Nat} {M : NM} {vx : Value} {p x : List S45} {W : Nat} {m : Int} (h : STt w0 w g M vx p x W m) : ∀ k, SKt g M vx k → k < w.heap.size := by
 rintro k ((e | e) | e)
 ·subst e; exact blk_lt h.kt.blk
 ·exact h.kt.nt.lt e
 ·exact Kd.R_lt h.rx k e.symm
theorem two_b1 (w : World) (a b : Obj) : ((w.alloc a).alloc b).heap[w.heap.size + 1]? = some b := by
 have h1 : (w.alloc a).heap.size = w.heap.size + 1 := by simp
 have := blk_new (w.alloc a) b
 rwa [h1] at this
set_option maxHeartbeats 1000000 in
set_option maxRecDepth 100000 in
theorem tstep_put (w0 w : World) (g kf : Nat) (M : NM) (vx : Value) (p x : List S45) (W X : Nat) (m ln nn k0 : Int) (h : STt w0 w g M vx p x W m) (x1 p1 : List S45) (e re N1 : Int) (bb : Bool) (hN : N1 = (p1.length : Int)) (hr : shunterref20_Put.f kf x (W : Int) m k0 (hiW X) (loW X) ln nn = some (x1, e)) (he : (re == e) = bb)
 (hp : ∀ w1, KT w0 w1 g M (W : Int) m (p.length : Int) → Calls Try.prog 28 #[.pointer (some ⟨g, 0, none⟩), .agg #[.int .i64 k0, .int .u64 (hiW X), .int .u64 (loW X)], .int .i64 ln, .int .i64 nn] w1 fun e_ w' => e_ = .returned (.int .i64 re) ∧ ∃ M1, KT w0 w' g M1 (W : Int) m N1 ∧ SH M1 (p1.map (toTI W)) ∧ Kept w1 w' (SKm g M)) :
 Calls Try.prog 18 #[.pointer (some ⟨g, 0, none⟩), vx, .agg #[.int .i64 (W : Int), .int .i64 m], .agg #[.int .i64 0, .int .i64 ln, .int .i64 nn, .int .i64 k0, .int .u64 (hiW X), .int .u64 (loW X)]] w fun e_ w' => ∃ M1 vx1, e_ = .returned (.tuple #[vx1, .bool bb]) ∧ STt w0 w' g M1 vx1 p1 x1 W m ∧ Kept w w' (SKt g M vx) := by
 have HX := Aside0.mk (BXT.start w (.cells #[.int .i64 (W : Int), .int .i64 m] 22 (0, 0)) (.cells #[.int .i64 0, .int .i64 ln, .int .i64 nn, .int .i64 k0, .int .u64 (hiW X), .int .u64 (loW X)] 34 (0, 0)) (.cells #[.int .i64 k0, .int .u64 (hiW X), .int .u64 (loW X), .int .i64 ln, .int .i64 nn] 45 (0, 0)) (SKt g M vx))
 have HT := Aside0.mk (h.step (below_alloc (below_alloc (below_alloc (Below.refl _ _) (.cells #[.int .i64 (W : Int), .int .i64 m] 22 (0, 0))) (.cells #[.int .i64 0, .int .i64 ln, .int .i64 nn, .int .i64 k0, .int .u64 (hiW X), .int .u64 (loW X)] 34 (0, 0))) (.cells #[.int .i64 k0, .int .u64 (hiW X), .int .u64 (loW X), .int .i64 ln, .int .i64 nn] 45 (0, 0))))
 have HOL := Aside0.mk h.old
 have HR1 := Aside0.mk (show ∀ k, some k = vx.ownBlock → k < w.heap.size from fun k e => h.old k (show SKm g M k ∨ some k = vx.ownBlock from Or.inr e))
 have HR2 := Aside0.mk (show ∀ k, some k = vx.ownBlock → SKt g M vx k from fun k e => (show SKm g M k ∨ some k = vx.ownBlock from Or.inr e))
 have HP1 := Aside0.mk (show ∀ k, SKm g M k → k < w.heap.size from fun k e => h.old k (show SKm g M k ∨ some k = vx.ownBlock from Or.inl e))
 have HP2 := Aside0.mk (show ∀ k, SKm g M k → SKt g M vx k from fun k e => (show SKm g M k ∨ some k = vx.ownBlock from Or.inl e))
 have HRF := Aside0.mk hr
 have HPR := Aside0.mk hp
 have HN1 := Aside0.mk hN
 clear h hr hp hN
 have q0 := blk_cell (two_b1 w (.cells #[.int .i64 (W : Int), .int .i64 m] 22 (0, 0)) (.cells #[.int .i64 0, .int .i64 ln, .int .i64 nn, .int .i64 k0, .int .u64 (hiW X), .int .u64 (loW X)] 34 (0, 0))) 0
 have q1 := blk_cell (two_b1 w (.cells #[.int .i64 (W : Int), .int .i64 m] 22 (0, 0)) (.cells #[.int .i64 0, .int .i64 ln, .int .i64 nn, .int .i64 k0, .int .u64 (hiW X), .int .u64 (loW X)] 34 (0, 0))) 1
 have q2 := blk_cell (two_b1 w (.cells #[.int .i64 (W : Int), .int .i64 m] 22 (0, 0)) (.cells #[.int .i64 0, .int .i64 ln, .int .i64 nn, .int .i64 k0, .int .u64 (hiW X), .int .u64 (loW X)] 34 (0, 0))) 2
 have q3 := blk_cell (two_b1 w (.cells #[.int .i64 (W : Int), .int .i64 m] 22 (0, 0)) (.cells #[.int .i64 0, .int .i64 ln, .int .i64 nn, .int .i64 k0, .int .u64 (hiW X), .int .u64 (loW X)] 34 (0, 0))) 3
 have q4 := blk_cell (two_b1 w (.cells #[.int .i64 (W : Int), .int .i64 m] 22 (0, 0)) (.cells #[.int .i64 0, .int .i64 ln, .int .i64 nn, .int .i64 k0, .int .u64 (hiW X), .int .u64 (loW X)] 34 (0, 0))) 4
 have q5 := blk_cell (two_b1 w (.cells #[.int .i64 (W : Int), .int .i64 m] 22 (0, 0)) (.cells #[.int .i64 0, .int .i64 ln, .int .i64 nn, .int .i64 k0, .int .u64 (hiW X), .int .u64 (loW X)] 34 (0, 0))) 5
 simp only [List.getElem?_toArray, List.getElem?_cons_succ, List.getElem?_cons_zero] at q0 q1 q2 q3 q4 q5
 go_enter Try.func18, Try.ntmps18
 go_upto_region 2 with (first | (go_at_call 67; skip))
 generalize ((w.alloc (.cells #[.int .i64 (W : Int), .int .i64 m] 22 (0, 0))).alloc (.cells #[.int .i64 0, .int .i64 ln, .int .i64 nn, .int .i64 k0, .int .u64 (hiW X), .int .u64 (loW X)] 34 (0, 0))).alloc (.cells #[.int .i64 k0, .int .u64 (hiW X), .int .u64 (loW X), .int .i64 ln, .int .i64 nn] 45 (0, 0)) = wz at HX HT ⊢
 clear q0 q1 q2 q3 q4 q5
 have n0 := blk_cell HX.out.b0 0
 have n1 := blk_cell HX.out.b0 1
 have o0 := blk_cell HX.out.b1 0
 have o1 := blk_cell HX.out.b1 1
 have o2 := blk_cell HX.out.b1 2
 have o3 := blk_cell HX.out.b1 3
 have o4 := blk_cell HX.out.b1 4
 have o5 := blk_cell HX.out.b1 5
 have t0 := blk_cell HX.out.b2 0
 have t1 := blk_cell HX.out.b2 1
 have t2 := blk_cell HX.out.b2 2
 have t3 := blk_cell HX.out.b2 3
 have t4 := blk_cell HX.out.b2 4
 simp only [List.getElem?_toArray, List.getElem?_cons_succ, List.getElem?_cons_zero] at n0 n1 o0 o1 o2 o3 o4 o5 t0 t1 t2 t3 t4
 go_wp2_with (first | (go_at_call 67; with_reducible refine (shunterref20_Put.calls kf (fun k => some k = vx.ownBlock) vx x (W : Int) m k0 (hiW X) (loW X) ln nn _ _ w0 _ HT.out.kt.below HT.out.rx HRF.out).mono ?_; rintro e_ w1 ⟨v1, rfl, hr, hb, hk⟩; have HY := Aside0.mk (HX.out.kept hk HR1.out HR2.out); have HT2 := Aside0.mk (HT.out.ref hr hb hk); clear hr hb hk HX HT; clear n0 n1 o0 o1 o2 o3 o4 o5 t0 t1 t2 t3 t4; have HX := Aside0.mk HY.out; have HT := Aside0.mk HT2.out; clear HY HT2; have n0 := blk_cell HX.out.b0 0; have n1 := blk_cell HX.out.b0 1; have o0 := blk_cell HX.out.b1 0; have o1 := blk_cell HX.out.b1 1; have o2 := blk_cell HX.out.b1 2; have o3 := blk_cell HX.out.b1 3; have o4 := blk_cell HX.out.b1 4; have o5 := blk_cell HX.out.b1 5; have t0 := blk_cell HX.out.b2 0; have t1 := blk_cell HX.out.b2 1; have t2 := blk_cell HX.out.b2 2; have t3 := blk_cell HX.out.b2 3; have t4 := blk_cell HX.out.b2 4; simp only [List.getElem?_toArray, List.getElem?_cons_succ, List.getElem?_cons_zero] at n0 n1 o0 o1 o2 o3 o4 o5 t0 t1 t2 t3 t4) | (go_at_call 28; with_reducible refine (HPR.out _ HT.out.kt).mono ?_; rintro e_ w2 ⟨rfl, M1, hk1, hs1, hkp⟩; have HY := Aside0.mk (HX.out.kept hkp HP1.out HP2.out); have HT2 := Aside0.mk (HT.out.prog hk1 HN1.out hs1 hkp); clear hk1 hs1 hkp HX HT; clear n0 n1 o0 o1 o2 o3 o4 o5 t0 t1 t2 t3 t4; have HX := Aside0.mk HY.out; have HT := Aside0.mk HT2.out; clear HY HT2; have n0 := blk_cell HX.out.b0 0; have n1 := blk_cell HX.out.b0 1; have o0 := blk_cell HX.out.b1 0; have o1 := blk_cell HX.out.b1 1; have o2 := blk_cell HX.out.b1 2; have o3 := blk_cell HX.out.b1 3; have o4 := blk_cell HX.out.b1 4; have o5 := blk_cell HX.out.b1 5; have t0 := blk_cell HX.out.b2 0; have t1 := blk_cell HX.out.b2 1; have t2 := blk_cell HX.out.b2 2; have t3 := blk_cell HX.out.b2 3; have t4 := blk_cell HX.out.b2 4; simp only [List.getElem?_toArray, List.getElem?_cons_succ, List.getElem?_cons_zero] at n0 n1 o0 o1 o2 o3 o4 o5 t0 t1 t2 t3 t4))
 go_ret2
 exact ⟨_, _, rfl, HT.out, HX.out.kp⟩
set_option maxHeartbeats 1000000 in
set_option maxRecDepth 100000 in
theorem tstep_set (w0 w : World) (g kf : Nat) (M : NM) (vx : Value) (p x : List S45) (W X : Nat) (m ln nn k0 : Int) (h : STt w0 w g M vx p x W m) (x1 p1 : List S45) (e re N1 : Int) (bb : Bool) (hN : N1 = (p1.length : Int)) (hr : shunterref20_Set.f kf x (W : Int) k0 (hiW X) (loW X) ln nn = some (x1, e)) (he : (re == e) = bb)
 (hp : ∀ w1, KT w0 w1 g M (W : Int) m (p.length : Int) → Calls Try.prog 30 #[.pointer (some ⟨g, 0, none⟩), .agg #[.int .i64 k0, .int .u64 (hiW X), .int .u64 (loW X)], .int .i64 ln, .int .i64 nn] w1 fun e_ w' => e_ = .returned (.int .i64 re) ∧ ∃ M1, KT w0 w' g M1 (W : Int) m N1 ∧ SH M1 (p1.map (toTI W)) ∧ Kept w1 w' (SKm g M)) :
 Calls Try.prog 18 #[.pointer (some ⟨g, 0, none⟩), vx, .agg #[.int .i64 (W : Int), .int .i64 m], .agg #[.int .i64 1, .int .i64 ln, .int .i64 nn, .int .i64 k0, .int .u64 (hiW X), .int .u64 (loW X)]] w fun e_ w' => ∃ M1 vx1, e_ = .returned (.tuple #[vx1, .bool bb]) ∧ STt w0 w' g M1 vx1 p1 x1 W m ∧ Kept w w' (SKt g M vx) := by
 have HX := Aside0.mk (BXT.start w (.cells #[.int .i64 (W : Int), .int .i64 m] 22 (0, 0)) (.cells #[.int .i64 1, .int .i64 ln, .int .i64 nn, .int .i64 k0, .int .u64 (hiW X), .int .u64 (loW X)] 34 (0, 0)) (.cells #[.int .i64 k0, .int .u64 (hiW X), .int .u64 (loW X), .int .i64 ln, .int .i64 nn] 45 (0, 0)) (SKt g M vx))
 have HT := Aside0.mk (h.step (below_alloc (below_alloc (below_alloc (Below.refl _ _) (.cells #[.int .i64 (W : Int), .int .i64 m] 22 (0, 0))) (.cells #[.int .i64 1, .int .i64 ln, .int .i64 nn, .int .i64 k0, .int .u64 (hiW X), .int .u64 (loW X)] 34 (0, 0))) (.cells #[.int .i64 k0, .int .u64 (hiW X), .int .u64 (loW X), .int .i64 ln, .int .i64 nn] 45 (0, 0))))
 have HOL := Aside0.mk h.old
 have HR1 := Aside0.mk (show ∀ k, some k = vx.ownBlock → k < w.heap.size from fun k e => h.old k (show SKm g M k ∨ some k = vx.ownBlock from Or.inr e))
 have HR2 := Aside0.mk (show ∀ k, some k = vx.ownBlock → SKt g M vx k from fun k e => (show SKm g M k ∨ some k = vx.ownBlock from Or.inr e))
 have HP1 := Aside0.mk (show ∀ k, SKm g M k → k < w.heap.size from fun k e => h.old k (show SKm g M k ∨ some k = vx.ownBlock from Or.inl e))
 have HP2 := Aside0.mk (show ∀ k, SKm g M k → SKt g M vx k from fun k e => (show SKm g M k ∨ some k = vx.ownBlock from Or.inl e))
 have HRF := Aside0.mk hr
 have HPR := Aside0.mk hp
 have HN1 := Aside0.mk hN
 clear h hr hp hN
 have q0 := blk_cell (two_b1 w (.cells #[.int .i64 (W : Int), .int .i64 m] 22 (0, 0)) (.cells #[.int .i64 1, .int .i64 ln, .int .i64 nn, .int .i64 k0, .int .u64 (hiW X), .int .u64 (loW X)] 34 (0, 0))) 0
 have q1 := blk_cell (two_b1 w (.cells #[.int .i64 (W : Int), .int .i64 m] 22 (0, 0)) (.cells #[.int .i64 1, .int .i64 ln, .int .i64 nn, .int .i64 k0, .int .u64 (hiW X), .int .u64 (loW X)] 34 (0, 0))) 1
 have q2 := blk_cell (two_b1 w (.cells #[.int .i64 (W : Int), .int .i64 m] 22 (0, 0)) (.cells #[.int .i64 1, .int .i64 ln, .int .i64 nn, .int .i64 k0, .int .u64 (hiW X), .int .u64 (loW X)] 34 (0, 0))) 2
 have q3 := blk_cell (two_b1 w (.cells #[.int .i64 (W : Int), .int .i64 m] 22 (0, 0)) (.cells #[.int .i64 1, .int .i64 ln, .int .i64 nn, .int .i64 k0, .int .u64 (hiW X), .int .u64 (loW X)] 34 (0, 0))) 3
 have q4 := blk_cell (two_b1 w (.cells #[.int .i64 (W : Int), .int .i64 m] 22 (0, 0)) (.cells #[.int .i64 1, .int .i64 ln, .int .i64 nn, .int .i64 k0, .int .u64 (hiW X), .int .u64 (loW X)] 34 (0, 0))) 4
 have q5 := blk_cell (two_b1 w (.cells #[.int .i64 (W : Int), .int .i64 m] 22 (0, 0)) (.cells #[.int .i64 1, .int .i64 ln, .int .i64 nn, .int .i64 k0, .int .u64 (hiW X), .int .u64 (loW X)] 34 (0, 0))) 5
 simp only [List.getElem?_toArray, List.getElem?_cons_succ, List.getElem?_cons_zero] at q0 q1 q2 q3 q4 q5
 go_enter Try.func18, Try.ntmps18
 go_upto_region 2 with (first | (go_at_call 67; skip))
 generalize ((w.alloc (.cells #[.int .i64 (W : Int), .int .i64 m] 22 (0, 0))).alloc (.cells #[.int .i64 1, .int .i64 ln, .int .i64 nn, .int .i64 k0, .int .u64 (hiW X), .int .u64 (loW X)] 34 (0, 0))).alloc (.cells #[.int .i64 k0, .int .u64 (hiW X), .int .u64 (loW X), .int .i64 ln, .int .i64 nn] 45 (0, 0)) = wz at HX HT ⊢
 clear q0 q1 q2 q3 q4 q5
 have n0 := blk_cell HX.out.b0 0
 have n1 := blk_cell HX.out.b0 1
 have o0 := blk_cell HX.out.b1 0
 have o1 := blk_cell HX.out.b1 1
 have o2 := blk_cell HX.out.b1 2
 have o3 := blk_cell HX.out.b1 3
 have o4 := blk_cell HX.out.b1 4
 have o5 := blk_cell HX.out.b1 5
 have t0 := blk_cell HX.out.b2 0
 have t1 := blk_cell HX.out.b2 1
 have t2 := blk_cell HX.out.b2 2
 have t3 := blk_cell HX.out.b2 3
 have t4 := blk_cell HX.out.b2 4
 simp only [List.getElem?_toArray, List.getElem?_cons_succ, List.getElem?_cons_zero] at n0 n1 o0 o1 o2 o3 o4 o5 t0 t1 t2 t3 t4
 go_wp2_with (first | (go_at_call 68; with_reducible refine (shunterref20_Set.calls kf (fun k => some k = vx.ownBlock) vx x (W : Int) k0 (hiW X) (loW X) ln nn _ _ w0 _ HT.out.kt.below HT.out.rx HRF.out).mono ?_; rintro e_ w1 ⟨v1, rfl, hr, hb, hk⟩; have HY := Aside0.mk (HX.out.kept hk HR1.out HR2.out); have HT2 := Aside0.mk (HT.out.ref hr hb hk); clear hr hb hk HX HT; clear n0 n1 o0 o1 o2 o3 o4 o5 t0 t1 t2 t3 t4; have HX := Aside0.mk HY.out; have HT := Aside0.mk HT2.out; clear HY HT2; have n0 := blk_cell HX.out.b0 0; have n1 := blk_cell HX.out.b0 1; have o0 := blk_cell HX.out.b1 0; have o1 := blk_cell HX.out.b1 1; have o2 := blk_cell HX.out.b1 2; have o3 := blk_cell HX.out.b1 3; have o4 := blk_cell HX.out.b1 4; have o5 := blk_cell HX.out.b1 5; have t0 := blk_cell HX.out.b2 0; have t1 := blk_cell HX.out.b2 1; have t2 := blk_cell HX.out.b2 2; have t3 := blk_cell HX.out.b2 3; have t4 := blk_cell HX.out.b2 4; simp only [List.getElem?_toArray, List.getElem?_cons_succ, List.getElem?_cons_zero] at n0 n1 o0 o1 o2 o3 o4 o5 t0 t1 t2 t3 t4) | (go_at_call 30; with_reducible refine (HPR.out _ HT.out.kt).mono ?_; rintro e_ w2 ⟨rfl, M1, hk1, hs1, hkp⟩; have HY := Aside0.mk (HX.out.kept hkp HP1.out HP2.out); have HT2 := Aside0.mk (HT.out.prog hk1 HN1.out hs1 hkp); clear hk1 hs1 hkp HX HT; clear n0 n1 o0 o1 o2 o3 o4 o5 t0 t1 t2 t3 t4; have HX := Aside0.mk HY.out; have HT := Aside0.mk HT2.out; clear HY HT2; have n0 := blk_cell HX.out.b0 0; have n1 := blk_cell HX.out.b0 1; have o0 := blk_cell HX.out.b1 0; have o1 := blk_cell HX.out.b1 1; have o2 := blk_cell HX.out.b1 2; have o3 := blk_cell HX.out.b1 3; have o4 := blk_cell HX.out.b1 4; have o5 := blk_cell HX.out.b1 5; have t0 := blk_cell HX.out.b2 0; have t1 := blk_cell HX.out.b2 1; have t2 := blk_cell HX.out.b2 2; have t3 := blk_cell HX.out.b2 3; have t4 := blk_cell HX.out.b2 4; simp only [List.getElem?_toArray, List.getElem?_cons_succ, List.getElem?_cons_zero] at n0 n1 o0 o1 o2 o3 o4 o5 t0 t1 t2 t3 t4))
 go_ret2
 exact ⟨_, _, rfl, HT.out, HX.out.kp⟩
set_option maxHeartbeats 1000000 in
set_option maxRecDepth 100000 in
theorem tstep_drop (w0 w : World) (g kf : Nat) (M : NM) (vx : Value) (p x : List S45) (W X : Nat) (m ln nn k0 : Int) (h : STt w0 w g M vx p x W m) (x1 p1 : List S45) (e re N1 : Int) (bb : Bool) (hN : N1 = (p1.length : Int)) (hr : shunterref20_Drop.f kf x (W : Int) k0 (hiW X) (loW X) ln nn = some (x1, e)) (he : (re == e) = bb)
 (hp : ∀ w1, KT w0 w1 g M (W : Int) m (p.length : Int) → Calls Try.prog 29 #[.pointer (some ⟨g, 0, none⟩), .agg #[.int .i64 k0, .int .u64 (hiW X), .int .u64 (loW X)], .int .i64 ln] w1 fun e_ w' => e_ = .returned (.int .i64 re) ∧ ∃ M1, KT w0 w' g M1 (W : Int) m N1 ∧ SH M1 (p1.map (toTI W)) ∧ Kept w1 w' (SKm g M)) :
 Calls Try.prog 18 #[.pointer (some ⟨g, 0, none⟩), vx, .agg #[.int .i64 (W : Int), .int .i64 m], .agg #[.int .i64 2, .int .i64 ln, .int .i64 nn, .int .i64 k0, .int .u64 (hiW X), .int .u64 (loW X)]] w fun e_ w' => ∃ M1 vx1, e_ = .returned (.tuple #[vx1, .bool bb]) ∧ STt w0 w' g M1 vx1 p1 x1 W m ∧ Kept w w' (SKt g M vx) := by
 have HX := Aside0.mk (BXT.start w (.cells #[.int .i64 (W : Int), .int .i64 m] 22 (0, 0)) (.cells #[.int .i64 2, .int .i64 ln, .int .i64 nn, .int .i64 k0, .int .u64 (hiW X), .int .u64 (loW X)] 34 (0, 0)) (.cells #[.int .i64 k0, .int .u64 (hiW X), .int .u64 (loW X), .int .i64 ln, .int .i64 nn] 45 (0, 0)) (SKt g M vx))
 have HT := Aside0.mk (h.step (below_alloc (below_alloc (below_alloc (Below.refl _ _) (.cells #[.int .i64 (W : Int), .int .i64 m] 22 (0, 0))) (.cells #[.int .i64 2, .int .i64 ln, .int .i64 nn, .int .i64 k0, .int .u64 (hiW X), .int .u64 (loW X)] 34 (0, 0))) (.cells #[.int .i64 k0, .int .u64 (hiW X), .int .u64 (loW X), .int .i64 ln, .int .i64 nn] 45 (0, 0))))
 have HOL := Aside0.mk h.old
 have HR1 := Aside0.mk (show ∀ k, some k = vx.ownBlock → k < w.heap.size from fun k e => h.old k (show SKm g M k ∨ some k = vx.ownBlock from Or.inr e))
 have HR2 := Aside0.mk (show ∀ k, some k = vx.ownBlock → SKt g M vx k from fun k e => (show SKm g M k ∨ some k = vx.ownBlock from Or.inr e))
 have HP1 := Aside0.mk (show ∀ k, SKm g M k → k < w.heap.size from fun k e => h.old k (show SKm g M k ∨ some k = vx.ownBlock from Or.inl e))
 have HP2 := Aside0.mk (show ∀ k, SKm g M k → SKt g M vx k from fun k e => (show SKm g M k ∨ some k = vx.ownBlock from Or.inl e))
 have HRF := Aside0.mk hr
 have HPR := Aside0.mk hp
 have HN1 := Aside0.mk hN
 clear h hr hp hN
 have q0 := blk_cell (two_b1 w (.cells #[.int .i64 (W : Int), .int .i64 m] 22 (0, 0)) (.cells #[.int .i64 2, .int .i64 ln, .int .i64 nn, .int .i64 k0, .int .u64 (hiW X), .int .u64 (loW X)] 34 (0, 0))) 0
 have q1 := blk_cell (two_b1 w (.cells #[.int .i64 (W : Int), .int .i64 m] 22 (0, 0)) (.cells #[.int .i64 2, .int .i64 ln, .int .i64 nn, .int .i64 k0, .int .u64 (hiW X), .int .u64 (loW X)] 34 (0, 0))) 1
 have q2 := blk_cell (two_b1 w (.cells #[.int .i64 (W : Int), .int .i64 m] 22 (0, 0)) (.cells #[.int .i64 2, .int .i64 ln, .int .i64 nn, .int .i64 k0, .int .u64 (hiW X), .int .u64 (loW X)] 34 (0, 0))) 2
 have q3 := blk_cell (two_b1 w (.cells #[.int .i64 (W : Int), .int .i64 m] 22 (0, 0)) (.cells #[.int .i64 2, .int .i64 ln, .int .i64 nn, .int .i64 k0, .int .u64 (hiW X), .int .u64 (loW X)] 34 (0, 0))) 3
 have q4 := blk_cell (two_b1 w (.cells #[.int .i64 (W : Int), .int .i64 m] 22 (0, 0)) (.cells #[.int .i64 2, .int .i64 ln, .int .i64 nn, .int .i64 k0, .int .u64 (hiW X), .int .u64 (loW X)] 34 (0, 0))) 4
 have q5 := blk_cell (two_b1 w (.cells #[.int .i64 (W : Int), .int .i64 m] 22 (0, 0)) (.cells #[.int .i64 2, .int .i64 ln, .int .i64 nn, .int .i64 k0, .int .u64 (hiW X), .int .u64 (loW X)] 34 (0, 0))) 5
 simp only [List.getElem?_toArray, List.getElem?_cons_succ, List.getElem?_cons_zero] at q0 q1 q2 q3 q4 q5
 go_enter Try.func18, Try.ntmps18
 go_upto_region 2 with (first | (go_at_call 67; skip))
 generalize ((w.alloc (.cells #[.int .i64 (W : Int), .int .i64 m] 22 (0, 0))).alloc (.cells #[.int .i64 2, .int .i64 ln, .int .i64 nn, .int .i64 k0, .int .u64 (hiW X), .int .u64 (loW X)] 34 (0, 0))).alloc (.cells #[.int .i64 k0, .int .u64 (hiW X), .int .u64 (loW X), .int .i64 ln, .int .i64 nn] 45 (0, 0)) = wz at HX HT ⊢
 clear q0 q1 q2 q3 q4 q5
 have n0 := blk_cell HX.out.b0 0
 have n1 := blk_cell HX.out.b0 1
 have o0 := blk_cell HX.out.b1 0
 have o1 := blk_cell HX.out.b1 1
 have o2 := blk_cell HX.out.b1 2
 have o3 := blk_cell HX.out.b1 3
 have o4 := blk_cell HX.out.b1 4
 have o5 := blk_cell HX.out.b1 5
 have t0 := blk_cell HX.out.b2 0
 have t1 := blk_cell HX.out.b2 1
 have t2 := blk_cell HX.out.b2 2
 have t3 := blk_cell HX.out.b2 3
 have t4 := blk_cell HX.out.b2 4
 simp only [List.getElem?_toArray, List.getElem?_cons_succ, List.getElem?_cons_zero] at n0 n1 o0 o1 o2 o3 o4 o5 t0 t1 t2 t3 t4
 go_wp2_with (first | (go_at_call 69; with_reducible refine (shunterref20_Drop.calls kf (fun k => some k = vx.ownBlock) vx x (W : Int) k0 (hiW X) (loW X) ln nn _ _ w0 _ HT.out.kt.below HT.out.rx HRF.out).mono ?_; rintro e_ w1 ⟨v1, rfl, hr, hb, hk⟩; have HY := Aside0.mk (HX.out.kept hk HR1.out HR2.out); have HT2 := Aside0.mk (HT.out.ref hr hb hk); clear hr hb hk HX HT; clear n0 n1 o0 o1 o2 o3 o4 o5 t0 t1 t2 t3 t4; have HX := Aside0.mk HY.out; have HT := Aside0.mk HT2.out; clear HY HT2; have n0 := blk_cell HX.out.b0 0; have n1 := blk_cell HX.out.b0 1; have o0 := blk_cell HX.out.b1 0; have o1 := blk_cell HX.out.b1 1; have o2 := blk_cell HX.out.b1 2; have o3 := blk_cell HX.out.b1 3; have o4 := blk_cell HX.out.b1 4; have o5 := blk_cell HX.out.b1 5; have t0 := blk_cell HX.out.b2 0; have t1 := blk_cell HX.out.b2 1; have t2 := blk_cell HX.out.b2 2; have t3 := blk_cell HX.out.b2 3; have t4 := blk_cell HX.out.b2 4; simp only [List.getElem?_toArray, List.getElem?_cons_succ, List.getElem?_cons_zero] at n0 n1 o0 o1 o2 o3 o4 o5 t0 t1 t2 t3 t4) | (go_at_call 29; with_reducible refine (HPR.out _ HT.out.kt).mono ?_; rintro e_ w2 ⟨rfl, M1, hk1, hs1, hkp⟩; have HY := Aside0.mk (HX.out.kept hkp HP1.out HP2.out); have HT2 := Aside0.mk (HT.out.prog hk1 HN1.out hs1 hkp); clear hk1 hs1 hkp HX HT; clear n0 n1 o0 o1 o2 o3 o4 o5 t0 t1 t2 t3 t4; have HX := Aside0.mk HY.out; have HT := Aside0.mk HT2.out; clear HY HT2; have n0 := blk_cell HX.out.b0 0; have n1 := blk_cell HX.out.b0 1; have o0 := blk_cell HX.out.b1 0; have o1 := blk_cell HX.out.b1 1; have o2 := blk_cell HX.out.b1 2; have o3 := blk_cell HX.out.b1 3; have o4 := blk_cell HX.out.b1 4; have o5 := blk_cell HX.out.b1 5; have t0 := blk_cell HX.out.b2 0; have t1 := blk_cell HX.out.b2 1; have t2 := blk_cell HX.out.b2 2; have t3 := blk_cell HX.out.b2 3; have t4 := blk_cell HX.out.b2 4; simp only [List.getElem?_toArray, List.getElem?_cons_succ, List.getElem?_cons_zero] at n0 n1 o0 o1 o2 o3 o4 o5 t0 t1 t2 t3 t4))
 go_ret2
 exact ⟨_, _, rfl, HT.out, HX.out.kp⟩
set_option maxHeartbeats 1000000 in
set_option maxRecDepth 100000 in
theorem tstep_miss1 (w0 w : World) (g kf : Nat) (M : NM) (vx : Value) (p x : List S45) (W X : Nat) (m kd ln nn k0 : Int) (h : STt w0 w g M vx p x W m) (kk0 : (kd == 0) = false) (kk1 : (kd == 1) = false) (kk2 : (kd == 2) = false) (hm : shunterref02_May.f k0 (hiW X) (loW X) = some false) (ga gb : Int) (gc : Bool) (hpg : ∀ w1, KT w0 w1 g M (W : Int) m (p.length : Int) → Calls Try.prog 21 #[.pointer (some ⟨g, 0, none⟩), .agg #[.int .i64 k0, .int .u64 (hiW X), .int .u64 (loW X)]] w1 fun e_ w' => e_ = .returned (.tuple #[.int .i64 ga, .int .i64 gb, .bool gc]) ∧ Below w1.heap.size w1 w') :
 Calls Try.prog 18 #[.pointer (some ⟨g, 0, none⟩), vx, .agg #[.int .i64 (W : Int), .int .i64 m], .agg #[.int .i64 kd, .int .i64 ln, .int .i64 nn, .int .i64 k0, .int .u64 (hiW X), .int .u64 (loW X)]] w fun e_ w' => outB e_ vx (fun bb => impB (ga = 0) (gb = 0) (gc = false) bb) ∧ STt w0 w' g M vx p x W m ∧ Kept w w' (SKt g M vx) := by
 have HX := Aside0.mk (BXT.start w (.cells #[.int .i64 (W : Int), .int .i64 m] 22 (0, 0)) (.cells #[.int .i64 kd, .int .i64 ln, .int .i64 nn, .int .i64 k0, .int .u64 (hiW X), .int .u64 (loW X)] 34 (0, 0)) (.cells #[.int .i64 k0, .int .u64 (hiW X), .int .u64 (loW X), .int .i64 ln, .int .i64 nn] 45 (0, 0)) (SKt g M vx))
 have HT := Aside0.mk (h.step (below_alloc (below_alloc (below_alloc (Below.refl _ _) (.cells #[.int .i64 (W : Int), .int .i64 m] 22 (0, 0))) (.cells #[.int .i64 kd, .int .i64 ln, .int .i64 nn, .int .i64 k0, .int .u64 (hiW X), .int .u64 (loW X)] 34 (0, 0))) (.cells #[.int .i64 k0, .int .u64 (hiW X), .int .u64 (loW X), .int .i64 ln, .int .i64 nn] 45 (0, 0))))
 have HOL := Aside0.mk h.old
 have HR1 := Aside0.mk (show ∀ k, some k = vx.ownBlock → k < w.heap.size from fun k e => h.old k (show SKm g M k ∨ some k = vx.ownBlock from Or.inr e))
 have HR2 := Aside0.mk (show ∀ k, some k = vx.ownBlock → SKt g M vx k from fun k e => (show SKm g M k ∨ some k = vx.ownBlock from Or.inr e))
 have HP1 := Aside0.mk (show ∀ k, SKm g M k → k < w.heap.size from fun k e => h.old k (show SKm g M k ∨ some k = vx.ownBlock from Or.inl e))
 have HP2 := Aside0.mk (show ∀ k, SKm g M k → SKt g M vx k from fun k e => (show SKm g M k ∨ some k = vx.ownBlock from Or.inl e))
 have HMY := Aside0.mk hm
 have HPG := Aside0.mk hpg
 clear h hm hpg
 have q0 := blk_cell (two_b1 w (.cells #[.int .i64 (W : Int), .int .i64 m] 22 (0, 0)) (.cells #[.int .i64 kd, .int .i64 ln, .int .i64 nn, .int .i64 k0, .int .u64 (hiW X), .int .u64 (loW X)] 34 (0, 0))) 0
 have q1 := blk_cell (two_b1 w (.cells #[.int .i64 (W : Int), .int .i64 m] 22 (0, 0)) (.cells #[.int .i64 kd, .int .i64 ln, .int .i64 nn, .int .i64 k0, .int .u64 (hiW X), .int .u64 (loW X)] 34 (0, 0))) 1
 have q2 := blk_cell (two_b1 w (.cells #[.int .i64 (W : Int), .int .i64 m] 22 (0, 0)) (.cells #[.int .i64 kd, .int .i64 ln, .int .i64 nn, .int .i64 k0, .int .u64 (hiW X), .int .u64 (loW X)] 34 (0, 0))) 2
 have q3 := blk_cell (two_b1 w (.cells #[.int .i64 (W : Int), .int .i64 m] 22 (0, 0)) (.cells #[.int .i64 kd, .int .i64 ln, .int .i64 nn, .int .i64 k0, .int .u64 (hiW X), .int .u64 (loW X)] 34 (0, 0))) 3
 have q4 := blk_cell (two_b1 w (.cells #[.int .i64 (W : Int), .int .i64 m] 22 (0, 0)) (.cells #[.int .i64 kd, .int .i64 ln, .int .i64 nn, .int .i64 k0, .int .u64 (hiW X), .int .u64 (loW X)] 34 (0, 0))) 4
 have q5 := blk_cell (two_b1 w (.cells #[.int .i64 (W : Int), .int .i64 m] 22 (0, 0)) (.cells #[.int .i64 kd, .int .i64 ln, .int .i64 nn, .int .i64 k0, .int .u64 (hiW X), .int .u64 (loW X)] 34 (0, 0))) 5
 simp only [List.getElem?_toArray, List.getElem?_cons_succ, List.getElem?_cons_zero] at q0 q1 q2 q3 q4 q5
 go_enter Try.func18, Try.ntmps18
 go_upto_region 2 with (first | (go_at_call 67; skip))
 generalize ((w.alloc (.cells #[.int .i64 (W : Int), .int .i64 m] 22 (0, 0))).alloc (.cells #[.int .i64 kd, .int .i64 ln, .int .i64 nn, .int .i64 k0, .int .u64 (hiW X), .int .u64 (loW X)] 34 (0, 0))).alloc (.cells #[.int .i64 k0, .int .u64 (hiW X), .int .u64 (loW X), .int .i64 ln, .int .i64 nn] 45 (0, 0)) = wz at HX HT ⊢
 clear q0 q1 q2 q3 q4 q5
 have n0 := blk_cell HX.out.b0 0
 have n1 := blk_cell HX.out.b0 1
 have o0 := blk_cell HX.out.b1 0
 have o1 := blk_cell HX.out.b1 1
 have o2 := blk_cell HX.out.b1 2
 have o3 := blk_cell HX.out.b1 3
 have o4 := blk_cell HX.out.b1 4
 have o5 := blk_cell HX.out.b1 5
 have t0 := blk_cell HX.out.b2 0
 have t1 := blk_cell HX.out.b2 1
 have t2 := blk_cell HX.out.b2 2
 have t3 := blk_cell HX.out.b2 3
 have t4 := blk_cell HX.out.b2 4
 simp only [List.getElem?_toArray, List.getElem?_cons_succ, List.getElem?_cons_zero] at n0 n1 o0 o1 o2 o3 o4 o5 t0 t1 t2 t3 t4
 cases h1 : (ga == 0) <;> cases h2 : (gb == 0) <;> cases gc <;>
  (go_wp2_with (first | (go_at_call 21; with_reducible refine (HPG.out _ HT.out.kt).mono ?_; rintro e_ w1 ⟨rfl, hb⟩; have HY := Aside0.mk (HX.out.step hb); have HT2 := Aside0.mk (HT.out.step hb); clear HX HT hb; clear n0 n1 o0 o1 o2 o3 o4 o5 t0 t1 t2 t3 t4; have HX := Aside0.mk HY.out; have HT := Aside0.mk HT2.out; clear HY HT2; have n0 := blk_cell HX.out.b0 0; have n1 := blk_cell HX.out.b0 1; have o0 := blk_cell HX.out.b1 0; have o1 := blk_cell HX.out.b1 1; have o2 := blk_cell HX.out.b1 2; have o3 := blk_cell HX.out.b1 3; have o4 := blk_cell HX.out.b1 4; have o5 := blk_cell HX.out.b1 5; have t0 := blk_cell HX.out.b2 0; have t1 := blk_cell HX.out.b2 1; have t2 := blk_cell HX.out.b2 2; have t3 := blk_cell HX.out.b2 3; have t4 := blk_cell HX.out.b2 4; simp only [List.getElem?_toArray, List.getElem?_cons_succ, List.getElem?_cons_zero] at n0 n1 o0 o1 o2 o3 o4 o5 t0 t1 t2 t3 t4) | (go_at_call 20; with_reducible refine (shunterref02_May.calls k0 (hiW X) (loW X) false _ HMY.out).mono ?_; rintro e_ w2 ⟨rfl, hb⟩; have HY := Aside0.mk (HX.out.step hb); have HT2 := Aside0.mk (HT.out.step hb); clear HX HT hb; clear n0 n1 o0 o1 o2 o3 o4 o5 t0 t1 t2 t3 t4; have HX := Aside0.mk HY.out; have HT := Aside0.mk HT2.out; clear HY HT2; have n0 := blk_cell HX.out.b0 0; have n1 := blk_cell HX.out.b0 1; have o0 := blk_cell HX.out.b1 0; have o1 := blk_cell HX.out.b1 1; have o2 := blk_cell HX.out.b1 2; have o3 := blk_cell HX.out.b1 3; have o4 := blk_cell HX.out.b1 4; have o5 := blk_cell HX.out.b1 5; have t0 := blk_cell HX.out.b2 0; have t1 := blk_cell HX.out.b2 1; have t2 := blk_cell HX.out.b2 2; have t3 := blk_cell HX.out.b2 3; have t4 := blk_cell HX.out.b2 4; simp only [List.getElem?_toArray, List.getElem?_cons_succ, List.getElem?_cons_zero] at n0 n1 o0 o1 o2 o3 o4 o5 t0 t1 t2 t3 t4)); go_ret2; exact ⟨⟨_, rfl, (by intro a b c; first | rfl | (rw [a] at h1; simp at h1; done) | (rw [b] at h2; simp at h2; done) | (cases c; done))⟩, HT.out, HX.out.kp⟩)
set_option maxHeartbeats 1000000 in
set_option maxRecDepth 100000 in
theorem tstep_miss2 (w0 w : World) (g kf : Nat) (M : NM) (vx : Value) (p x : List S45) (W X : Nat) (m kd ln nn k0 : Int) (h : STt w0 w g M vx p x W m) (kk0 : (kd == 0) = false) (kk1 : (kd == 1) = false) (kk2 : (kd == 2) = false) (hm : shunterref02_May.f k0 (hiW X) (loW X) = some true) (hw : (k0 == (W : Int)) = false) (ga gb : Int) (gc : Bool) (hpg : ∀ w1, KT w0 w1 g M (W : Int) m (p.length : Int) → Calls Try.prog 21 #[.pointer (some ⟨g, 0, none⟩), .agg #[.int .i64 k0, .int .u64 (hiW X), .int .u64 (loW X)]] w1 fun e_ w' => e_ = .returned (.tuple #[.int .i64 ga, .int .i64 gb, .bool gc]) ∧ Below w1.heap.size w1 w') :
 Calls Try.prog 18 #[.pointer (some ⟨g, 0, none⟩), vx, .agg #[.int .i64 (W : Int), .int .i64 m], .agg #[.int .i64 kd, .int .i64 ln, .int .i64 nn, .int .i64 k0, .int .u64 (hiW X), .int .u64 (loW X)]] w fun e_ w' => outB e_ vx (fun bb => impB (ga = 0) (gb = 0) (gc = false) bb) ∧ STt w0 w' g M vx p x W m ∧ Kept w w' (SKt g M vx) := by
 have HX := Aside0.mk (BXT.start w (.cells #[.int .i64 (W : Int), .int .i64 m] 22 (0, 0)) (.cells #[.int .i64 kd, .int .i64 ln, .int .i64 nn, .int .i64 k0, .int .u64 (hiW X), .int .u64 (loW X)] 34 (0, 0)) (.cells #[.int .i64 k0, .int .u64 (hiW X), .int .u64 (loW X), .int .i64 ln, .int .i64 nn] 45 (0, 0)) (SKt g M vx))
 have HT := Aside0.mk (h.step (below_alloc (below_alloc (below_alloc (Below.refl _ _) (.cells #[.int .i64 (W : Int), .int .i64 m] 22 (0, 0))) (.cells #[.int .i64 kd, .int .i64 ln, .int .i64 nn, .int .i64 k0, .int .u64 (hiW X), .int .u64 (loW X)] 34 (0, 0))) (.cells #[.int .i64 k0, .int .u64 (hiW X), .int .u64 (loW X), .int .i64 ln, .int .i64 nn] 45 (0, 0))))
 have HOL := Aside0.mk h.old
 have HR1 := Aside0.mk (show ∀ k, some k = vx.ownBlock → k < w.heap.size from fun k e => h.old k (show SKm g M k ∨ some k = vx.ownBlock from Or.inr e))
 have HR2 := Aside0.mk (show ∀ k, some k = vx.ownBlock → SKt g M vx k from fun k e => (show SKm g M k ∨ some k = vx.ownBlock from Or.inr e))
 have HP1 := Aside0.mk (show ∀ k, SKm g M k → k < w.heap.size from fun k e => h.old k (show SKm g M k ∨ some k = vx.ownBlock from Or.inl e))
 have HP2 := Aside0.mk (show ∀ k, SKm g M k → SKt g M vx k from fun k e => (show SKm g M k ∨ some k = vx.ownBlock from Or.inl e))
 have HMY := Aside0.mk hm
 have HPG := Aside0.mk hpg
 clear h hm hpg
 have q0 := blk_cell (two_b1 w (.cells #[.int .i64 (W : Int), .int .i64 m] 22 (0, 0)) (.cells #[.int .i64 kd, .int .i64 ln, .int .i64 nn, .int .i64 k0, .int .u64 (hiW X), .int .u64 (loW X)] 34 (0, 0))) 0
 have q1 := blk_cell (two_b1 w (.cells #[.int .i64 (W : Int), .int .i64 m] 22 (0, 0)) (.cells #[.int .i64 kd, .int .i64 ln, .int .i64 nn, .int .i64 k0, .int .u64 (hiW X), .int .u64 (loW X)] 34 (0, 0))) 1
 have q2 := blk_cell (two_b1 w (.cells #[.int .i64 (W : Int), .int .i64 m] 22 (0, 0)) (.cells #[.int .i64 kd, .int .i64 ln, .int .i64 nn, .int .i64 k0, .int .u64 (hiW X), .int .u64 (loW X)] 34 (0, 0))) 2
 have q3 := blk_cell (two_b1 w (.cells #[.int .i64 (W : Int), .int .i64 m] 22 (0, 0)) (.cells #[.int .i64 kd, .int .i64 ln, .int .i64 nn, .int .i64 k0, .int .u64 (hiW X), .int .u64 (loW X)] 34 (0, 0))) 3
 have q4 := blk_cell (two_b1 w (.cells #[.int .i64 (W : Int), .int .i64 m] 22 (0, 0)) (.cells #[.int .i64 kd, .int .i64 ln, .int .i64 nn, .int .i64 k0, .int .u64 (hiW X), .int .u64 (loW X)] 34 (0, 0))) 4
 have q5 := blk_cell (two_b1 w (.cells #[.int .i64 (W : Int), .int .i64 m] 22 (0, 0)) (.cells #[.int .i64 kd, .int .i64 ln, .int .i64 nn, .int .i64 k0, .int .u64 (hiW X), .int .u64 (loW X)] 34 (0, 0))) 5
 simp only [List.getElem?_toArray, List.getElem?_cons_succ, List.getElem?_cons_zero] at q0 q1 q2 q3 q4 q5
 go_enter Try.func18, Try.ntmps18
 go_upto_region 2 with (first | (go_at_call 67; skip))
 generalize ((w.alloc (.cells #[.int .i64 (W : Int), .int .i64 m] 22 (0, 0))).alloc (.cells #[.int .i64 kd, .int .i64 ln, .int .i64 nn, .int .i64 k0, .int .u64 (hiW X), .int .u64 (loW X)] 34 (0, 0))).alloc (.cells #[.int .i64 k0, .int .u64 (hiW X), .int .u64 (loW X), .int .i64 ln, .int .i64 nn] 45 (0, 0)) = wz at HX HT ⊢
 clear q0 q1 q2 q3 q4 q5
 have n0 := blk_cell HX.out.b0 0
 have n1 := blk_cell HX.out.b0 1
 have o0 := blk_cell HX.out.b1 0
 have o1 := blk_cell HX.out.b1 1
 have o2 := blk_cell HX.out.b1 2
 have o3 := blk_cell HX.out.b1 3
 have o4 := blk_cell HX.out.b1 4
 have o5 := blk_cell HX.out.b1 5
 have t0 := blk_cell HX.out.b2 0
 have t1 := blk_cell HX.out.b2 1
 have t2 := blk_cell HX.out.b2 2
 have t3 := blk_cell HX.out.b2 3
 have t4 := blk_cell HX.out.b2 4
 simp only [List.getElem?_toArray, List.getElem?_cons_succ, List.getElem?_cons_zero] at n0 n1 o0 o1 o2 o3 o4 o5 t0 t1 t2 t3 t4
 cases h1 : (ga == 0) <;> cases h2 : (gb == 0) <;> cases gc <;>
  (go_wp2_with (first | (go_at_call 21; with_reducible refine (HPG.out _ HT.out.kt).mono ?_; rintro e_ w1 ⟨rfl, hb⟩; have HY := Aside0.mk (HX.out.step hb); have HT2 := Aside0.mk (HT.out.step hb); clear HX HT hb; clear n0 n1 o0 o1 o2 o3 o4 o5 t0 t1 t2 t3 t4; have HX := Aside0.mk HY.out; have HT := Aside0.mk HT2.out; clear HY HT2; have n0 := blk_cell HX.out.b0 0; have n1 := blk_cell HX.out.b0 1; have o0 := blk_cell HX.out.b1 0; have o1 := blk_cell HX.out.b1 1; have o2 := blk_cell HX.out.b1 2; have o3 := blk_cell HX.out.b1 3; have o4 := blk_cell HX.out.b1 4; have o5 := blk_cell HX.out.b1 5; have t0 := blk_cell HX.out.b2 0; have t1 := blk_cell HX.out.b2 1; have t2 := blk_cell HX.out.b2 2; have t3 := blk_cell HX.out.b2 3; have t4 := blk_cell HX.out.b2 4; simp only [List.getElem?_toArray, List.getElem?_cons_succ, List.getElem?_cons_zero] at n0 n1 o0 o1 o2 o3 o4 o5 t0 t1 t2 t3 t4) | (go_at_call 20; with_reducible refine (shunterref02_May.calls k0 (hiW X) (loW X) true _ HMY.out).mono ?_; rintro e_ w2 ⟨rfl, hb⟩; have HY := Aside0.mk (HX.out.step hb); have HT2 := Aside0.mk (HT.out.step hb); clear HX HT hb; clear n0 n1 o0 o1 o2 o3 o4 o5 t0 t1 t2 t3 t4; have HX := Aside0.mk HY.out; have HT := Aside0.mk HT2.out; clear HY HT2; have n0 := blk_cell HX.out.b0 0; have n1 := blk_cell HX.out.b0 1; have o0 := blk_cell HX.out.b1 0; have o1 := blk_cell HX.out.b1 1; have o2 := blk_cell HX.out.b1 2; have o3 := blk_cell HX.out.b1 3; have o4 := blk_cell HX.out.b1 4; have o5 := blk_cell HX.out.b1 5; have t0 := blk_cell HX.out.b2 0; have t1 := blk_cell HX.out.b2 1; have t2 := blk_cell HX.out.b2 2; have t3 := blk_cell HX.out.b2 3; have t4 := blk_cell HX.out.b2 4; simp only [List.getElem?_toArray, List.getElem?_cons_succ, List.getElem?_cons_zero] at n0 n1 o0 o1 o2 o3 o4 o5 t0 t1 t2 t3 t4)); go_ret2; exact ⟨⟨_, rfl, (by intro a b c; first | rfl | (rw [a] at h1; simp at h1; done) | (rw [b] at h2; simp at h2; done) | (cases c; done))⟩, HT.out, HX.out.kp⟩)
set_option maxHeartbeats 1000000 in
set_option maxRecDepth 100000 in
theorem tstep_none (w0 w : World) (g kf : Nat) (M : NM) (vx : Value) (p x : List S45) (W X : Nat) (m kd ln nn k0 : Int) (h : STt w0 w g M vx p x W m) (kk0 : (kd == 0) = false) (kk1 : (kd == 1) = false) (kk2 : (kd == 2) = false) (hm : shunterref02_May.f k0 (hiW X) (loW X) = some true) (hw : k0 = (W : Int)) (hr : shunterref20_Get.f kf x (W : Int) (hiW X) (loW X) = some (-1)) (ga gb : Int) (gc : Bool) (hpg : ∀ w1, KT w0 w1 g M (W : Int) m (p.length : Int) → Calls Try.prog 21 #[.pointer (some ⟨g, 0, none⟩), .agg #[.int .i64 k0, .int .u64 (hiW X), .int .u64 (loW X)]] w1 fun e_ w' => e_ = .returned (.tuple #[.int .i64 ga, .int .i64 gb, .bool gc]) ∧ Below w1.heap.size w1 w') :
 Calls Try.prog 18 #[.pointer (some ⟨g, 0, none⟩), vx, .agg #[.int .i64 (W : Int), .int .i64 m], .agg #[.int .i64 kd, .int .i64 ln, .int .i64 nn, .int .i64 k0, .int .u64 (hiW X), .int .u64 (loW X)]] w fun e_ w' => outB e_ vx (fun bb => impB (ga = 0) (gb = 0) (gc = false) bb) ∧ STt w0 w' g M vx p x W m ∧ Kept w w' (SKt g M vx) := by
 subst hw
 have HMY := Aside0.mk hm
 have HPG := Aside0.mk hpg
 have HRF := Aside0.mk hr
 obtain ⟨Ax, cx, rfl⟩ := Kd.R_slice h.rx
 have HX := Aside0.mk (BXT.start w (.cells #[.int .i64 (W : Int), .int .i64 m] 22 (0, 0)) (.cells #[.int .i64 kd, .int .i64 ln, .int .i64 nn, .int .i64 (W : Int), .int .u64 (hiW X), .int .u64 (loW X)] 34 (0, 0)) (.cells #[.int .i64 (W : Int), .int .u64 (hiW X), .int .u64 (loW X), .int .i64 ln, .int .i64 nn] 45 (0, 0)) (SKt g M (Value.slice Ax x.length cx)))
 have HT := Aside0.mk (h.step (below_alloc (below_alloc (below_alloc (Below.refl _ _) (.cells #[.int .i64 (W : Int), .int .i64 m] 22 (0, 0))) (.cells #[.int .i64 kd, .int .i64 ln, .int .i64 nn, .int .i64 (W : Int), .int .u64 (hiW X), .int .u64 (loW X)] 34 (0, 0))) (.cells #[.int .i64 (W : Int), .int .u64 (hiW X), .int .u64 (loW X), .int .i64 ln, .int .i64 nn] 45 (0, 0))))
 have HOL := Aside0.mk h.old
 have HR1 := Aside0.mk (show ∀ k, some k = (Value.slice Ax x.length cx).ownBlock → k < w.heap.size from fun k e => h.old k (show SKm g M k ∨ some k = (Value.slice Ax x.length cx).ownBlock from Or.inr e))
 have HR2 := Aside0.mk (show ∀ k, some k = (Value.slice Ax x.length cx).ownBlock → SKt g M (Value.slice Ax x.length cx) k from fun k e => (show SKm g M k ∨ some k = (Value.slice Ax x.length cx).ownBlock from Or.inr e))
 have HP1 := Aside0.mk (show ∀ k, SKm g M k → k < w.heap.size from fun k e => h.old k (show SKm g M k ∨ some k = (Value.slice Ax x.length cx).ownBlock from Or.inl e))
 have HP2 := Aside0.mk (show ∀ k, SKm g M k → SKt g M (Value.slice Ax x.length cx) k from fun k e => (show SKm g M k ∨ some k = (Value.slice Ax x.length cx).ownBlock from Or.inl e))
 clear h hm hpg hr
 have q0 := blk_cell (two_b1 w (.cells #[.int .i64 (W : Int), .int .i64 m] 22 (0, 0)) (.cells #[.int .i64 kd, .int .i64 ln, .int .i64 nn, .int .i64 (W : Int), .int .u64 (hiW X), .int .u64 (loW X)] 34 (0, 0))) 0
 have q1 := blk_cell (two_b1 w (.cells #[.int .i64 (W : Int), .int .i64 m] 22 (0, 0)) (.cells #[.int .i64 kd, .int .i64 ln, .int .i64 nn, .int .i64 (W : Int), .int .u64 (hiW X), .int .u64 (loW X)] 34 (0, 0))) 1
 have q2 := blk_cell (two_b1 w (.cells #[.int .i64 (W : Int), .int .i64 m] 22 (0, 0)) (.cells #[.int .i64 kd, .int .i64 ln, .int .i64 nn, .int .i64 (W : Int), .int .u64 (hiW X), .int .u64 (loW X)] 34 (0, 0))) 2
 have q3 := blk_cell (two_b1 w (.cells #[.int .i64 (W : Int), .int .i64 m] 22 (0, 0)) (.cells #[.int .i64 kd, .int .i64 ln, .int .i64 nn, .int .i64 (W : Int), .int .u64 (hiW X), .int .u64 (loW X)] 34 (0, 0))) 3
 have q4 := blk_cell (two_b1 w (.cells #[.int .i64 (W : Int), .int .i64 m] 22 (0, 0)) (.cells #[.int .i64 kd, .int .i64 ln, .int .i64 nn, .int .i64 (W : Int), .int .u64 (hiW X), .int .u64 (loW X)] 34 (0, 0))) 4
 have q5 := blk_cell (two_b1 w (.cells #[.int .i64 (W : Int), .int .i64 m] 22 (0, 0)) (.cells #[.int .i64 kd, .int .i64 ln, .int .i64 nn, .int .i64 (W : Int), .int .u64 (hiW X), .int .u64 (loW X)] 34 (0, 0))) 5
 simp only [List.getElem?_toArray, List.getElem?_cons_succ, List.getElem?_cons_zero] at q0 q1 q2 q3 q4 q5
 go_enter Try.func18, Try.ntmps18
 go_upto_region 2 with (first | (go_at_call 67; skip))
 generalize ((w.alloc (.cells #[.int .i64 (W : Int), .int .i64 m] 22 (0, 0))).alloc (.cells #[.int .i64 kd, .int .i64 ln, .int .i64 nn, .int .i64 (W : Int), .int .u64 (hiW X), .int .u64 (loW X)] 34 (0, 0))).alloc (.cells #[.int .i64 (W : Int), .int .u64 (hiW X), .int .u64 (loW X), .int .i64 ln, .int .i64 nn] 45 (0, 0)) = wz at HX HT ⊢
 clear q0 q1 q2 q3 q4 q5
 have n0 := blk_cell HX.out.b0 0
 have n1 := blk_cell HX.out.b0 1
 have o0 := blk_cell HX.out.b1 0
 have o1 := blk_cell HX.out.b1 1
 have o2 := blk_cell HX.out.b1 2
 have o3 := blk_cell HX.out.b1 3
 have o4 := blk_cell HX.out.b1 4
 have o5 := blk_cell HX.out.b1 5
 have t0 := blk_cell HX.out.b2 0
 have t1 := blk_cell HX.out.b2 1
 have t2 := blk_cell HX.out.b2 2
 have t3 := blk_cell HX.out.b2 3
 have t4 := blk_cell HX.out.b2 4
 simp only [List.getElem?_toArray, List.getElem?_cons_succ, List.getElem?_cons_zero] at n0 n1 o0 o1 o2 o3 o4 o5 t0 t1 t2 t3 t4
 cases h1 : (ga == 0) <;> cases h2 : (gb == 0) <;> cases gc <;>
  (go_wp2_with (first | (go_at_call 21; with_reducible refine (HPG.out _ HT.out.kt).mono ?_; rintro e_ w1 ⟨rfl, hb⟩; have HY := Aside0.mk (HX.out.step hb); have HT2 := Aside0.mk (HT.out.step hb); clear HX HT hb; clear n0 n1 o0 o1 o2 o3 o4 o5 t0 t1 t2 t3 t4; have HX := Aside0.mk HY.out; have HT := Aside0.mk HT2.out; clear HY HT2; have n0 := blk_cell HX.out.b0 0; have n1 := blk_cell HX.out.b0 1; have o0 := blk_cell HX.out.b1 0; have o1 := blk_cell HX.out.b1 1; have o2 := blk_cell HX.out.b1 2; have o3 := blk_cell HX.out.b1 3; have o4 := blk_cell HX.out.b1 4; have o5 := blk_cell HX.out.b1 5; have t0 := blk_cell HX.out.b2 0; have t1 := blk_cell HX.out.b2 1; have t2 := blk_cell HX.out.b2 2; have t3 := blk_cell HX.out.b2 3; have t4 := blk_cell HX.out.b2 4; simp only [List.getElem?_toArray, List.getElem?_cons_succ, List.getElem?_cons_zero] at n0 n1 o0 o1 o2 o3 o4 o5 t0 t1 t2 t3 t4) | (go_at_call 20; with_reducible refine (shunterref02_May.calls (W : Int) (hiW X) (loW X) true _ HMY.out).mono ?_; rintro e_ w2 ⟨rfl, hb⟩; have HY := Aside0.mk (HX.out.step hb); have HT2 := Aside0.mk (HT.out.step hb); clear HX HT hb; clear n0 n1 o0 o1 o2 o3 o4 o5 t0 t1 t2 t3 t4; have HX := Aside0.mk HY.out; have HT := Aside0.mk HT2.out; clear HY HT2; have n0 := blk_cell HX.out.b0 0; have n1 := blk_cell HX.out.b0 1; have o0 := blk_cell HX.out.b1 0; have o1 := blk_cell HX.out.b1 1; have o2 := blk_cell HX.out.b1 2; have o3 := blk_cell HX.out.b1 3; have o4 := blk_cell HX.out.b1 4; have o5 := blk_cell HX.out.b1 5; have t0 := blk_cell HX.out.b2 0; have t1 := blk_cell HX.out.b2 1; have t2 := blk_cell HX.out.b2 2; have t3 := blk_cell HX.out.b2 3; have t4 := blk_cell HX.out.b2 4; simp only [List.getElem?_toArray, List.getElem?_cons_succ, List.getElem?_cons_zero] at n0 n1 o0 o1 o2 o3 o4 o5 t0 t1 t2 t3 t4) | (go_at_call 70; with_reducible refine (shunterref20_Get.calls kf Ax cx x (W : Int) (hiW X) (loW X) (-1) _ (Kd.R_reads' HT.out.rx).2.2 (Kd.R_reads' HT.out.rx).2.1 HRF.out).mono ?_; rintro e_ w3 ⟨rfl, hb⟩; have HY := Aside0.mk (HX.out.step hb); have HT2 := Aside0.mk (HT.out.step hb); clear HX HT hb; clear n0 n1 o0 o1 o2 o3 o4 o5 t0 t1 t2 t3 t4; have HX := Aside0.mk HY.out; have HT := Aside0.mk HT2.out; clear HY HT2; have n0 := blk_cell HX.out.b0 0; have n1 := blk_cell HX.out.b0 1; have o0 := blk_cell HX.out.b1 0; have o1 := blk_cell HX.out.b1 1; have o2 := blk_cell HX.out.b1 2; have o3 := blk_cell HX.out.b1 3; have o4 := blk_cell HX.out.b1 4; have o5 := blk_cell HX.out.b1 5; have t0 := blk_cell HX.out.b2 0; have t1 := blk_cell HX.out.b2 1; have t2 := blk_cell HX.out.b2 2; have t3 := blk_cell HX.out.b2 3; have t4 := blk_cell HX.out.b2 4; simp only [List.getElem?_toArray, List.getElem?_cons_succ, List.getElem?_cons_zero] at n0 n1 o0 o1 o2 o3 o4 o5 t0 t1 t2 t3 t4)); go_ret2; exact ⟨⟨_, rfl, (by intro a b c; first | rfl | (rw [a] at h1; simp at h1; done) | (rw [b] at h2; simp at h2; done) | (cases c; done))⟩, HT.out, HX.out.kp⟩)
set_option maxHeartbeats 1000000 in
set_option maxRecDepth 100000 in
theorem tstep_found (w0 w : World) (g kf : Nat) (M : NM) (vx : Value) (p x : List S45) (W X : Nat) (m kd ln nn k0 : Int) (h : STt w0 w g M vx p x W m) (kk0 : (kd == 0) = false) (kk1 : (kd == 1) = false) (kk2 : (kd == 2) = false) (hm : shunterref02_May.f k0 (hiW X) (loW X) = some true) (hw : k0 = (W : Int)) (j : Nat) (hj : j < x.length) (hr : shunterref20_Get.f kf x (W : Int) (hiW X) (loW X) = some (j : Int)) (ga gb : Int) (gc : Bool) (hpg : ∀ w1, KT w0 w1 g M (W : Int) m (p.length : Int) → Calls Try.prog 21 #[.pointer (some ⟨g, 0, none⟩), .agg #[.int .i64 k0, .int .u64 (hiW X), .int .u64 (loW X)]] w1 fun e_ w' => e_ = .returned (.tuple #[.int .i64 ga, .int .i64 gb, .bool gc]) ∧ Below w1.heap.size w1 w') :
 Calls Try.prog 18 #[.pointer (some ⟨g, 0, none⟩), vx, .agg #[.int .i64 (W : Int), .int .i64 m], .agg #[.int .i64 kd, .int .i64 ln, .int .i64 nn, .int .i64 k0, .int .u64 (hiW X), .int .u64 (loW X)]] w fun e_ w' => outB e_ vx (fun bb => impB (ga = x[j].f2) (gb = x[j].f1) (gc = true) bb) ∧ STt w0 w' g M vx p x W m ∧ Kept w w' (SKt g M vx) := by
 subst hw
 have HMY := Aside0.mk hm
 have HPG := Aside0.mk hpg
 have HRF := Aside0.mk hr
 obtain ⟨Ax, cx, rfl⟩ := Kd.R_slice h.rx
 have HX := Aside0.mk (BXT.start w (.cells #[.int .i64 (W : Int), .int .i64 m] 22 (0, 0)) (.cells #[.int .i64 kd, .int .i64 ln, .int .i64 nn, .int .i64 (W : Int), .int .u64 (hiW X), .int .u64 (loW X)] 34 (0, 0)) (.cells #[.int .i64 (W : Int), .int .u64 (hiW X), .int .u64 (loW X), .int .i64 ln, .int .i64 nn] 45 (0, 0)) (SKt g M (Value.slice Ax x.length cx)))
 have HT := Aside0.mk (h.step (below_alloc (below_alloc (below_alloc (Below.refl _ _) (.cells #[.int .i64 (W : Int), .int .i64 m] 22 (0, 0))) (.cells #[.int .i64 kd, .int .i64 ln, .int .i64 nn, .int .i64 (W : Int), .int .u64 (hiW X), .int .u64 (loW X)] 34 (0, 0))) (.cells #[.int .i64 (W : Int), .int .u64 (hiW X), .int .u64 (loW X), .int .i64 ln, .int .i64 nn] 45 (0, 0))))
 have HOL := Aside0.mk h.old
 have HR1 := Aside0.mk (show ∀ k, some k = (Value.slice Ax x.length cx).ownBlock → k < w.heap.size from fun k e => h.old k (show SKm g M k ∨ some k = (Value.slice Ax x.length cx).ownBlock from Or.inr e))
 have HR2 := Aside0.mk (show ∀ k, some k = (Value.slice Ax x.length cx).ownBlock → SKt g M (Value.slice Ax x.length cx) k from fun k e => (show SKm g M k ∨ some k = (Value.slice Ax x.length cx).ownBlock from Or.inr e))
 have HP1 := Aside0.mk (show ∀ k, SKm g M k → k < w.heap.size from fun k e => h.old k (show SKm g M k ∨ some k = (Value.slice Ax x.length cx).ownBlock from Or.inl e))
 have HP2 := Aside0.mk (show ∀ k, SKm g M k → SKt g M (Value.slice Ax x.length cx) k from fun k e => (show SKm g M k ∨ some k = (Value.slice Ax x.length cx).ownBlock from Or.inl e))
 have hj0 : 0 ≤ (j : Int) := by omega
 have hjl : (j : Int) < (x.length : Int) := by omega
 have hjn : decide ((j : Int) < 0) = false := by simp
 have HXJ := Aside0.mk (rd45 x j hj)
 generalize x[j] = y at HXJ ⊢
 clear h hm hpg hr
 have q0 := blk_cell (two_b1 w (.cells #[.int .i64 (W : Int), .int .i64 m] 22 (0, 0)) (.cells #[.int .i64 kd, .int .i64 ln, .int .i64 nn, .int .i64 (W : Int), .int .u64 (hiW X), .int .u64 (loW X)] 34 (0, 0))) 0
 have q1 := blk_cell (two_b1 w (.cells #[.int .i64 (W : Int), .int .i64 m] 22 (0, 0)) (.cells #[.int .i64 kd, .int .i64 ln, .int .i64 nn, .int .i64 (W : Int), .int .u64 (hiW X), .int .u64 (loW X)] 34 (0, 0))) 1
 have q2 := blk_cell (two_b1 w (.cells #[.int .i64 (W : Int), .int .i64 m] 22 (0, 0)) (.cells #[.int .i64 kd, .int .i64 ln, .int .i64 nn, .int .i64 (W : Int), .int .u64 (hiW X), .int .u64 (loW X)] 34 (0, 0))) 2
 have q3 := blk_cell (two_b1 w (.cells #[.int .i64 (W : Int), .int .i64 m] 22 (0, 0)) (.cells #[.int .i64 kd, .int .i64 ln, .int .i64 nn, .int .i64 (W : Int), .int .u64 (hiW X), .int .u64 (loW X)] 34 (0, 0))) 3
 have q4 := blk_cell (two_b1 w (.cells #[.int .i64 (W : Int), .int .i64 m] 22 (0, 0)) (.cells #[.int .i64 kd, .int .i64 ln, .int .i64 nn, .int .i64 (W : Int), .int .u64 (hiW X), .int .u64 (loW X)] 34 (0, 0))) 4
 have q5 := blk_cell (two_b1 w (.cells #[.int .i64 (W : Int), .int .i64 m] 22 (0, 0)) (.cells #[.int .i64 kd, .int .i64 ln, .int .i64 nn, .int .i64 (W : Int), .int .u64 (hiW X), .int .u64 (loW X)] 34 (0, 0))) 5
 simp only [List.getElem?_toArray, List.getElem?_cons_succ, List.getElem?_cons_zero] at q0 q1 q2 q3 q4 q5
 go_enter Try.func18, Try.ntmps18
 go_upto_region 2 with (first | (go_at_call 67; skip))
 generalize ((w.alloc (.cells #[.int .i64 (W : Int), .int .i64 m] 22 (0, 0))).alloc (.cells #[.int .i64 kd, .int .i64 ln, .int .i64 nn, .int .i64 (W : Int), .int .u64 (hiW X), .int .u64 (loW X)] 34 (0, 0))).alloc (.cells #[.int .i64 (W : Int), .int .u64 (hiW X), .int .u64 (loW X), .int .i64 ln, .int .i64 nn] 45 (0, 0)) = wz at HX HT ⊢
 clear q0 q1 q2 q3 q4 q5
 have n0 := blk_cell HX.out.b0 0
 have n1 := blk_cell HX.out.b0 1
 have o0 := blk_cell HX.out.b1 0
 have o1 := blk_cell HX.out.b1 1
 have o2 := blk_cell HX.out.b1 2
 have o3 := blk_cell HX.out.b1 3
 have o4 := blk_cell HX.out.b1 4
 have o5 := blk_cell HX.out.b1 5
 have t0 := blk_cell HX.out.b2 0
 have t1 := blk_cell HX.out.b2 1
 have t2 := blk_cell HX.out.b2 2
 have t3 := blk_cell HX.out.b2 3
 have t4 := blk_cell HX.out.b2 4
 simp only [List.getElem?_toArray, List.getElem?_cons_succ, List.getElem?_cons_zero] at n0 n1 o0 o1 o2 o3 o4 o5 t0 t1 t2 t3 t4
 cases h1 : (ga == y.f2) <;> cases h2 : (gb == y.f1) <;> cases gc <;>
  (go_wp2_with (first | (go_at_call 21; with_reducible refine (HPG.out _ HT.out.kt).mono ?_; rintro e_ w1 ⟨rfl, hb⟩; have HY := Aside0.mk (HX.out.step hb); have HT2 := Aside0.mk (HT.out.step hb); clear HX HT hb; clear n0 n1 o0 o1 o2 o3 o4 o5 t0 t1 t2 t3 t4; have HX := Aside0.mk HY.out; have HT := Aside0.mk HT2.out; clear HY HT2; have n0 := blk_cell HX.out.b0 0; have n1 := blk_cell HX.out.b0 1; have o0 := blk_cell HX.out.b1 0; have o1 := blk_cell HX.out.b1 1; have o2 := blk_cell HX.out.b1 2; have o3 := blk_cell HX.out.b1 3; have o4 := blk_cell HX.out.b1 4; have o5 := blk_cell HX.out.b1 5; have t0 := blk_cell HX.out.b2 0; have t1 := blk_cell HX.out.b2 1; have t2 := blk_cell HX.out.b2 2; have t3 := blk_cell HX.out.b2 3; have t4 := blk_cell HX.out.b2 4; simp only [List.getElem?_toArray, List.getElem?_cons_succ, List.getElem?_cons_zero] at n0 n1 o0 o1 o2 o3 o4 o5 t0 t1 t2 t3 t4) | (go_at_call 20; with_reducible refine (shunterref02_May.calls (W : Int) (hiW X) (loW X) true _ HMY.out).mono ?_; rintro e_ w2 ⟨rfl, hb⟩; have HY := Aside0.mk (HX.out.step hb); have HT2 := Aside0.mk (HT.out.step hb); clear HX HT hb; clear n0 n1 o0 o1 o2 o3 o4 o5 t0 t1 t2 t3 t4; have HX := Aside0.mk HY.out; have HT := Aside0.mk HT2.out; clear HY HT2; have n0 := blk_cell HX.out.b0 0; have n1 := blk_cell HX.out.b0 1; have o0 := blk_cell HX.out.b1 0; have o1 := blk_cell HX.out.b1 1; have o2 := blk_cell HX.out.b1 2; have o3 := blk_cell HX.out.b1 3; have o4 := blk_cell HX.out.b1 4; have o5 := blk_cell HX.out.b1 5; have t0 := blk_cell HX.out.b2 0; have t1 := blk_cell HX.out.b2 1; have t2 := blk_cell HX.out.b2 2; have t3 := blk_cell HX.out.b2 3; have t4 := blk_cell HX.out.b2 4; simp only [List.getElem?_toArray, List.getElem?_cons_succ, List.getElem?_cons_zero] at n0 n1 o0 o1 o2 o3 o4 o5 t0 t1 t2 t3 t4) | (go_at_call 70; with_reducible refine (shunterref20_Get.calls kf Ax cx x (W : Int) (hiW X) (loW X) (j : Int) _ (Kd.R_reads' HT.out.rx).2.2 (Kd.R_reads' HT.out.rx).2.1 HRF.out).mono ?_; rintro e_ w3 ⟨rfl, hb⟩; have HY := Aside0.mk (HX.out.step hb); have HT2 := Aside0.mk (HT.out.step hb); clear HX HT hb; clear n0 n1 o0 o1 o2 o3 o4 o5 t0 t1 t2 t3 t4; have HX := Aside0.mk HY.out; have HT := Aside0.mk HT2.out; clear HY HT2; have n0 := blk_cell HX.out.b0 0; have n1 := blk_cell HX.out.b0 1; have o0 := blk_cell HX.out.b1 0; have o1 := blk_cell HX.out.b1 1; have o2 := blk_cell HX.out.b1 2; have o3 := blk_cell HX.out.b1 3; have o4 := blk_cell HX.out.b1 4; have o5 := blk_cell HX.out.b1 5; have t0 := blk_cell HX.out.b2 0; have t1 := blk_cell HX.out.b2 1; have t2 := blk_cell HX.out.b2 2; have t3 := blk_cell HX.out.b2 3; have t4 := blk_cell HX.out.b2 4; simp only [List.getElem?_toArray, List.getElem?_cons_succ, List.getElem?_cons_zero] at n0 n1 o0 o1 o2 o3 o4 o5 t0 t1 t2 t3 t4; obtain ⟨ad, hA, s0, s1, s2, s3, s4⟩ := at_T45 (Kd.R_reads' HT.out.rx).2.2 (j : Int) hj0 hjl; subst hA; rw [Int.toNat_natCast] at s0 s1 s2 s3 s4; rw [HXJ.out] at s0 s1 s2 s3 s4)); go_ret2; exact ⟨⟨_, rfl, (by intro a b c; first | rfl | (rw [a] at h1; simp at h1; done) | (rw [b] at h2; simp at h2; done) | (cases c; done))⟩, HT.out, HX.out.kp⟩)
end Go.Proofs.Ytfdbcnbakchcgaa.XR
