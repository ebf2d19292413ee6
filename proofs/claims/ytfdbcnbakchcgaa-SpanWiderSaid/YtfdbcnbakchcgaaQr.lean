import Derived.Test.YtfdbcnbakchcgaaWWords
import Derived.Test.YtfdbcnbakchcgaaWMore
import Derived.Test.YtfdbcnbakchcgaaWLast
import Derived.Laws.IdiomCopy
import Derived.Lib.AppendZerosOnto
import Derived.Lib.Overlaps
import Derived.Lib.SliceRun
namespace Go.Proofs.Ytfdbcnbakchcgaa.XQ
open Go.RowKit Go.Proofs.YtfdbcnbakchcgaaW.PrintWords Go.Proofs.YtfdbcnbakchcgaaW.PrintLast Go.Proofs.YtfdbcnbakchcgaaW.PrintMore
attribute [local go_sem] max2_int min2_int max_two min_two max_three min_three max_four min_four
set_option linter.unusedVariables false
set_option linter.unusedSimpArgs false
theorem run_copyK {P : Program} (w : World) (dT sT ty elem : TypeId) (b o dLen dCap : Nat) (a : Addr) (sLen sCap : Nat) (cs : List Value) (S : Nat)
 (hu : P.underlying dT = some (.slice elem)) (hs : (P.info? elem).map (·.size) = some S) (hn : cs.length = Nat.min sLen dLen * S)
 (hsrc : ∀ j v, cs[j]? = some v → w.cell? (a.add j) = some v) (hc : ∀ j, j < cs.length → (w.cell? ⟨b, o + j, none⟩).isSome = true) (hf : ∀ j, j < cs.length → w.frozen? ⟨b, o + j, none⟩ = false) (h1 : ∀ v ∈ cs, v.oneCell' = true) :
 (Builtin.copy_ #[dT, sT] ty #[.slice (some ⟨b, o, none⟩) dLen dCap, .slice (some a) sLen sCap]).run P w = .ok (goInt (Nat.min sLen dLen)) (w.setCells b o cs) := by
 have hl := run_loadCells_list (P := P) w a cs hsrc
 have hst := run_storeCells_cells (P := P) b o cs 0 w (by simpa using hc) (by simpa using hf) h1
 cases hq : P.info? elem with
 | none => simp [hq] at hs
 | some i =>
  have hi : i.size = S := by simpa [hq] using hs
  simp only [Nat.add_zero] at hst
  simp [Builtin.copy_, run_underlying hu, Builtin.lenOf, Builtin.firstCells, sizeOf, typeInfo, hq, hi]
  rw [show min sLen dLen * S = cs.length from hn.symm, hl]
  simp [hst]
theorem shift_list (cur cs ys : List Value) (a s m : Nat) (hcs : cur.take m = cs) (ham : a ≤ m) (hm : m + s ≤ cur.length) (hys : ys.length = s) :
 (((cur.take (a + s) ++ cs.drop a ++ cur.drop (a + s + (m - a))).take a ++ ys) ++ (cur.take (a + s) ++ cs.drop a ++ cur.drop (a + s + (m - a))).drop (a + s)).take (m + s) = cs.take a ++ ys ++ cs.drop a := by
 have hl : cs.length = m := by rw [← hcs, List.length_take]; omega
 have hp : (cur.take (a + s)).length = a + s := by rw [List.length_take]; omega
 have e1 : (cur.take (a + s) ++ cs.drop a ++ cur.drop (a + s + (m - a))).take a = cs.take a := by
  rw [List.append_assoc, List.take_append_of_le_length (by omega), List.take_take, Nat.min_eq_left (by omega), ← hcs, List.take_take, Nat.min_eq_left ham]
 have e2 : (cur.take (a + s) ++ cs.drop a ++ cur.drop (a + s + (m - a))).drop (a + s) = cs.drop a ++ cur.drop (a + s + (m - a)) := by
  rw [List.append_assoc, List.drop_left' hp]
 rw [e1, e2, ← List.append_assoc]
 exact List.take_left' (by simp only [List.length_append, List.length_take, List.length_drop]; omega)
theorem grow_list (cur cs ys : List Value) (a s m : Nat) (hcs : cur.take a = cs.take a) (hl : cs.length = m) (ham : a ≤ m) (hm : m + s ≤ cur.length) (hys : ys.length = s) :
 (((cur.take a ++ ys ++ cur.drop (a + s)).take (a + s) ++ cs.drop a) ++ (cur.take a ++ ys ++ cur.drop (a + s)).drop (a + s + (m - a))).take (m + s) = cs.take a ++ ys ++ cs.drop a := by
 have e1 : (cur.take a ++ ys ++ cur.drop (a + s)).take (a + s) = cs.take a ++ ys := by
  rw [List.take_left' (by simp only [List.length_append, List.length_take]; omega), hcs]
 rw [e1]
 exact List.take_left' (by simp only [List.length_append, List.length_take, List.length_drop]; omega)
def insC (a : Nat) (ys cs : List Value) : List Value := cs.take a ++ ys ++ cs.drop a
theorem own_shift {W W' : World} {base g n c S a : Nat} {e : TypeId} {cs ys : List Value} (hown : W.ownsRow base e S (.slice (some ⟨g, 0, none⟩) n c) n cs) (hroom : n + 1 ≤ c) (ha : a ≤ n) (hys : ys.length = S)
 (hW : W'.heap[g]? = ((W.setCells g ((a + 1) * S) (cs.drop (a * S))).setCells g (a * S) ys).heap[g]?) :
 W'.ownsRow base e S (.slice (some ⟨g, 0, none⟩) (n + 1) c) (n + 1) (insC (a * S) ys cs) := by
 obtain ⟨hl, h⟩ := hown
 rcases h with ⟨hv, _⟩ | ⟨g', cap, cur, hv, hb, hh, hnc, hcm, hcs, ht⟩
 ·cases hv
 injection hv with hv1 _ hv3
 injection hv1 with hv1
 injection hv1 with hv1
 subst hv1 hv3
 have hmul : a * S ≤ n * S := Nat.mul_le_mul_right S ha
 have hm1 : (n + 1) * S ≤ c * S := Nat.mul_le_mul_right S hroom
 have hs1 : (a + 1) * S = a * S + S := by rw [Nat.add_mul, Nat.one_mul]
 have hs2 : (n + 1) * S = n * S + S := by rw [Nat.add_mul, Nat.one_mul]
 have hcl : cur.toList.length = c * S := by rw [Array.length_toList, hcs]
 obtain ⟨cur1, h1, h2, h3⟩ := setCells_row (e := e) (cs.drop (a * S)) ((a + 1) * S) W cur hh (by rw [List.length_drop]; omega)
 obtain ⟨cur2, h4, h5, h6⟩ := setCells_row (e := e) ys (a * S) _ cur1 h1 (by rw [h2]; omega)
 refine ⟨by simp only [insC, List.length_append, List.length_take, List.length_drop]; omega, .inr ⟨g, c, cur2, rfl, hb, by rw [hW]; exact h4, hroom, hcm, by rw [h5, h2, hcs], ?_⟩⟩
 have := shift_list cur.toList cs ys (a * S) S (n * S) ht hmul (by omega) hys
 rw [h6, h3, hys, hs1, hs2, List.length_drop, hl]
 exact this
theorem own_grow {W W' : World} {base N n G S a : Nat} {e : TypeId} {cs ys : List Value} {ROW : Array Value} (hb : base ≤ N) (hl : cs.length = n * S) (ha : a ≤ n) (hys : ys.length = S) (hG : n + 1 ≤ G) (hGm : G ≤ maxLen)
 (hR : W.heap[N]? = some (.cells ROW e (0, 0))) (hRs : ROW.size = G * S) (hRt : ROW.toList.take (a * S) = cs.take (a * S))
 (hW : W'.heap[N]? = ((W.setCells N (a * S) ys).setCells N ((a + 1) * S) (cs.drop (a * S))).heap[N]?) :
 W'.ownsRow base e S (.slice (some ⟨N, 0, none⟩) (n + 1) G) (n + 1) (insC (a * S) ys cs) := by
 have hmul : a * S ≤ n * S := Nat.mul_le_mul_right S ha
 have hm1 : (n + 1) * S ≤ G * S := Nat.mul_le_mul_right S hG
 have hs1 : (a + 1) * S = a * S + S := by rw [Nat.add_mul, Nat.one_mul]
 have hs2 : (n + 1) * S = n * S + S := by rw [Nat.add_mul, Nat.one_mul]
 have hcl : ROW.toList.length = G * S := by rw [Array.length_toList, hRs]
 obtain ⟨cur1, h1, h2, h3⟩ := setCells_row (e := e) ys (a * S) W ROW hR (by omega)
 obtain ⟨cur2, h4, h5, h6⟩ := setCells_row (e := e) (cs.drop (a * S)) ((a + 1) * S) _ cur1 h1 (by rw [h2, List.length_drop]; omega)
 refine ⟨by simp only [insC, List.length_append, List.length_take, List.length_drop]; omega, .inr ⟨N, G, cur2, rfl, hb, by rw [hW]; exact h4, hG, hGm, by rw [h5, h2, hRs], ?_⟩⟩
 have := grow_list ROW.toList cs ys (a * S) S (n * S) hRt hl hmul (by omega) hys
 rw [h6, h3, hys, hs1, hs2, List.length_drop, hl]
 exact this
theorem isSome_row {w : World} {g : Nat} {e : TypeId} {cur : Array Value} (h : w.heap[g]? = some (.cells cur e (0, 0))) (j : Nat) (hj : j < cur.size) : (w.cell? ⟨g, j, none⟩).isSome = true := by
 rw [blk_cell h j, Array.getElem?_eq_getElem hj]; rfl
theorem isSome_set (b : Nat) (vs : List Value) (o : Nat) (w : World) (h : ∀ j, j < vs.length → (w.cell? ⟨b, o + j, none⟩).isSome = true) (k : Nat) (hk : (w.cell? ⟨b, k, none⟩).isSome = true) : ((w.setCells b o vs).cell? ⟨b, k, none⟩).isSome = true := by
 by_cases hin : o ≤ k ∧ k < o + vs.length
 ·have := World.cell?_setCells_in b vs o w h (k - o) (by omega)
  rw [show o + (k - o) = k by omega] at this
  rw [this]; rfl
 ·rw [World.cell?_setCells_out b vs o w ⟨b, k, none⟩ (fun _ _ => by show k < o ∨ o + vs.length ≤ k; omega)]
  exact hk
theorem grown_setCells {w : World} (g : Nat) (o : Nat) (vs : List Value) : w.grownBy (w.setCells g o vs) (some g) := by
 obtain ⟨h1, h2, h3, h4⟩ := setCells_same g vs o w
 exact ⟨h1, h2, h3, by rw [h4]; exact Nat.le_refl _, fun k _ hk => setCells_far vs o k (fun e => hk (by rw [e]))⟩
theorem wp_copyR (w : World) {P : Program} {o : Oper} {a : Act} {K : Act → World → Prop} {Q : Exit → Act → World → Prop} (d s : Operand) (t t' : TypeId)
 (ho : o.op = .call { callee := .builtin .copy, args := #[d, s], argTypes := #[t, t'] }) (v u : Value) (hd : a.eval d = v) (hs : a.eval s = u) {v' : Value} {w' : World}
 (hr : (Builtin.copy_ #[t, t'] o.type #[v, u]).run P w = .ok v' w') (h : K (a.put o.dst v') w') : o.wp P a w K Q := by
 unfold Oper.wp execOp
 simp only [ho, resolve, invoke, builtin, Sem.run_bind, Sem.run_pure, Result.andThen_ok, List.map_toArray, List.map_cons, List.map_nil, hd, hs, hr]
 exact h
theorem wpList_copyR (w : World) {P : Program} {ops : Array Oper} {rest : List Oper} {o : Oper} {a : Act} {Q : Exit → Act → World → Prop} (hgd : o.guard = none) (d s : Operand) (t t' : TypeId)
 (ho : o.op = .call { callee := .builtin .copy, args := #[d, s], argTypes := #[t, t'] }) (v u : Value) (hd : a.eval d = v) (hs : a.eval s = u) {v' : Value} {w' : World}
 (hr : (Builtin.copy_ #[t, t'] o.type #[v, u]).run P w = .ok v' w') (h : wpList P ops Q rest (a.put o.dst v') w') : wpList P ops Q (o :: rest) a w :=
 wpList_plain hgd fun _ hK => wp_copyR w d s t t' ho v u hd hs hr (hK _ _ h)
theorem step_copyR {P : Program} {ops : Array Oper} {o : Oper} {a : Act} {w : World} {K : Act → World → Prop} {Q : Exit → Act → World → Prop} {E : Prop}
 (hg : o.guard = none) (d x : Operand) (dT sT : TypeId) (hop : o.op = Op.call { callee := Callee.builtin Builtin.copy, args := #[d, x], argTypes := #[dT, sT] })
 (v u : Value) (hd : a.eval d = v) (hx : a.eval x = u) {v' : Value} {w' : World} (hr : (Builtin.copy_ #[dT, sT] o.type #[v, u]).run P w = .ok v' w') (hK : K (a.put o.dst v') w') :
 if Region.wanted o (yielded ops a.tmps) = true then Oper.wp P o a w K Q else E := by
 have hw : Region.wanted o (yielded ops a.tmps) = true := by simp [Region.wanted, hg]
 rw [if_pos hw]
 unfold Oper.wp
 simp [execOp, hop, resolve, invoke, builtin, hd, hx, hr, Result.andThen]
 exact hK
theorem R_inserted {α : Type} {d : Kd α} {e base : Nat} {ok okp : Nat → Prop} {W w1 : World} {v v1 : Value} {xs : List α} {p : α} {inner cs : List Value} {i : Nat} (h0 : ∀ k, v.ownBlock = some k → ok k) (hr : Reps (d.M W base (fun k => ok k ∧ some k ≠ v.ownBlock)) d.sz xs inner) (hp : d.M W base okp p cs) (hokp : ∀ k, okp k → ok k ∧ some k ≠ v.ownBlock) (hfresh : ∀ k, W.heap.size ≤ k → ok k) (hi : i ≤ xs.length)
 (hown : w1.ownsRow base e d.sz v1 (xs.length + 1) (insC (i * d.sz) cs inner)) (hg : W.grownBy w1 v.ownBlock) (hat : v1.ownBlock = v.ownBlock ∨ ∃ b, v1.ownBlock = some b ∧ W.heap.size ≤ b) : d.R e w1 base ok v1 (xs.take i ++ p :: xs.drop i) := by
 have hne : ∀ k, some k ≠ v.ownBlock → k < W.heap.size → some k ≠ v1.ownBlock := by
  intro k hk hlt
  rcases hat with hat | ⟨b, hb, hle⟩
  ·rw [hat]; exact hk
  ·rw [hb]
   intro he
   injection he with he
   omega
 have step : ∀ {q : α} {c : List Value} {o : Nat → Prop}, d.M W base o q c → (∀ k, o k → ok k ∧ some k ≠ v.ownBlock) → d.M w1 base (fun k => ok k ∧ some k ≠ v1.ownBlock) q c := by
  intro q c o hq ho
  have h1 := d.M_move (w1 := w1) (fun k hk => hg.block k hk.2.2.1 (ho k hk.1).2) (d.M_bound hq)
  exact d.M_mono (fun k hk => ⟨(ho k hk.1).1, hne k (ho k hk.1).2 hk.2.2.1⟩) h1
 have hlen : (xs.take i ++ p :: xs.drop i).length = xs.length + 1 := by simp only [List.length_append, List.length_cons, List.length_take, List.length_drop]; omega
 refine ⟨fun k hk => ?_, insC (i * d.sz) cs inner, by rw [hlen]; exact hown, ?_⟩
 ·rcases hat with hat | ⟨b, hb, hle⟩
  ·exact h0 k (hat ▸ hk)
  ·rw [hb] at hk
   injection hk with hk
   exact hfresh k (by omega)
 ·have hr' := hr.imp_ (fun _ _ hq => step hq (fun _ hk => hk))
  have hp' := step hp hokp
  have h1 := (Kd.reps_take hr' hi).snoc hp' (d.K_len (d.K_of_M hp))
  have h2 := Kd.reps_append h1 (Kd.reps_drop (m := i) hr')
  rw [List.append_assoc, List.singleton_append] at h2
  exact h2
end Go.Proofs.Ytfdbcnbakchcgaa.XQ
