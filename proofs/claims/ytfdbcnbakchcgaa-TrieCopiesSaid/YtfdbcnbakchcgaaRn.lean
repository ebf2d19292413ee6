import Derived.Test.YtfdbcnbakchcgaaSr
import Derived.Test.YtfdbcnbakchcgaaRl
namespace Go.Proofs.Ytfdbcnbakchcgaa.XR
open Go.RowKit Go.Proofs.YtfdbcnbakchcgaaW.PrintWords Go.Proofs.YtfdbcnbakchcgaaW.PrintLast Go.Proofs.YtfdbcnbakchcgaaW.PrintMore
attribute [local go_sem] max2_int min2_int max_two min_two max_three min_three max_four min_four   -- for this text's walks alone
set_option linter.unusedVariables false
set_option linter.unusedSimpArgs false
structure S44 where
 f0 : S32
 f1 : Int
 f2 : Int
def z44 : S44 := ⟨z32, (0 : Int), (0 : Int)⟩
def k44 : Kd S44 := Kd.iso (Kd.pair k32 (Kd.pair (Kd.int .i64) (Kd.int .i64))) (fun x : S44 => (x.f0, x.f1, x.f2))
theorem k44_open {w : World} {x : S44} {cs : List Value} (h : k44.K w x cs) : cs = [.int .i64 x.f0.f0, .int .u64 x.f0.f1, .int .u64 x.f0.f2, .int .i64 x.f1, .int .i64 x.f2] := by
 obtain ⟨_, _, rfl, s0, ⟨_, _, rfl, rfl, rfl⟩⟩ := h
 obtain rfl := k32_open s0
 exact rfl
theorem k44_openM {w : World} {base : Nat} {ok : Nat → Prop} {x : S44} {cs : List Value} (h : k44.M w base ok x cs) : cs = [.int .i64 x.f0.f0, .int .u64 x.f0.f1, .int .u64 x.f0.f2, .int .i64 x.f1, .int .i64 x.f2] := by
 obtain ⟨_, _, rfl, s0, ⟨_, _, rfl, rfl, rfl⟩⟩ := h
 obtain rfl := k32_openM s0
 exact rfl
theorem k44_mkM (w : World) (base : Nat) (ok : Nat → Prop) (x : S44)  : k44.M w base ok x [.int .i64 x.f0.f0, .int .u64 x.f0.f1, .int .u64 x.f0.f2, .int .i64 x.f1, .int .i64 x.f2] := ⟨[.int .i64 x.f0.f0, .int .u64 x.f0.f1, .int .u64 x.f0.f2], [.int .i64 x.f1, .int .i64 x.f2], rfl, (k32_mkM w base ok x.f0 ), ⟨[.int .i64 x.f1], [.int .i64 x.f2], rfl, rfl, rfl⟩⟩
def rd_T44 (xs : List S44) (i : Int) : S44 := xs.getD i.toNat z44
theorem at_T44 {w : World} {A : Option Addr} {n : Nat} {xs : List S44} (h : Kd.C k44 w A n xs) (i : Int) (h0 : 0 ≤ i) (h1 : i < n) : ∃ ad , A = some ad ∧ w.cell? (ad.add (i.toNat * 5)) = some (.int .i64 (rd_T44 xs i).f0.f0) ∧ w.cell? ⟨(ad.add (i.toNat * 5)).block, (ad.add (i.toNat * 5)).off + 1, none⟩ = some (.int .u64 (rd_T44 xs i).f0.f1) ∧ w.cell? ⟨(ad.add (i.toNat * 5)).block, (ad.add (i.toNat * 5)).off + 2, none⟩ = some (.int .u64 (rd_T44 xs i).f0.f2) ∧ w.cell? ⟨(ad.add (i.toNat * 5)).block, (ad.add (i.toNat * 5)).off + 3, none⟩ = some (.int .i64 (rd_T44 xs i).f1) ∧ w.cell? ⟨(ad.add (i.toNat * 5)).block, (ad.add (i.toNat * 5)).off + 4, none⟩ = some (.int .i64 (rd_T44 xs i).f2) := by
 obtain ⟨ad, c, e, _, hK, hc0⟩ := Kd.C_get h z44 i h0 h1
 have hc : ∀ j u, c[j]? = some u → w.cell? (ad.add (i.toNat * 5 + j)) = some u := hc0
 obtain rfl := k44_open hK
 exact ⟨ad, e, hc 0 _ rfl, by rw [← add_field _ _ 1 (by omega)]; exact hc 1 _ rfl, by rw [← add_field _ _ 2 (by omega)]; exact hc 2 _ rfl, by rw [← add_field _ _ 3 (by omega)]; exact hc 3 _ rfl, by rw [← add_field _ _ 4 (by omega)]; exact hc 4 _ rfl⟩
theorem info44 : (Try.prog.info? 44).map (fun i => (i.zero, i.size, i.bytes)) = some (some (.agg #[(.int .i64 0), (.int .u64 0), (.int .u64 0), (.int .i64 0), (.int .i64 0)]), 5, 40) := by kernel_rfl
/-- The prefixes below a node, in order: d levels. -/
def walkT (l : List TI) : Nat → Nat → Nat → List TI
 | 0, _, _ => []
 | d + 1, i, k => if nodeAt l i k = none then [] else (if (lookT l i k).1 = true then [⟨i, k, (lookT l i k).2⟩] else []) ++ (walkT l d (i + 1) (2 * k) ++ walkT l d (i + 1) (2 * k + 1))
theorem walkT_none {l : List TI} {d i k : Nat} (h : nodeAt l i k = none) : walkT l d i k = [] := by
 cases d with
 | zero => rfl
 | succ d => unfold walkT; rw [if_pos h]
theorem lookT_in {l : List TI} {i k : Nat} {n : Int} (h : lookT l i k = (true, n)) : ∃ z ∈ l, z.len = i ∧ z.key = k ∧ z.n = n := by
 unfold lookT at h
 cases hf : l.find? (fun y => y.len == i && y.key == k) with
 | none => rw [hf] at h; cases h
 | some z =>
  rw [hf] at h
  have hz := List.find?_some hf
  simp only [Bool.and_eq_true, beq_iff_eq] at hz
  injection h with _ h
  exact ⟨z, List.mem_of_find?_eq_some hf, hz.1, hz.2, h⟩
theorem mem_walk (l : List TI) (y : TI) : ∀ (d i k : Nat), y ∈ walkT l d i k ↔ i ≤ y.len ∧ y.len < i + d ∧ y.key / 2 ^ (y.len - i) = k ∧ lookT l y.len y.key = (true, y.n)
 | 0, i, k => by
  unfold walkT
  constructor
  ·intro h; cases h
  ·rintro ⟨h1, h2, _⟩; omega
 | d + 1, i, k => by
  have h0 := mem_walk l y d (i + 1) (2 * k)
  have h1 := mem_walk l y d (i + 1) (2 * k + 1)
  unfold walkT
  by_cases c : nodeAt l i k = none
  ·rw [if_pos c]
   constructor
   ·intro h; cases h
   ·rintro ⟨e1, _, e3, e4⟩
    obtain ⟨z, hz, z1, z2, _⟩ := lookT_in e4
    unfold nodeAt at c
    rw [if_pos (.inr ((nodeIn_iff l i k).2 ⟨z, hz, by omega, by rw [z1, z2]; exact e3⟩))] at c
    cases c
  ·rw [if_neg c, List.mem_append, List.mem_append, h0, h1]
   constructor
   ·rintro (h | h | h)
    ·by_cases e : (lookT l i k).1 = true
     ·rw [if_pos e] at h
      obtain rfl := List.mem_singleton.1 h
      refine ⟨Nat.le_refl _, by simp only; omega, by simp, ?_⟩
      simp only
      rw [← e]
     ·rw [if_neg e] at h; cases h
    ·obtain ⟨a1, a2, a3, a4⟩ := h
     refine ⟨by omega, by omega, ?_, a4⟩
     rw [div_step _ _ _ a1, a3]; omega
    ·obtain ⟨a1, a2, a3, a4⟩ := h
     refine ⟨by omega, by omega, ?_, a4⟩
     rw [div_step _ _ _ a1, a3]; omega
   ·rintro ⟨e1, e2, e3, e4⟩
    by_cases e : y.len = i
    ·left
     rw [e, Nat.sub_self, Nat.pow_zero, Nat.div_one] at e3
     rw [e, e3] at e4
     rw [e4, if_pos rfl]
     refine List.mem_singleton.2 ?_
     rcases y with ⟨a, b, c⟩
     simp only at e e3
     rw [e, e3]
    ·right
     rw [div_step _ _ _ (by omega)] at e3
     rcases Nat.mod_two_eq_zero_or_one (y.key / 2 ^ (y.len - (i + 1))) with c2 | c2
     ·left; exact ⟨by omega, by omega, by omega, e4⟩
     ·right; exact ⟨by omega, by omega, by omega, e4⟩
def word_Or.f (a0_0 : Int) (a0_1 : Int) (a1_0 : Int) (a1_1 : Int) : Option (Int × Int) := some (Go.bits .or .u64 a0_0 a1_0, Go.bits .or .u64 a0_1 a1_1)
set_option maxHeartbeats 8000000 in
set_option maxRecDepth 100000 in
theorem word_Or.calls (a0_0 : Int) (a0_1 : Int) (a1_0 : Int) (a1_1 : Int) (r1 : Int) (r2 : Int) (w : World) (h : word_Or.f a0_0 a0_1 a1_0 a1_1 = some (r1, r2)) :
 Calls Try.prog 77 #[.agg #[.int .u64 a0_0, .int .u64 a0_1], .agg #[.int .u64 a1_0, .int .u64 a1_1]] w fun e w' => e = .returned (.agg #[.int .u64 r1, .int .u64 r2]) ∧ Below w.heap.size w w' := by
 have hu130 := Try.underlying130
 have HB := Aside0.mk (Below.refl w.heap.size w)
 have H : (some (Go.bits .or .u64 a0_0 a1_0, Go.bits .or .u64 a0_1 a1_1)) = some (r1, r2) := h
 clear h
 simp only [Option.some.injEq, Prod.mk.injEq] at H
 obtain ⟨rfl, rfl⟩ := H
 go_enter Try.func77, Try.ntmps77
 go_wp2_with (first | ((with_reducible refine gate_dst (N := 2) rfl ?_); refine box_event ?hg (N := 2) ?hd (cs := #[.int .u64 a0_0, .int .u64 a0_1]) (t := 130) ?hr ?_; (case hd => rfl); (case hg => rfl); (case hr => first | (go_simp; done) | (go_simp; rfl)); intro gb123 hg w3 hbox hb; have BK123 := Aside0.mk (hbox); have GW123 := Aside0.mk ((by rw [hg]; exact (below_size (by repeat (first | (with_reducible first | exact HB.out | apply below_alloc | apply pw_below_drewN | apply below_drew1) | exact HB.out))) : w.heap.size ≤ gb123)); have GE123 := Aside0.mk ((by rw [hg]; exact (below_size (by repeat (first | (with_reducible first | exact HB.out | apply below_alloc | apply pw_below_drewN | apply below_drew1) | exact HB.out))) : w.heap.size ≤ gb123)); replace HB := Aside0.mk (below_step (by repeat (first | (with_reducible first | exact HB.out | apply below_alloc | apply pw_below_drewN | apply below_drew1) | exact HB.out)) hb); clear hb hbox hg) | ((with_reducible refine gate_dst (N := 3) rfl ?_); refine box_event ?hg (N := 3) ?hd (cs := #[.int .u64 a1_0, .int .u64 a1_1]) (t := 130) ?hr ?_; (case hd => rfl); (case hg => rfl); (case hr => first | (go_simp; done) | (go_simp; rfl)); intro gb124 hg w4 hbox hb; have BK124 := Aside0.mk (hbox); have GW124 := Aside0.mk ((by rw [hg]; exact (below_size (by repeat (first | (with_reducible first | exact HB.out | apply below_alloc | apply pw_below_drewN | apply below_drew1 | refine below_set ?_ GE123.out) | exact HB.out))) : w.heap.size ≤ gb124)); have GE124 := Aside0.mk ((by rw [hg]; exact (below_size (by repeat (first | (with_reducible first | exact HB.out | apply below_alloc | apply pw_below_drewN | apply below_drew1 | refine below_set ?_ GE123.out) | exact HB.out))) : w.heap.size ≤ gb124)); have NB123_124 := Aside0.mk ((by rw [hg]; exact Nat.ne_of_lt (blk_lt (g := gb123) (o := .cells #[.int .u64 a0_0, .int .u64 a0_1] 130 (0, 0)) (by (with_reducible repeat (first | refine blk_drewN ?_ _ | refine blk_drew ?_ | refine blk_alloc ?_ _)); exact BK123.out)) : gb123 ≠ gb124)); have NB124_123 := Aside0.mk ((by rw [hg]; exact Nat.ne_of_gt (blk_lt (g := gb123) (o := .cells #[.int .u64 a0_0, .int .u64 a0_1] 130 (0, 0)) (by (with_reducible repeat (first | refine blk_drewN ?_ _ | refine blk_drew ?_ | refine blk_alloc ?_ _)); exact BK123.out)) : gb124 ≠ gb123)); replace BK123 := bk1 (by (with_reducible repeat (first | refine blk_drewN ?_ _ | refine blk_drew ?_ | refine blk_alloc ?_ _)); exact BK123.out) hb; replace HB := Aside0.mk (below_step (by repeat (first | (with_reducible first | exact HB.out | apply below_alloc | apply pw_below_drewN | apply below_drew1 | refine below_set ?_ GE123.out) | exact HB.out)) hb); clear hb hbox hg) | ((with_reducible refine gate_dst (N := 4) rfl ?_); refine box_event ?hg (N := 4) ?hd (cs := #[.int .u64 0, .int .u64 0]) (t := 130) ?hr ?_; (case hd => rfl); (case hg => rfl); (case hr => first | (go_simp; done) | (go_simp; rfl)); intro gb125 hg w5 hbox hb; have BK125 := Aside0.mk (hbox); have GW125 := Aside0.mk ((by rw [hg]; exact (below_size (by repeat (first | (with_reducible first | exact HB.out | apply below_alloc | apply pw_below_drewN | apply below_drew1 | refine below_set ?_ GE123.out | refine below_set ?_ GE124.out) | exact HB.out))) : w.heap.size ≤ gb125)); have GE125 := Aside0.mk ((by rw [hg]; exact (below_size (by repeat (first | (with_reducible first | exact HB.out | apply below_alloc | apply pw_below_drewN | apply below_drew1 | refine below_set ?_ GE123.out | refine below_set ?_ GE124.out) | exact HB.out))) : w.heap.size ≤ gb125)); have NB123_125 := Aside0.mk ((by rw [hg]; exact Nat.ne_of_lt (blk_lt (g := gb123) (o := .cells #[.int .u64 a0_0, .int .u64 a0_1] 130 (0, 0)) (by (with_reducible repeat (first | refine blk_drewN ?_ _ | refine blk_drew ?_ | refine blk_alloc ?_ _)); exact BK123.out)) : gb123 ≠ gb125)); have NB125_123 := Aside0.mk ((by rw [hg]; exact Nat.ne_of_gt (blk_lt (g := gb123) (o := .cells #[.int .u64 a0_0, .int .u64 a0_1] 130 (0, 0)) (by (with_reducible repeat (first | refine blk_drewN ?_ _ | refine blk_drew ?_ | refine blk_alloc ?_ _)); exact BK123.out)) : gb125 ≠ gb123)); have NB124_125 := Aside0.mk ((by rw [hg]; exact Nat.ne_of_lt (blk_lt (g := gb124) (o := .cells #[.int .u64 a1_0, .int .u64 a1_1] 130 (0, 0)) (by (with_reducible repeat (first | refine blk_drewN ?_ _ | refine blk_drew ?_ | refine blk_alloc ?_ _)); exact BK124.out)) : gb124 ≠ gb125)); have NB125_124 := Aside0.mk ((by rw [hg]; exact Nat.ne_of_gt (blk_lt (g := gb124) (o := .cells #[.int .u64 a1_0, .int .u64 a1_1] 130 (0, 0)) (by (with_reducible repeat (first | refine blk_drewN ?_ _ | refine blk_drew ?_ | refine blk_alloc ?_ _)); exact BK124.out)) : gb125 ≠ gb124)); replace BK123 := bk1 (by (with_reducible repeat (first | refine blk_drewN ?_ _ | refine blk_drew ?_ | refine blk_alloc ?_ _)); exact BK123.out) hb; replace BK124 := bk1 (by (with_reducible repeat (first | refine blk_drewN ?_ _ | refine blk_drew ?_ | refine blk_alloc ?_ _)); exact BK124.out) hb; replace HB := Aside0.mk (below_step (by repeat (first | (with_reducible first | exact HB.out | apply below_alloc | apply pw_below_drewN | apply below_drew1 | refine below_set ?_ GE123.out | refine below_set ?_ GE124.out) | exact HB.out)) hb); clear hb hbox hg; have hnb6 := NB123_124.out; have hnc6 := NB124_123.out; have hnb7 := NB123_125.out; have hnc7 := NB125_123.out; obtain ⟨hcz8_0, hcz8_1, hfz8_0, hfz8_1⟩ := cl2 BK123.out; have hnb9 := NB124_125.out; have hnc9 := NB125_124.out; obtain ⟨hcz10_0, hcz10_1, hfz10_0, hfz10_1⟩ := cl2 BK124.out; obtain ⟨hcz11_0, hcz11_1, hfz11_0, hfz11_1⟩ := cl2 BK125.out))
 refine bodyPost_ret (results_cell_row rfl _ _ gb125 130 #[.int .u64 (Go.bits .or .u64 a0_0 a1_0), .int .u64 (Go.bits .or .u64 a0_1 a1_1)] (0, 0) _ rfl (by (with_reducible repeat (first | refine blk_drewN ?_ _ | refine blk_drew ?_ | refine blk_alloc ?_ _)); refine blk_put (cs := #[.int .u64 (Go.bits .or .u64 a0_0 a1_0), .int .u64 0]) ?_ 1 _ rfl; (with_reducible repeat (first | refine blk_drewN ?_ _ | refine blk_drew ?_ | refine blk_alloc ?_ _)); refine blk_put (cs := #[.int .u64 0, .int .u64 0]) ?_ 0 _ rfl; (with_reducible repeat (first | refine blk_drewN ?_ _ | refine blk_drew ?_ | refine blk_alloc ?_ _)); exact BK125.out) Try.underlying130 rfl (by kernel_rfl)) rfl ?_
 exact ⟨by first | rfl | (simp [errW_none, errW_some] <;> rfl) | (simp [*, errW_none, errW_some] <;> rfl), by repeat (first | (with_reducible first | exact HB.out | apply below_alloc | apply pw_below_drewN | apply below_drew1 | refine below_set ?_ GE123.out | refine below_set ?_ GE124.out | refine below_set ?_ GE125.out) | exact HB.out)⟩
theorem word_Or_eq (X Y : Nat) : word_Or.f (hiW X) (loW X) (hiW Y) (loW Y) = some (hiW (X ||| Y), loW (X ||| Y)) := by
 unfold word_Or.f hiW loW
 rw [bits_or_u64_nat _ _ (Nat.mod_lt _ (by decide)) (Nat.mod_lt _ (by decide)), bits_or_u64_nat _ _ (Nat.mod_lt _ (by decide)) (Nat.mod_lt _ (by decide))]
 congr 4
 ·apply Nat.eq_of_testBit_eq; intro i
  rw [Nat.testBit_or, hiW_tb, hiW_tb, hiW_tb, Nat.testBit_or]
  cases decide (i < 64) <;> simp
 ·apply Nat.eq_of_testBit_eq; intro i
  rw [Nat.testBit_or, loW_tb, loW_tb, loW_tb, Nat.testBit_or]
  cases decide (i < 64) <;> simp
/-- The prefix as the program lists it. -/
def outT (W : Nat) (y : TI) : S44 := ⟨⟨(W : Int), hiW (y.key * 2 ^ (W - y.len)), loW (y.key * 2 ^ (W - y.len))⟩, (y.len : Int), y.n⟩
theorem R44_only {w : World} {base : Nat} {ok : Nat → Prop} {v : Value} {xs : List S44} (h : Kd.R k44 44 w base ok v xs) : Kd.R k44 44 w base (fun k => some k = v.ownBlock) v xs :=
 ⟨fun k hk => hk.symm, h.2.imp_ (fun x _ hp => by have e := k44_openM hp; subst e; exact k44_mkM _ _ _ x)⟩
def W75 (pb pl pw : Nat) : Value := .func (.func 75) #[] #[.pointer (some ⟨pb, 0, none⟩), .pointer (some ⟨pl, 0, none⟩), .pointer (some ⟨pw, 0, none⟩)]
/-- A call of a function value that captures. -/
theorem goesW_ {P : Program} {ops : Array Oper} {Q : Exit → Act → World → Prop} {oi : Oper} {N : Option Tmp} {a : Act} {w : World} {K : Act → World → Prop} {f : FuncId} {fn : Func} {x : Operand} {ops2 : Array Operand} {ts : Array TypeId} {caps : Array Value} (hf : P.funcs[f]? = some fn) (hname : (fn.name == "runtime.NumGoroutine") = false) (hb : fn.body.isSome = true) (args : Array Value)
 (hw : Region.wanted oi (yielded ops a.tmps) = true) (hN : oi.dst = N) (hop : oi.op = .call { callee := .value x, args := ops2, argTypes := ts }) (hx : a.eval x = .func (.func f) #[] caps) (hargs : ops2.map a.eval ++ caps = args)
 (h : Calls P f args w fun e w' => ∃ v, e = .returned v ∧ K (a.put N v) w') : if Region.wanted oi (yielded ops a.tmps) = true then Oper.wp P oi a w K Q else K (a.put N undef) w := by
 refine call_ f args hw hN ?_ h
 have he := enters_ hf hname hb args w
 unfold execOp
 simp [hop, resolve, Deferred.ofValue, invoke, hx, hargs, he]
/-- What stands while a trie is listed. -/
structure CLs (w00 w0 w : World) (g pb pl pw : Nat) (M : NM) (W : Nat) (m N : Int) (v : Value) (out : List S44) : Prop where
 kt : KT w00 w0 g M (W : Int) m N
 bb : w.heap[pb]? = some (.cells #[.pointer (some ⟨g, 0, none⟩)] 24 (0, 0))
 bw : w.heap[pw]? = some (.cells #[W75 pb pl pw] 128 (0, 0))
 bl : w.heap[pl]? = some (.cells #[v] 40 (0, 0))
 row : Kd.R k44 44 w w0.heap.size (fun k => some k = v.ownBlock) v out
 bel : Below w0.heap.size w0 w
 gp : w0.heap.size ≤ pl
theorem CLs.step {w00 w0 w w1 : World} {g pb pl pw : Nat} {M : NM} {W : Nat} {m N : Int} {v : Value} {out : List S44} (h : CLs w00 w0 w g pb pl pw M W m N v out) (hb : Below w.heap.size w w1) : CLs w00 w0 w1 g pb pl pw M W m N v out :=
 ⟨h.kt, blk_below h.bb hb, blk_below h.bw hb, blk_below h.bl hb, Kd.R_below h.row hb, below_step h.bel hb, h.gp⟩
/-- The blocks that listing writes. -/
def SKl (pl : Nat) (v : Value) (k : Nat) : Prop := k = pl ∨ some k = v.ownBlock
theorem or_shl (k s : Nat) : (2 * k) * 2 ^ s ||| 2 ^ s = (2 * k + 1) * 2 ^ s := by
 refine Nat.eq_of_testBit_eq fun i => ?_
 rw [Nat.testBit_or, tb_shl, tb_shl, Nat.testBit_two_pow]
 by_cases c : s ≤ i
 ·rw [decide_eq_true c, Bool.true_and, Bool.true_and]
  obtain ⟨j, rfl⟩ : ∃ j, i = s + j := ⟨i - s, by omega⟩
  rw [show s + j - s = j by omega]
  cases j with
  | zero => simp [Nat.testBit_zero]
  | succ j =>
   rw [Nat.testBit_succ, Nat.testBit_succ, show 2 * k / 2 = k by omega, show (2 * k + 1) / 2 = k by omega, decide_eq_false (by omega), Bool.or_false]
 ·rw [decide_eq_false c, decide_eq_false (by omega)]; rfl
/-- The slice's cell and rows behind an append. -/
theorem CLs.app {w00 w0 w w1 : World} {g pb pl pw : Nat} {M : NM} {W : Nat} {m N : Int} {v v1 : Value} {out : List S44} {p : S44} {ok : Nat → Prop} (h : CLs w00 w0 w g pb pl pw M W m N v out)
 (hr : Kd.R k44 44 w1 w0.heap.size ok v1 (out ++ [p])) (hb : Below w0.heap.size w0 w1) (hg : w.grownBy w1 v.ownBlock) :
 CLs w00 w0 (w1.setCell ⟨pl, 0, none⟩ v1) g pb pl pw M W m N v1 (out ++ [p]) ∧ Kept w (w1.setCell ⟨pl, 0, none⟩ v1) (SKl pl v) := by
 have hk0 : Kept w w1 (fun k => some k = v.ownBlock) := Kept.of_grown hg (Kept.of_below (Below.refl _ _) _) (fun k e => .inl e.symm)
 have hk : Kept w (w1.setCell ⟨pl, 0, none⟩ v1) (SKl pl v) := by
  have h6 : Kept w w1 (SKl pl v) := hk0.mono (fun k e => Or.inr e)
  exact h6.setCell (p := ⟨pl, 0, none⟩) (.inl (.inl rfl)) _
 have own : ∀ (q : Nat) (cs : Array Value) (t : TypeId), w.heap[q]? = some (.cells cs t (0, 0)) → t ≠ 44 → ¬ some q = v.ownBlock := by
  intro q cs t hq ht e
  obtain ⟨cur, hc⟩ := R_blk h.row q e
  exact blk_ne hq hc ht rfl
 have stay : ∀ (q : Nat) (cs : Array Value) (t : TypeId), w.heap[q]? = some (.cells cs t (0, 0)) → t ≠ 44 → t ≠ 40 → ¬ SKl pl v q := by
  intro q cs t hq ht h40 e
  rcases e with e | e
  ·subst e; exact blk_ne hq h.bl h40 rfl
  ·exact own q cs t hq ht e
 have hl1 : w1.heap[pl]? = some (.cells #[v] 40 (0, 0)) := blk_kept h.bl hk0 (own _ _ _ h.bl (by decide))
 have hpo : ∀ k, some k = v1.ownBlock → k ≠ pl := by
  intro k e e2
  obtain ⟨cur, hc⟩ := R_blk hr k e
  subst e2
  exact blk_ne hl1 hc (by decide) rfl
 exact ⟨⟨h.kt, blk_kept h.bb hk (stay _ _ _ h.bb (by decide) (by decide)), blk_kept h.bw hk (stay _ _ _ h.bw (by decide) (by decide)), blk_put hl1 0 _ rfl, Kd.R_far (R44_only hr) (p := ⟨pl, 0, none⟩) (fun k e => hpo k e) _, hb.setCell (p := ⟨pl, 0, none⟩) h.gp _, h.gp⟩, hk⟩
theorem CLs.ktw {w00 w0 w : World} {g pb pl pw : Nat} {M : NM} {W : Nat} {m N : Int} {v : Value} {out : List S44} (h : CLs w00 w0 w g pb pl pw M W m N v out) : KT w00 w g M (W : Int) m N := h.kt.step h.bel
/-- What stands behind a listing of some prefixes. -/
def WPost (w00 w0 w w' : World) (g pb pl pw : Nat) (M : NM) (W : Nat) (m N : Int) (v : Value) (out : List S44) : Prop :=
 ∃ v', CLs w00 w0 w' g pb pl pw M W m N v' out ∧ Kept w w' (SKl pl v) ∧ ∀ k, some k = v'.ownBlock → some k = v.ownBlock ∨ w.heap.size ≤ k
theorem WPost.start {w00 w0 w w' : World} {g pb pl pw : Nat} {M : NM} {W : Nat} {m N : Int} {v : Value} {out : List S44} (h : CLs w00 w0 w g pb pl pw M W m N v out) (hb : Below w.heap.size w w') : WPost w00 w0 w w' g pb pl pw M W m N v out :=
 ⟨v, h.step hb, Kept.of_below hb _, fun k e => .inl e⟩
theorem WPost.then_ {w00 w0 w w1 w2 : World} {g pb pl pw : Nat} {M : NM} {W : Nat} {m N : Int} {v v1 : Value} {out : List S44} (hk : Kept w w1 (SKl pl v)) (ho : ∀ k, some k = v1.ownBlock → some k = v.ownBlock ∨ w.heap.size ≤ k) (h : WPost w00 w0 w1 w2 g pb pl pw M W m N v1 out) : WPost w00 w0 w w2 g pb pl pw M W m N v out := by
 obtain ⟨v2, h1, h2, h3⟩ := h
 refine ⟨v2, h1, hk.then_ h2 (fun k e => ?_), fun k e => ?_⟩
 ·rcases e with e | e
  ·exact .inl (Or.inl e)
  ·rcases ho k e with e | e
   ·exact .inl (Or.inr e)
   ·exact .inr e
 ·rcases h3 k e with e | e
  ·exact ho k e
  ·exact .inr (Nat.le_trans hk.1 e)
/-- A call of the closure lists what lies below a node. -/
def WalkP (w00 w0 : World) (g pb pl pw : Nat) (M : NM) (W : Nat) (m N : Int) (l : List TI) (d : Nat) : Prop :=
 ∀ (i k : Nat) (ai hi lo : Int) (w : World) (v : Value) (out : List S44), ai = (i : Int) → i + d = W + 1 → (d ≠ 0 → hi = hiW (k * 2 ^ (W - i)) ∧ lo = loW (k * 2 ^ (W - i))) → CLs w00 w0 w g pb pl pw M W m N v out → out.length + (walkT l d i k).length ≤ 100000 →
  Calls Try.prog 75 #[sonP M i k, .int .i64 ai, .agg #[.int .u64 hi, .int .u64 lo], .pointer (some ⟨pb, 0, none⟩), .pointer (some ⟨pl, 0, none⟩), .pointer (some ⟨pw, 0, none⟩)] w fun e w' => e = .returned (.tuple #[]) ∧ WPost w00 w0 w w' g pb pl pw M W m N v (out ++ (walkT l d i k).map (outT W))
theorem WalkP.use {w00 w0 : World} {g pb pl pw : Nat} {M : NM} {W : Nat} {m N : Int} {l : List TI} {d : Nat} (h : WalkP w00 w0 g pb pl pw M W m N l d) (i k : Nat) (ai hi lo : Int) (w : World) (v : Value) (out : List S44) (h1 : ai = (i : Int)) (h2 : i + d = W + 1) (h3 : d ≠ 0 → hi = hiW (k * 2 ^ (W - i)) ∧ lo = loW (k * 2 ^ (W - i))) (h4 : CLs w00 w0 w g pb pl pw M W m N v out) (h5 : out.length + (walkT l d i k).length ≤ 100000) :
 Calls Try.prog 75 #[sonP M i k, .int .i64 ai, .agg #[.int .u64 hi, .int .u64 lo], .pointer (some ⟨pb, 0, none⟩), .pointer (some ⟨pl, 0, none⟩), .pointer (some ⟨pw, 0, none⟩)] w fun e w' => e = .returned (.tuple #[]) ∧ WPost w00 w0 w w' g pb pl pw M W m N v (out ++ (walkT l d i k).map (outT W)) := h i k ai hi lo w v out h1 h2 h3 h4 h5
set_option maxHeartbeats 1000000 in
set_option maxRecDepth 100000 in
theorem walk_nil (i hi lo : Int) (pb pl pw : Nat) (w : World) :
 Calls Try.prog 75 #[.pointer none, .int .i64 i, .agg #[.int .u64 hi, .int .u64 lo], .pointer (some ⟨pb, 0, none⟩), .pointer (some ⟨pl, 0, none⟩), .pointer (some ⟨pw, 0, none⟩)] w fun e w' => e = .returned (.tuple #[]) ∧ Below w.heap.size w w' := by
 go_enter Try.func75, Try.ntmps75
 go_wp2
 (try simp only [Exit.inBlock, Exit.then])
 refine bodyPost_ret (results_none rfl _ _ _) rfl ?_
 exact ⟨rfl, below_alloc (Below.refl _ _) _⟩
theorem CLs.apart {w00 w0 w : World} {g pb pl pw : Nat} {M : NM} {W : Nat} {m N : Int} {v : Value} {out : List S44} (h : CLs w00 w0 w g pb pl pw M W m N v out) {q : Nat} {cs : Array Value} (hq : w.heap[q]? = some (.cells cs 130 (0, 0))) : ¬ SKl pl v q := by
 intro e
 rcases e with e | e
 ·subst e; exact blk_ne hq h.bl (by decide) rfl
 ·obtain ⟨cur, hc⟩ := R_blk h.row q e
  exact blk_ne hq hc (by decide) rfl
set_option maxHeartbeats 1000000 in
set_option maxRecDepth 100000 in
theorem walk_off (w00 w0 : World) (g pb pl pw : Nat) (M : NM) (W : Nat) (m N : Int) (l : List TI) (hlen : ∀ y ∈ l, y.len ≤ W) (h1 : 1 ≤ W) (h2 : W ≤ 128) (hs : SH M l) (d : Nat) (IH : WalkP w00 w0 g pb pl pw M W m N l d) (i k b : Nat) (n0 hi lo r1 r2 q1 q2 : Int) (w : World) (v : Value) (out : List S44) (hd : i + (d + 1) = W + 1)
 (hv1 : d ≠ 0 → hi = hiW (2 * k * 2 ^ (W - (i + 1))) ∧ lo = loW (2 * k * 2 ^ (W - (i + 1)))) (hv2 : d ≠ 0 → q1 = hiW ((2 * k + 1) * 2 ^ (W - (i + 1))) ∧ q2 = loW ((2 * k + 1) * 2 ^ (W - (i + 1))))
 (hsh : word_Shl.f 5 0 1 (wrap64 (wrap64 ((W : Int) - 1) - (i : Int))) = some (r1, r2)) (hor : word_Or.f hi lo r1 r2 = some (q1, q2)) (hc : CLs w00 w0 w g pb pl pw M W m N v out) (hm : M i k = some (b, false, n0))
 (hl : out.length + (walkT l d (i + 1) (2 * k)).length + (walkT l d (i + 1) (2 * k + 1)).length ≤ 100000) :
 Calls Try.prog 75 #[.pointer (some ⟨b, 0, none⟩), .int .i64 (i : Int), .agg #[.int .u64 hi, .int .u64 lo], .pointer (some ⟨pb, 0, none⟩), .pointer (some ⟨pl, 0, none⟩), .pointer (some ⟨pw, 0, none⟩)] w fun e w' => e = .returned (.tuple #[]) ∧ WPost w00 w0 w w' g pb pl pw M W m N v (out ++ ((walkT l d (i + 1) (2 * k)).map (outT W) ++ (walkT l d (i + 1) (2 * k + 1)).map (outT W))) := by
 have HM := Aside0.mk hm
 have IH := Aside0.mk IH
 have HV1 := Aside0.mk hv1
 have HV2 := Aside0.mk hv2
 have HSH := Aside0.mk hsh
 have HOR := Aside0.mk hor
 have HW64 := Aside0.mk (show wrap64 ((i : Int) + 1) = ((i + 1 : Nat) : Int) from by rw [wrap64_id _ (by omega) (by omega)]; rfl)
 have HD1 := Aside0.mk (show (i + 1) + d = W + 1 from by omega)
 have HL1 := Aside0.mk (show out.length + (walkT l d (i + 1) (2 * k)).length ≤ 100000 from by omega)
 have HL2 := Aside0.mk (show (out ++ (walkT l d (i + 1) (2 * k)).map (outT W)).length + (walkT l d (i + 1) (2 * k + 1)).length ≤ 100000 from by rw [List.length_append, List.length_map]; exact hl)
 have HC := Aside0.mk (hc.step (below_alloc (Below.refl _ _) (.cells #[.int .u64 hi, .int .u64 lo] 130 (0, 0))))
 have HBX := Aside0.mk (blk_new w (.cells #[.int .u64 hi, .int .u64 lo] 130 (0, 0)))
 have HW1 := Aside0.mk (below_alloc (Below.refl w.heap.size w) (.cells #[.int .u64 hi, .int .u64 lo] 130 (0, 0)))
 have HNB := Aside0.mk (fun (w' : World) (v' : Value) (h : CLs w00 w0 w' g pb pl pw M W m N v' out) (hb : w'.heap[w.heap.size]? = some (.cells #[.int .u64 hi, .int .u64 lo] 130 (0, 0))) => CLs.apart h hb)
 have HN := Aside0.mk (HC.out.ktw.nt.cell _ _ _ _ _ hm)
 have c2 := blk_cell HN.out 2
 simp only [List.getElem?_toArray, List.getElem?_cons_succ, List.getElem?_cons_zero] at c2
 clear hm hv1 hv2 hsh hor hl hc
 have HKZ := Aside0.mk (Kept.of_below HW1.out (SKl pl v))
 have HOZ := Aside0.mk (fun (q : Nat) (e : some q = v.ownBlock) => (Or.inl e : some q = v.ownBlock ∨ w.heap.size ≤ q))
 go_enter Try.func75, Try.ntmps75
 go_wp2
 generalize w.alloc (.cells #[.int .u64 hi, .int .u64 lo] 130 (0, 0)) = wz at HC HBX HW1 HN c2 HKZ ⊢
 clear c2 HN
 refine start_ (n := 10) (S := fun w' => Below wz.heap.size wz w') (ds := [9]) #[false, false, false, false, false, false, false, false, false, false] (by kernel_rfl) rfl rfl (below_drew1 (Below.refl _ _)) (fun hHeld => ?_)
 generalize World.drew _ = wy at hHeld ⊢
 refine pl_ [1, 2, 3, 4, 6, 7] ?_
 iterate 6 refine pP rfl rfl (by kernel_rfl) (fun _ _ _ h => h) (by rfl) (by intro w'; go_simp; with_reducible rfl) (by simp only [Act.put, z1, z2, z3, i64_w, i32_w]; rfl) ?_
 refine pl0 ?_
 refine take_ (i := 0) (N := some 36) (v := ?_) (a' := ?_) #[true, true, true, true, true, false, true, true, false, false] rfl rfl (by kernel_rfl) (fun _ _ _ h => h) (Or.inl ⟨by rfl, ?_⟩) hHeld ?_ ?_
 rotate_left
 ·intro w' hs
  have m0 := blk_cell (blk_below HC.out.bw hs) 0
  simp only [List.getElem?_toArray, List.getElem?_cons_succ, List.getElem?_cons_zero] at m0
  go_simp
  with_reducible rfl
 rotate_left
 ·simp only [Act.put, List.setIfInBounds_toArray, List.set_cons_zero, List.set_cons_succ, i64_w, i32_w]
  rfl
 refine take_ (i := 5) (N := some 41) (v := ?_) (a' := ?_) #[true, true, true, true, true, true, true, true, false, false] rfl rfl (by kernel_rfl) (fun _ _ _ h => h) (Or.inl ⟨by rfl, ?_⟩) hHeld ?_ ?_
 rotate_left
 ·intro w' hs
  have m0 := son_cell (HC.out.step hs).ktw.nt HM.out (show 0 < 2 by decide)
  rw [Nat.add_zero] at m0
  go_simp
  with_reducible rfl
 rotate_left
 ·simp only [Act.put, List.setIfInBounds_toArray, List.set_cons_zero, List.set_cons_succ, i64_w, i32_w]
  rfl
 refine take_ (i := 8) (N := some 44) (v := ?_) (a' := ?_) #[true, true, true, true, true, true, true, true, true, false] rfl rfl (by kernel_rfl) (fun _ _ _ h => h) (Or.inl ⟨by rfl, ?_⟩) hHeld ?_ ?_
 rotate_left
 ·intro w' hs
  have m0 := blk_cell (blk_below HBX.out hs) 0
  have m1 := blk_cell (blk_below HBX.out hs) 1
  simp only [List.getElem?_toArray, List.getElem?_cons_succ, List.getElem?_cons_zero] at m0 m1
  go_simp
  with_reducible rfl
 rotate_left
 ·simp only [Act.put, List.setIfInBounds_toArray, List.set_cons_zero, List.set_cons_succ, i64_w, i32_w]
  rfl
 have HH := Aside0.mk hHeld
 clear hHeld
 refine last_ (i := 9) (N := some 45) #[true, true, true, true, true, true, true, true, true, true] rfl rfl (by kernel_rfl) (by decide) (fun K hK => ?_)
 refine goesW_ Try.func75 (by kernel_rfl) rfl #[sonP M (i + 1) (2 * k), .int .i64 (wrap64 ((i : Int) + 1)), .agg #[.int .u64 hi, .int .u64 lo], .pointer (some ⟨pb, 0, none⟩), .pointer (some ⟨pl, 0, none⟩), .pointer (some ⟨pw, 0, none⟩)] (by rfl) rfl rfl (by rfl) (by simp only [List.map_toArray, List.map_cons, List.map_nil]; rfl) ?_
 with_reducible refine (IH.out.use (i + 1) (2 * k) _ hi lo _ v out HW64.out HD1.out HV1.out (HC.out.step HH.out) HL1.out).mono ?_
 rintro e_ w4 ⟨rfl, v5, hc5, hk5, ho5⟩
 refine ⟨_, rfl, ?_⟩
 have HC5 := Aside0.mk hc5
 have HBX5 := Aside0.mk (blk_kept (blk_below HBX.out HH.out) hk5 (HNB.out _ _ (HC.out.step HH.out) (blk_below HBX.out HH.out)))
 have HK5 := Aside0.mk ((Kept.of_below HH.out (SKl pl v)).then_ hk5 (fun k e => .inl e))
 have HO5 := Aside0.mk (show ∀ q, some q = v5.ownBlock → some q = v.ownBlock ∨ wz.heap.size ≤ q from fun q e => (ho5 q e).imp_right (fun h => Nat.le_trans HH.out.size h))
 clear hc5 hk5 ho5 HBX HC HH
 refine hK.out _ _ ?_
 clear hK K
 refine norm_ (a' := ?_) ?_ ?_
 rotate_left
 ·show Act.put _ (some 45) _ = _
  simp only [Act.put, List.setIfInBounds_toArray, List.set_cons_zero, List.set_cons_succ, i64_w, i32_w]
  rfl
 refine done_ (by kernel_rfl) ?_
 go_wp2
 refine start_ (n := 20) (S := fun w' => Below w4.heap.size w4 w') (ds := [19]) #[false, false, false, false, false, false, false, false, false, false, false, false, false, false, false, false, false, false, false, false] (by kernel_rfl) rfl rfl (below_drew1 (Below.refl _ _)) (fun hHeld => ?_)
 generalize World.drew _ = wx at hHeld ⊢
 refine pl_ [1, 2, 3, 4, 6, 7, 9, 15] ?_
 iterate 8 refine pP rfl rfl (by kernel_rfl) (fun _ _ _ h => h) (by rfl) (by intro w'; go_simp; with_reducible rfl) (by simp only [Act.put, z1, z2, z3, i64_w, i32_w]; rfl) ?_
 refine pl0 ?_
 refine take_ (i := 0) (N := some 46) (v := ?_) (a' := ?_) #[true, true, true, true, true, false, true, true, false, true, false, false, false, false, false, true, false, false, false, false] rfl rfl (by kernel_rfl) (fun _ _ _ h => h) (Or.inl ⟨by rfl, ?_⟩) hHeld ?_ ?_
 rotate_left
 ·intro w' hs
  have m0 := blk_cell (blk_below HC5.out.bw hs) 0
  simp only [List.getElem?_toArray, List.getElem?_cons_succ, List.getElem?_cons_zero] at m0
  go_simp
  with_reducible rfl
 rotate_left
 ·simp only [Act.put, List.setIfInBounds_toArray, List.set_cons_zero, List.set_cons_succ, i64_w, i32_w]
  rfl
 refine take_ (i := 5) (N := some 51) (v := ?_) (a' := ?_) #[true, true, true, true, true, true, true, true, false, true, false, false, false, false, false, true, false, false, false, false] rfl rfl (by kernel_rfl) (fun _ _ _ h => h) (Or.inl ⟨by rfl, ?_⟩) hHeld ?_ ?_
 rotate_left
 ·intro w' hs
  have m0 := son_cell (HC5.out.step hs).ktw.nt HM.out (show 1 < 2 by decide)
  go_simp
  with_reducible rfl
 rotate_left
 ·simp only [Act.put, List.setIfInBounds_toArray, List.set_cons_zero, List.set_cons_succ, i64_w, i32_w]
  rfl
 refine take_ (i := 8) (N := some 54) (v := ?_) (a' := ?_) #[true, true, true, true, true, true, true, true, true, true, false, false, false, false, false, true, false, false, false, false] rfl rfl (by kernel_rfl) (fun _ _ _ h => h) (Or.inl ⟨by rfl, ?_⟩) hHeld ?_ ?_
 rotate_left
 ·intro w' hs
  have m0 := blk_cell (blk_below HBX5.out hs) 0
  have m1 := blk_cell (blk_below HBX5.out hs) 1
  simp only [List.getElem?_toArray, List.getElem?_cons_succ, List.getElem?_cons_zero] at m0 m1
  go_simp
  with_reducible rfl
 rotate_left
 ·simp only [Act.put, List.setIfInBounds_toArray, List.set_cons_zero, List.set_cons_succ, i64_w, i32_w]
  rfl
 refine take_ (i := 10) (N := some 56) (v := ?_) (a' := ?_) #[true, true, true, true, true, true, true, true, true, true, true, false, false, false, false, true, false, false, false, false] rfl rfl (by kernel_rfl) (fun _ _ _ h => h) (Or.inl ⟨by rfl, ?_⟩) hHeld ?_ ?_
 rotate_left
 ·intro w' hs
  have m0 := blk_cell (blk_below HC5.out.bb hs) 0
  simp only [List.getElem?_toArray, List.getElem?_cons_succ, List.getElem?_cons_zero] at m0
  go_simp
  with_reducible rfl
 rotate_left
 ·simp only [Act.put, List.setIfInBounds_toArray, List.set_cons_zero, List.set_cons_succ, i64_w, i32_w]
  rfl
 refine pl_ [11, 12] ?_
 iterate 2 refine pP rfl rfl (by kernel_rfl) (fun _ _ _ h => h) (by rfl) (by intro w'; go_simp; with_reducible rfl) (by simp only [Act.put, z1, z2, z3, i64_w, i32_w]; rfl) ?_
 refine pl0 ?_
 refine take_ (i := 13) (N := some 59) (v := ?_) (a' := ?_) #[true, true, true, true, true, true, true, true, true, true, true, true, true, true, false, true, false, false, false, false] rfl rfl (by kernel_rfl) (fun _ _ _ h => h) (Or.inl ⟨by rfl, ?_⟩) hHeld ?_ ?_
 rotate_left
 ·intro w' hs
  have m1 := blk_cell (HC5.out.step hs).ktw.blk 1
  simp only [List.getElem?_toArray, List.getElem?_cons_succ, List.getElem?_cons_zero] at m1
  go_simp
  with_reducible rfl
 rotate_left
 ·simp only [Act.put, List.setIfInBounds_toArray, List.set_cons_zero, List.set_cons_succ, i64_w, i32_w]
  rfl
 refine pl_ [14, 16] ?_
 iterate 2 refine pP rfl rfl (by kernel_rfl) (fun _ _ _ h => h) (by rfl) (by intro w'; go_simp; with_reducible rfl) (by simp only [Act.put, z1, z2, z3, i64_w, i32_w]; rfl) ?_
 refine pl0 ?_
 have HH := Aside0.mk hHeld
 clear hHeld
 refine one_ (i := 17) (N := some 63) #[true, true, true, true, true, true, true, true, true, true, true, true, true, true, true, true, true, true, false, false] rfl rfl (by kernel_rfl) (by decide) (fun K hK => ?_)
 refine goes_ Try.func78 (by kernel_rfl) rfl #[.agg #[.int .u64 0, .int .u64 1], .int .i64 (wrap64 (wrap64 ((W : Int) - 1) - (i : Int)))] (by rfl) rfl rfl (by simp only [List.map_toArray, List.map_cons, List.map_nil]; rfl) ?_
 with_reducible refine (word_Shl.calls 5 0 1 (wrap64 (wrap64 ((W : Int) - 1) - (i : Int))) r1 r2 _ HSH.out).mono ?_
 rintro e_ w1 ⟨rfl, hb⟩
 refine ⟨_, rfl, ?_⟩
 have HG := Aside0.mk (below_step HH.out hb)
 clear hb HH
 refine hK.out _ _ HG.out (fun hHeld => ?_)
 clear hK K
 refine norm_ (a' := ?_) ?_ ?_
 rotate_left
 ·show Act.put _ (some 63) _ = _
  simp only [Act.put, List.setIfInBounds_toArray, List.set_cons_zero, List.set_cons_succ, i64_w, i32_w]
  rfl
 refine one_ (i := 18) (N := some 64) #[true, true, true, true, true, true, true, true, true, true, true, true, true, true, true, true, true, true, true, false] rfl rfl (by kernel_rfl) (by decide) (fun K hK => ?_)
 refine goes_ Try.func77 (by kernel_rfl) rfl #[.agg #[.int .u64 hi, .int .u64 lo], .agg #[.int .u64 r1, .int .u64 r2]] (by rfl) rfl rfl (by simp only [List.map_toArray, List.map_cons, List.map_nil]; rfl) ?_
 with_reducible refine (word_Or.calls hi lo r1 r2 q1 q2 _ HOR.out).mono ?_
 rintro e_ w1 ⟨rfl, hb⟩
 refine ⟨_, rfl, ?_⟩
 have HH := Aside0.mk (below_step HG.out hb)
 clear hb HG
 refine hK.out _ _ HH.out (fun hHeld => ?_)
 clear hK K
 refine norm_ (a' := ?_) ?_ ?_
 rotate_left
 ·show Act.put _ (some 64) _ = _
  simp only [Act.put, List.setIfInBounds_toArray, List.set_cons_zero, List.set_cons_succ, i64_w, i32_w]
  rfl
 refine last_ (i := 19) (N := some 65) #[true, true, true, true, true, true, true, true, true, true, true, true, true, true, true, true, true, true, true, true] rfl rfl (by kernel_rfl) (by decide) (fun K hK => ?_)
 refine goesW_ Try.func75 (by kernel_rfl) rfl #[sonP M (i + 1) (2 * k + 1), .int .i64 (wrap64 ((i : Int) + 1)), .agg #[.int .u64 q1, .int .u64 q2], .pointer (some ⟨pb, 0, none⟩), .pointer (some ⟨pl, 0, none⟩), .pointer (some ⟨pw, 0, none⟩)] (by rfl) rfl rfl (by rfl) (by simp only [List.map_toArray, List.map_cons, List.map_nil]; rfl) ?_
 with_reducible refine (IH.out.use (i + 1) (2 * k + 1) _ q1 q2 _ v5 _ HW64.out HD1.out HV2.out (HC5.out.step HH.out) HL2.out).mono ?_
 rintro e_ w4 ⟨rfl, hp6⟩
 refine ⟨_, rfl, ?_⟩
 have HP6 := Aside0.mk (WPost.then_ (Kept.of_below HH.out _) (fun k e => .inl e) hp6)
 clear hp6
 refine hK.out _ _ ?_
 clear hK K
 refine norm_ (a' := ?_) ?_ ?_
 rotate_left
 ·show Act.put _ (some 65) _ = _
  simp only [Act.put, List.setIfInBounds_toArray, List.set_cons_zero, List.set_cons_succ, i64_w, i32_w]
  rfl
 refine done_ (by kernel_rfl) ?_
 go_wp2
 go_end0
 have hp := WPost.then_ HKZ.out HOZ.out (WPost.then_ HK5.out HO5.out HP6.out)
 rw [List.append_assoc] at hp
 exact ⟨rfl, hp⟩
theorem CLs.app_bl {w00 w0 w w1 : World} {g pb pl pw : Nat} {M : NM} {W : Nat} {m N : Int} {v : Value} {out : List S44} (h : CLs w00 w0 w g pb pl pw M W m N v out) (hg : w.grownBy w1 v.ownBlock) : w1.heap[pl]? = some (.cells #[v] 40 (0, 0)) := by
 have hk0 : Kept w w1 (fun k => some k = v.ownBlock) := Kept.of_grown hg (Kept.of_below (Below.refl _ _) _) (fun k e => .inl e.symm)
 refine blk_kept h.bl hk0 (fun e => ?_)
 obtain ⟨cur, hc⟩ := R_blk h.row _ e
 exact blk_ne h.bl hc (by decide) rfl
set_option maxHeartbeats 1000000 in
set_option maxRecDepth 100000 in
theorem walk_on (w00 w0 : World) (g pb pl pw : Nat) (M : NM) (W : Nat) (m N : Int) (l : List TI) (hlen : ∀ y ∈ l, y.len ≤ W) (h1 : 1 ≤ W) (h2 : W ≤ 128) (hs : SH M l) (d : Nat) (IH : WalkP w00 w0 g pb pl pw M W m N l d) (i k b : Nat) (n0 hi lo r1 r2 q1 q2 : Int) (w : World) (v : Value) (out : List S44) (hd : i + (d + 1) = W + 1)
 (hv1 : d ≠ 0 → hi = hiW (2 * k * 2 ^ (W - (i + 1))) ∧ lo = loW (2 * k * 2 ^ (W - (i + 1)))) (hv2 : d ≠ 0 → q1 = hiW ((2 * k + 1) * 2 ^ (W - (i + 1))) ∧ q2 = loW ((2 * k + 1) * 2 ^ (W - (i + 1))))
 (hsh : word_Shl.f 5 0 1 (wrap64 (wrap64 ((W : Int) - 1) - (i : Int))) = some (r1, r2)) (hor : word_Or.f hi lo r1 r2 = some (q1, q2)) (hcut : vec_Cut.f 5 (W : Int) hi lo = some ((W : Int), hi, lo, 0)) (hc : CLs w00 w0 w g pb pl pw M W m N v out) (hm : M i k = some (b, true, n0))
 (hl : out.length + 1 + (walkT l d (i + 1) (2 * k)).length + (walkT l d (i + 1) (2 * k + 1)).length ≤ 100000) :
 Calls Try.prog 75 #[.pointer (some ⟨b, 0, none⟩), .int .i64 (i : Int), .agg #[.int .u64 hi, .int .u64 lo], .pointer (some ⟨pb, 0, none⟩), .pointer (some ⟨pl, 0, none⟩), .pointer (some ⟨pw, 0, none⟩)] w fun e w' => e = .returned (.tuple #[]) ∧ WPost w00 w0 w w' g pb pl pw M W m N v ((out ++ [(⟨⟨(W : Int), hi, lo⟩, (i : Int), n0⟩ : S44)]) ++ ((walkT l d (i + 1) (2 * k)).map (outT W) ++ (walkT l d (i + 1) (2 * k + 1)).map (outT W))) := by
 have HM := Aside0.mk hm
 have IH := Aside0.mk IH
 have HV1 := Aside0.mk hv1
 have HV2 := Aside0.mk hv2
 have HSH := Aside0.mk hsh
 have HOR := Aside0.mk hor
 have HCUT := Aside0.mk hcut
 have HW64 := Aside0.mk (show wrap64 ((i : Int) + 1) = ((i + 1 : Nat) : Int) from by rw [wrap64_id _ (by omega) (by omega)]; rfl)
 have HD1 := Aside0.mk (show (i + 1) + d = W + 1 from by omega)
 have HLO := Aside0.mk (show (out.length + 1) * 40 ≤ 140737488355328 from by omega)
 have HL1 := Aside0.mk (show (out ++ [(⟨⟨(W : Int), hi, lo⟩, (i : Int), n0⟩ : S44)]).length + (walkT l d (i + 1) (2 * k)).length ≤ 100000 from by rw [List.length_append, List.length_singleton]; omega)
 have HL2 := Aside0.mk (show ((out ++ [(⟨⟨(W : Int), hi, lo⟩, (i : Int), n0⟩ : S44)]) ++ (walkT l d (i + 1) (2 * k)).map (outT W)).length + (walkT l d (i + 1) (2 * k + 1)).length ≤ 100000 from by rw [List.length_append, List.length_append, List.length_singleton, List.length_map]; exact hl)
 have HC := Aside0.mk (hc.step (below_alloc (Below.refl _ _) (.cells #[.int .u64 hi, .int .u64 lo] 130 (0, 0))))
 have HBX := Aside0.mk (blk_new w (.cells #[.int .u64 hi, .int .u64 lo] 130 (0, 0)))
 have HW1 := Aside0.mk (below_alloc (Below.refl w.heap.size w) (.cells #[.int .u64 hi, .int .u64 lo] 130 (0, 0)))
 have HNB := Aside0.mk (fun (w' : World) (v' : Value) (h : CLs w00 w0 w' g pb pl pw M W m N v' (out ++ [(⟨⟨(W : Int), hi, lo⟩, (i : Int), n0⟩ : S44)])) (hb : w'.heap[w.heap.size]? = some (.cells #[.int .u64 hi, .int .u64 lo] 130 (0, 0))) => CLs.apart h hb)
 have HN := Aside0.mk (HC.out.ktw.nt.cell _ _ _ _ _ hm)
 have c2 := blk_cell HN.out 2
 simp only [List.getElem?_toArray, List.getElem?_cons_succ, List.getElem?_cons_zero] at c2
 clear hm hv1 hv2 hsh hor hl hc hcut
 go_enter Try.func75, Try.ntmps75
 go_wp2
 generalize w.alloc (.cells #[.int .u64 hi, .int .u64 lo] 130 (0, 0)) = wq at HC HBX HW1 HN c2 ⊢
 clear c2 HN
 refine start_ (n := 12) (S := fun w' => Below wq.heap.size wq w') (ds := []) #[false, false, false, false, false, false, false, false, false, false, false, false] (by kernel_rfl) rfl rfl (below_drew1 (Below.refl _ _)) (fun hHeld => ?_)
 generalize World.drew _ = w3 at hHeld ⊢
 refine take_ (i := 0) (N := some 18) (v := ?_) (a' := ?_) #[true, false, false, false, false, false, false, false, false, false, false, false] rfl rfl (by kernel_rfl) (fun _ _ _ h => h) (Or.inl ⟨by rfl, ?_⟩) hHeld ?_ ?_
 rotate_left
 ·intro w' hs
  have m0 := blk_cell (HC.out.step hs).bb 0
  simp only [List.getElem?_toArray, List.getElem?_cons_succ, List.getElem?_cons_zero] at m0
  go_simp
  with_reducible rfl
 rotate_left
 ·simp only [Act.put, List.setIfInBounds_toArray, List.set_cons_zero, List.set_cons_succ, i64_w, i32_w]
  rfl
 refine pl_ [1, 2] ?_
 iterate 2 refine pP rfl rfl (by kernel_rfl) (fun _ _ _ h => h) (by rfl) (by intro w'; go_simp; with_reducible rfl) (by simp only [Act.put, z1, z2, z3, i64_w, i32_w]; rfl) ?_
 refine pl0 ?_
 refine take_ (i := 3) (N := some 21) (v := ?_) (a' := ?_) #[true, true, true, true, false, false, false, false, false, false, false, false] rfl rfl (by kernel_rfl) (fun _ _ _ h => h) (Or.inl ⟨by rfl, ?_⟩) hHeld ?_ ?_
 rotate_left
 ·intro w' hs
  have m1 := blk_cell (HC.out.step hs).ktw.blk 1
  simp only [List.getElem?_toArray, List.getElem?_cons_succ, List.getElem?_cons_zero] at m1
  go_simp
  with_reducible rfl
 rotate_left
 ·simp only [Act.put, List.setIfInBounds_toArray, List.set_cons_zero, List.set_cons_succ, i64_w, i32_w]
  rfl
 refine take_ (i := 4) (N := some 22) (v := ?_) (a' := ?_) #[true, true, true, true, true, false, false, false, false, false, false, false] rfl rfl (by kernel_rfl) (fun _ _ _ h => h) (Or.inl ⟨by rfl, ?_⟩) hHeld ?_ ?_
 rotate_left
 ·intro w' hs
  have m0 := blk_cell (blk_below HBX.out hs) 0
  have m1 := blk_cell (blk_below HBX.out hs) 1
  simp only [List.getElem?_toArray, List.getElem?_cons_succ, List.getElem?_cons_zero] at m0 m1
  go_simp
  with_reducible rfl
 rotate_left
 ·simp only [Act.put, List.setIfInBounds_toArray, List.set_cons_zero, List.set_cons_succ, i64_w, i32_w]
  rfl
 have HH := Aside0.mk hHeld
 clear hHeld
 refine wpAnyLast_ready (rs := [5, 9]) (by kernel_rfl) (by simp) (AllReadyL.cons rfl (by simp) (fun K hK => ?_) (AllReadyL.cons rfl (by simp) (fun K hK => ?_) AllReadyL.nil))
 ·refine goes_ Try.func76 (by kernel_rfl) rfl #[.int .i64 (W : Int), .agg #[.int .u64 hi, .int .u64 lo]] (by rfl) rfl rfl (by simp only [List.map_toArray, List.map_cons, List.map_nil]; rfl) ?_
  with_reducible refine (vec_Cut.calls 5 (W : Int) hi lo (W : Int) hi lo 0 _ HCUT.out).mono ?_
  rintro e_ w4 ⟨rfl, hb⟩
  refine ⟨_, rfl, ?_⟩
  have HA := Aside0.mk (below_step HH.out hb)
  clear hb
  refine hK.out _ _ HA.out (fun hHeld => ?_)
  clear hK K hHeld
  refine norm_ (a' := ?_) ?_ ?_
  rotate_left
  ·show Act.put _ (some 23) _ = _
   simp only [Act.put, List.setIfInBounds_toArray, List.set_cons_zero, List.set_cons_succ, i64_w, i32_w]
   rfl
  refine pl_ [6, 7, 8] ?_
  iterate 3 refine pP rfl rfl (by kernel_rfl) (fun _ _ _ h => h) (by rfl) (by intro w'; go_simp; with_reducible rfl) (by simp only [Act.put, z1, z2, z3, i64_w, i32_w]; rfl) ?_
  refine pl0 ?_
  refine one_ (i := 9) (N := some 9) #[true, true, true, true, true, true, true, true, true, true, false, false] rfl rfl (by kernel_rfl) (by decide) (fun K hK => ?_)
  refine value_ (w1 := ?_) (v := ?_) (by rfl) rfl ?_ ?_
  rotate_left 2
  ·go_simp
   constructor
   ·rfl
   ·rfl
  have HA2 := Aside0.mk (below_alloc HA.out (.cells #[.int .i64 0, .int .u64 0, .int .u64 0] 32 (0, 0)))
  have HZ := Aside0.mk (blk_new w4 (.cells #[.int .i64 0, .int .u64 0, .int .u64 0] 32 (0, 0)))
  refine hK.out _ _ HA2.out (fun hHeld => ?_)
  clear hK K hHeld
  refine norm_ (a' := ?_) ?_ ?_
  rotate_left
  ·show Act.put _ (some 9) _ = _
   simp only [Act.put, List.setIfInBounds_toArray, List.set_cons_zero, List.set_cons_succ, i64_w, i32_w]
   rfl
  have HGE := Aside0.mk (show wq.heap.size ≤ w4.heap.size from below_size HA.out)
  generalize w4.heap.size = gz at HZ HGE ⊢
  generalize w4.alloc (.cells #[.int .i64 0, .int .u64 0, .int .u64 0] 32 (0, 0)) = w6 at HA2 HZ ⊢
  clear HA
  have z0 := blk_cell HZ.out 0
  have z1 := blk_cell HZ.out 1
  have z2 := blk_cell HZ.out 2
  simp only [List.getElem?_toArray, List.getElem?_cons_succ, List.getElem?_cons_zero] at z0 z1 z2
  have zf0 := blk_frozen HZ.out 0
  have zf1 := blk_frozen HZ.out 1
  have zf2 := blk_frozen HZ.out 2
  refine one_ (i := 10) (N := none) #[true, true, true, true, true, true, true, true, true, true, true, false] rfl rfl (by kernel_rfl) (by decide) (fun K hK => ?_)
  refine skip_ (w1 := ?_) (by rfl) rfl ?_ ?_
  rotate_left
  ·go_simp
   rfl
  have HB7 := Aside0.mk (below_set (below_set (below_set HA2.out HGE.out (j := 0) (v := .int .i64 (W : Int))) HGE.out (j := 1) (v := .int .u64 hi)) HGE.out (j := 2) (v := .int .u64 lo))
  have HZ7 := Aside0.mk (show (((w6.setCell ⟨gz, 0, none⟩ (.int .i64 (W : Int))).setCell ⟨gz, 1, none⟩ (.int .u64 hi)).setCell ⟨gz, 2, none⟩ (.int .u64 lo)).heap[gz]? = some (.cells #[.int .i64 (W : Int), .int .u64 hi, .int .u64 lo] 32 (0, 0)) from blk_put (blk_put (blk_put HZ.out 0 (.int .i64 (W : Int)) rfl) 1 (.int .u64 hi) rfl) 2 (.int .u64 lo) rfl)
  refine hK.out _ _ HB7.out (fun hHeld => ?_)
  clear hK K hHeld z0 z1 z2 zf0 zf1 zf2 HZ HA2 HGE
  generalize ((w6.setCell ⟨gz, 0, none⟩ (.int .i64 (W : Int))).setCell ⟨gz, 1, none⟩ (.int .u64 hi)).setCell ⟨gz, 2, none⟩ (.int .u64 lo) = w7 at HB7 HZ7 ⊢
  refine pl_ [11] ?_
  refine pP rfl rfl (by kernel_rfl) (fun _ _ _ h => h) (by rfl) (by intro w'; go_simp; with_reducible rfl) (by simp only [Act.put, z1, z2, z3, i64_w, i32_w]; rfl) ?_
  refine pl0 ?_
  refine done_ (by kernel_rfl) ?_
  go_wp2
  have HC7 := Aside0.mk (HC.out.step HB7.out)
  have HX7 := Aside0.mk (blk_below HBX.out HB7.out)
  refine start_ (n := 11) (S := fun w' => Below w7.heap.size w7 w') (ds := [9, 10]) #[false, false, false, false, false, false, false, false, false, false, false] (by kernel_rfl) rfl rfl (below_drew1 (Below.refl _ _)) (fun hHeld => ?_)
  generalize World.drew _ = w8 at hHeld ⊢
  refine pl_ [2, 3, 4, 5] ?_
  iterate 4 refine pP rfl rfl (by kernel_rfl) (fun _ _ _ h => h) (by rfl) (by intro w'; go_simp; with_reducible rfl) (by simp only [Act.put, z1, z2, z3, i64_w, i32_w]; rfl) ?_
  refine pl0 ?_
  refine take_ (i := 0) (N := some 26) (v := ?_) (a' := ?_) #[true, false, true, true, true, true, false, false, false, false, false] rfl rfl (by kernel_rfl) (fun _ _ _ h => h) (Or.inl ⟨by rfl, ?_⟩) hHeld ?_ ?_
  rotate_left
  ·intro w' hs
   have m0 := blk_cell (HC7.out.step hs).bl 0
   simp only [List.getElem?_toArray, List.getElem?_cons_succ, List.getElem?_cons_zero] at m0
   go_simp
   with_reducible rfl
  rotate_left
  ·simp only [Act.put, List.setIfInBounds_toArray, List.set_cons_zero, List.set_cons_succ, i64_w, i32_w]
   rfl
  refine take_ (i := 1) (N := some 27) (v := ?_) (a' := ?_) #[true, true, true, true, true, true, false, false, false, false, false] rfl rfl (by kernel_rfl) (fun _ _ _ h => h) (Or.inl ⟨by rfl, ?_⟩) hHeld ?_ ?_
  rotate_left
  ·intro w' hs
   have m0 := blk_cell (blk_below HZ7.out hs) 0
   have m1 := blk_cell (blk_below HZ7.out hs) 1
   have m2 := blk_cell (blk_below HZ7.out hs) 2
   simp only [List.getElem?_toArray, List.getElem?_cons_succ, List.getElem?_cons_zero] at m0 m1 m2
   go_simp
   with_reducible rfl
  rotate_left
  ·simp only [Act.put, List.setIfInBounds_toArray, List.set_cons_zero, List.set_cons_succ, i64_w, i32_w]
   rfl
  refine take_ (i := 6) (N := some 32) (v := ?_) (a' := ?_) #[true, true, true, true, true, true, true, false, false, false, false] rfl rfl (by kernel_rfl) (fun _ _ _ h => h) (Or.inl ⟨by rfl, ?_⟩) hHeld ?_ ?_
  rotate_left
  ·intro w' hs
   have m0 := blk_cell ((HC7.out.step hs).ktw.nt.cell _ _ _ _ _ HM.out) 3
   simp only [List.getElem?_toArray, List.getElem?_cons_succ, List.getElem?_cons_zero] at m0
   go_simp
   with_reducible rfl
  rotate_left
  ·simp only [Act.put, List.setIfInBounds_toArray, List.set_cons_zero, List.set_cons_succ, i64_w, i32_w]
   rfl
  refine pl_ [7] ?_
  refine pP rfl rfl (by kernel_rfl) (fun _ _ _ h => h) (by rfl) (by intro w'; go_simp; with_reducible rfl) (by simp only [Act.put, z1, z2, z3, i64_w, i32_w]; rfl) ?_
  refine pl0 ?_
  have HH8 := Aside0.mk hHeld
  refine one_ (i := 8) (N := some 34) #[true, true, true, true, true, true, true, true, true, false, false] rfl rfl (by kernel_rfl) (by decide) (fun K hK => ?_)
  refine value_ (w1 := ?_) (v := ?_) (by rfl) rfl ?_ ?_
  rotate_left 2
  ·go_simp
   constructor
   ·rfl
   ·rfl
  refine hK.out _ _ (below_alloc HH8.out _) (fun hHeld => ?_)
  clear hK K hHeld
  refine norm_ (a' := ?_) ?_ ?_
  rotate_left
  ·show Act.put _ (some 34) _ = _
   simp only [Act.put, List.setIfInBounds_toArray, List.set_cons_zero, List.set_cons_succ, i64_w, i32_w]
   rfl
  have HC8 := Aside0.mk (HC7.out.step HH8.out)
  refine last_ (i := 9) (N := some 35) #[true, true, true, true, true, true, true, true, true, true, false] rfl rfl (by kernel_rfl) (by decide) (fun K hK => ?_)
  refine Kd.R_append_step k44 (w0 := w0) w0.heap.size rfl (.tmp 26) (.tmp 34) 40 44 (.agg #[(.int .i64 0), (.int .u64 0), (.int .u64 0), (.int .i64 0), (.int .i64 0)]) 40 rfl Try.underlying40 info44 rfl (by decide) (by decide) v out (⟨⟨(W : Int), hi, lo⟩, (i : Int), n0⟩ : S44) [.int .i64 (W : Int), .int .u64 hi, .int .u64 lo, .int .i64 (i : Int), .int .i64 n0] (fun q => some q = v.ownBlock ∨ w8.heap.size ≤ q) (fun _ => False) rfl rfl (k44_mkM _ _ _ _) (fun _ h => h.elim) (fun q hq => .inr hq) (Kd.R_mono HC8.out.row (fun q hq => .inl hq)) HC8.out.bel HC8.out.bel.size HLO.out ?_
  intro v1 w9 hr9 hb9 hg9 hat9
  have HR9 := Aside0.mk hr9
  have HB9 := Aside0.mk hb9
  have HG9 := Aside0.mk hg9
  have HT9 := Aside0.mk hat9
  clear hr9 hb9 hg9 hat9
  refine hK.out _ _ ?_
  clear hK K
  refine norm_ (a' := ?_) ?_ ?_
  rotate_left
  ·show Act.put _ (some 35) _ = _
   simp only [Act.put, List.setIfInBounds_toArray, List.set_cons_zero, List.set_cons_succ, i64_w, i32_w]
   rfl
  have HPL := Aside0.mk (HC8.out.app_bl HG9.out)
  have p0 := blk_cell HPL.out 0
  simp only [List.getElem?_toArray, List.getElem?_cons_succ, List.getElem?_cons_zero] at p0
  have pf0 := blk_frozen HPL.out 0
  refine last_ (i := 10) (N := none) #[true, true, true, true, true, true, true, true, true, true, true] rfl rfl (by kernel_rfl) (by decide) (fun K hK => ?_)
  refine skip_ (w1 := w9.setCell ⟨pl, 0, none⟩ v1) (by rfl) rfl ?_ ?_
  ·obtain ⟨A9, c9, hv9⟩ := Kd.R_slice HR9.out
   clear hK HG9 HT9
   subst hv9
   go_simp
  refine hK.out _ _ ?_
  clear hK K p0 pf0
  refine done_ (by kernel_rfl) ?_
  go_wp2
  obtain ⟨hcz, hkz⟩ := HC8.out.app HR9.out HB9.out HG9.out
  have HKZ := Aside0.mk ((Kept.of_below (below_step HW1.out (below_step HB7.out HH8.out)) (SKl pl v)).then_ hkz (fun q e => .inl e))
  have HOZ := Aside0.mk (show ∀ q, some q = v1.ownBlock → some q = v.ownBlock ∨ w.heap.size ≤ q from fun q e => by
   rcases HT9.out with e2 | ⟨b9, e2, e3⟩
   ·rw [e2] at e; exact .inl e
   ·rw [e2] at e; injection e with e; subst e; refine .inr (Nat.le_trans (below_step HW1.out (below_step HB7.out HH8.out)).size e3))
  have HBZ := Aside0.mk (blk_kept (blk_below HX7.out HH8.out) hkz (CLs.apart HC8.out (blk_below HX7.out HH8.out)))
  generalize w9.setCell ⟨pl, 0, none⟩ v1 = wz at hcz HKZ HBZ ⊢
  clear hkz HC HBX
  have HC := Aside0.mk hcz
  have HBX := Aside0.mk HBZ.out
  clear hcz HBZ HR9 HB9 HG9 HT9 HPL HC8 HC7 HX7 HH8 HZ7 HB7
  refine start_ (n := 10) (S := fun w' => Below wz.heap.size wz w') (ds := [9]) #[false, false, false, false, false, false, false, false, false, false] (by kernel_rfl) rfl rfl (below_drew1 (Below.refl _ _)) (fun hHeld => ?_)
  generalize World.drew _ = wy at hHeld ⊢
  refine pl_ [1, 2, 3, 4, 6, 7] ?_
  iterate 6 refine pP rfl rfl (by kernel_rfl) (fun _ _ _ h => h) (by rfl) (by intro w'; go_simp; with_reducible rfl) (by simp only [Act.put, z1, z2, z3, i64_w, i32_w]; rfl) ?_
  refine pl0 ?_
  refine take_ (i := 0) (N := some 36) (v := ?_) (a' := ?_) #[true, true, true, true, true, false, true, true, false, false] rfl rfl (by kernel_rfl) (fun _ _ _ h => h) (Or.inl ⟨by rfl, ?_⟩) hHeld ?_ ?_
  rotate_left
  ·intro w' hs
   have m0 := blk_cell (blk_below HC.out.bw hs) 0
   simp only [List.getElem?_toArray, List.getElem?_cons_succ, List.getElem?_cons_zero] at m0
   go_simp
   with_reducible rfl
  rotate_left
  ·simp only [Act.put, List.setIfInBounds_toArray, List.set_cons_zero, List.set_cons_succ, i64_w, i32_w]
   rfl
  refine take_ (i := 5) (N := some 41) (v := ?_) (a' := ?_) #[true, true, true, true, true, true, true, true, false, false] rfl rfl (by kernel_rfl) (fun _ _ _ h => h) (Or.inl ⟨by rfl, ?_⟩) hHeld ?_ ?_
  rotate_left
  ·intro w' hs
   have m0 := son_cell (HC.out.step hs).ktw.nt HM.out (show 0 < 2 by decide)
   rw [Nat.add_zero] at m0
   go_simp
   with_reducible rfl
  rotate_left
  ·simp only [Act.put, List.setIfInBounds_toArray, List.set_cons_zero, List.set_cons_succ, i64_w, i32_w]
   rfl
  refine take_ (i := 8) (N := some 44) (v := ?_) (a' := ?_) #[true, true, true, true, true, true, true, true, true, false] rfl rfl (by kernel_rfl) (fun _ _ _ h => h) (Or.inl ⟨by rfl, ?_⟩) hHeld ?_ ?_
  rotate_left
  ·intro w' hs
   have m0 := blk_cell (blk_below HBX.out hs) 0
   have m1 := blk_cell (blk_below HBX.out hs) 1
   simp only [List.getElem?_toArray, List.getElem?_cons_succ, List.getElem?_cons_zero] at m0 m1
   go_simp
   with_reducible rfl
  rotate_left
  ·simp only [Act.put, List.setIfInBounds_toArray, List.set_cons_zero, List.set_cons_succ, i64_w, i32_w]
   rfl
  have HH := Aside0.mk hHeld
  clear hHeld
  refine last_ (i := 9) (N := some 45) #[true, true, true, true, true, true, true, true, true, true] rfl rfl (by kernel_rfl) (by decide) (fun K hK => ?_)
  refine goesW_ Try.func75 (by kernel_rfl) rfl #[sonP M (i + 1) (2 * k), .int .i64 (wrap64 ((i : Int) + 1)), .agg #[.int .u64 hi, .int .u64 lo], .pointer (some ⟨pb, 0, none⟩), .pointer (some ⟨pl, 0, none⟩), .pointer (some ⟨pw, 0, none⟩)] (by rfl) rfl rfl (by rfl) (by simp only [List.map_toArray, List.map_cons, List.map_nil]; rfl) ?_
  with_reducible refine (IH.out.use (i + 1) (2 * k) _ hi lo _ v1 (out ++ [(⟨⟨(W : Int), hi, lo⟩, (i : Int), n0⟩ : S44)]) HW64.out HD1.out HV1.out (HC.out.step HH.out) HL1.out).mono ?_
  rintro e_ w4 ⟨rfl, v5, hc5, hk5, ho5⟩
  refine ⟨_, rfl, ?_⟩
  have HC5 := Aside0.mk hc5
  have HBX5 := Aside0.mk (blk_kept (blk_below HBX.out HH.out) hk5 (HNB.out _ _ (HC.out.step HH.out) (blk_below HBX.out HH.out)))
  have HK5 := Aside0.mk ((Kept.of_below HH.out (SKl pl v1)).then_ hk5 (fun k e => .inl e))
  have HO5 := Aside0.mk (show ∀ q, some q = v5.ownBlock → some q = v1.ownBlock ∨ wz.heap.size ≤ q from fun q e => (ho5 q e).imp_right (fun h => Nat.le_trans HH.out.size h))
  clear hc5 hk5 ho5 HBX HC HH
  refine hK.out _ _ ?_
  clear hK K
  refine norm_ (a' := ?_) ?_ ?_
  rotate_left
  ·show Act.put _ (some 45) _ = _
   simp only [Act.put, List.setIfInBounds_toArray, List.set_cons_zero, List.set_cons_succ, i64_w, i32_w]
   rfl
  refine done_ (by kernel_rfl) ?_
  go_wp2
  refine start_ (n := 20) (S := fun w' => Below w4.heap.size w4 w') (ds := [19]) #[false, false, false, false, false, false, false, false, false, false, false, false, false, false, false, false, false, false, false, false] (by kernel_rfl) rfl rfl (below_drew1 (Below.refl _ _)) (fun hHeld => ?_)
  generalize World.drew _ = wx at hHeld ⊢
  refine pl_ [1, 2, 3, 4, 6, 7, 9, 15] ?_
  iterate 8 refine pP rfl rfl (by kernel_rfl) (fun _ _ _ h => h) (by rfl) (by intro w'; go_simp; with_reducible rfl) (by simp only [Act.put, z1, z2, z3, i64_w, i32_w]; rfl) ?_
  refine pl0 ?_
  refine take_ (i := 0) (N := some 46) (v := ?_) (a' := ?_) #[true, true, true, true, true, false, true, true, false, true, false, false, false, false, false, true, false, false, false, false] rfl rfl (by kernel_rfl) (fun _ _ _ h => h) (Or.inl ⟨by rfl, ?_⟩) hHeld ?_ ?_
  rotate_left
  ·intro w' hs
   have m0 := blk_cell (blk_below HC5.out.bw hs) 0
   simp only [List.getElem?_toArray, List.getElem?_cons_succ, List.getElem?_cons_zero] at m0
   go_simp
   with_reducible rfl
  rotate_left
  ·simp only [Act.put, List.setIfInBounds_toArray, List.set_cons_zero, List.set_cons_succ, i64_w, i32_w]
   rfl
  refine take_ (i := 5) (N := some 51) (v := ?_) (a' := ?_) #[true, true, true, true, true, true, true, true, false, true, false, false, false, false, false, true, false, false, false, false] rfl rfl (by kernel_rfl) (fun _ _ _ h => h) (Or.inl ⟨by rfl, ?_⟩) hHeld ?_ ?_
  rotate_left
  ·intro w' hs
   have m0 := son_cell (HC5.out.step hs).ktw.nt HM.out (show 1 < 2 by decide)
   go_simp
   with_reducible rfl
  rotate_left
  ·simp only [Act.put, List.setIfInBounds_toArray, List.set_cons_zero, List.set_cons_succ, i64_w, i32_w]
   rfl
  refine take_ (i := 8) (N := some 54) (v := ?_) (a' := ?_) #[true, true, true, true, true, true, true, true, true, true, false, false, false, false, false, true, false, false, false, false] rfl rfl (by kernel_rfl) (fun _ _ _ h => h) (Or.inl ⟨by rfl, ?_⟩) hHeld ?_ ?_
  rotate_left
  ·intro w' hs
   have m0 := blk_cell (blk_below HBX5.out hs) 0
   have m1 := blk_cell (blk_below HBX5.out hs) 1
   simp only [List.getElem?_toArray, List.getElem?_cons_succ, List.getElem?_cons_zero] at m0 m1
   go_simp
   with_reducible rfl
  rotate_left
  ·simp only [Act.put, List.setIfInBounds_toArray, List.set_cons_zero, List.set_cons_succ, i64_w, i32_w]
   rfl
  refine take_ (i := 10) (N := some 56) (v := ?_) (a' := ?_) #[true, true, true, true, true, true, true, true, true, true, true, false, false, false, false, true, false, false, false, false] rfl rfl (by kernel_rfl) (fun _ _ _ h => h) (Or.inl ⟨by rfl, ?_⟩) hHeld ?_ ?_
  rotate_left
  ·intro w' hs
   have m0 := blk_cell (blk_below HC5.out.bb hs) 0
   simp only [List.getElem?_toArray, List.getElem?_cons_succ, List.getElem?_cons_zero] at m0
   go_simp
   with_reducible rfl
  rotate_left
  ·simp only [Act.put, List.setIfInBounds_toArray, List.set_cons_zero, List.set_cons_succ, i64_w, i32_w]
   rfl
  refine pl_ [11, 12] ?_
  iterate 2 refine pP rfl rfl (by kernel_rfl) (fun _ _ _ h => h) (by rfl) (by intro w'; go_simp; with_reducible rfl) (by simp only [Act.put, z1, z2, z3, i64_w, i32_w]; rfl) ?_
  refine pl0 ?_
  refine take_ (i := 13) (N := some 59) (v := ?_) (a' := ?_) #[true, true, true, true, true, true, true, true, true, true, true, true, true, true, false, true, false, false, false, false] rfl rfl (by kernel_rfl) (fun _ _ _ h => h) (Or.inl ⟨by rfl, ?_⟩) hHeld ?_ ?_
  rotate_left
  ·intro w' hs
   have m1 := blk_cell (HC5.out.step hs).ktw.blk 1
   simp only [List.getElem?_toArray, List.getElem?_cons_succ, List.getElem?_cons_zero] at m1
   go_simp
   with_reducible rfl
  rotate_left
  ·simp only [Act.put, List.setIfInBounds_toArray, List.set_cons_zero, List.set_cons_succ, i64_w, i32_w]
   rfl
  refine pl_ [14, 16] ?_
  iterate 2 refine pP rfl rfl (by kernel_rfl) (fun _ _ _ h => h) (by rfl) (by intro w'; go_simp; with_reducible rfl) (by simp only [Act.put, z1, z2, z3, i64_w, i32_w]; rfl) ?_
  refine pl0 ?_
  have HH := Aside0.mk hHeld
  clear hHeld
  refine one_ (i := 17) (N := some 63) #[true, true, true, true, true, true, true, true, true, true, true, true, true, true, true, true, true, true, false, false] rfl rfl (by kernel_rfl) (by decide) (fun K hK => ?_)
  refine goes_ Try.func78 (by kernel_rfl) rfl #[.agg #[.int .u64 0, .int .u64 1], .int .i64 (wrap64 (wrap64 ((W : Int) - 1) - (i : Int)))] (by rfl) rfl rfl (by simp only [List.map_toArray, List.map_cons, List.map_nil]; rfl) ?_
  with_reducible refine (word_Shl.calls 5 0 1 (wrap64 (wrap64 ((W : Int) - 1) - (i : Int))) r1 r2 _ HSH.out).mono ?_
  rintro e_ w1 ⟨rfl, hb⟩
  refine ⟨_, rfl, ?_⟩
  have HG := Aside0.mk (below_step HH.out hb)
  clear hb HH
  refine hK.out _ _ HG.out (fun hHeld => ?_)
  clear hK K
  refine norm_ (a' := ?_) ?_ ?_
  rotate_left
  ·show Act.put _ (some 63) _ = _
   simp only [Act.put, List.setIfInBounds_toArray, List.set_cons_zero, List.set_cons_succ, i64_w, i32_w]
   rfl
  refine one_ (i := 18) (N := some 64) #[true, true, true, true, true, true, true, true, true, true, true, true, true, true, true, true, true, true, true, false] rfl rfl (by kernel_rfl) (by decide) (fun K hK => ?_)
  refine goes_ Try.func77 (by kernel_rfl) rfl #[.agg #[.int .u64 hi, .int .u64 lo], .agg #[.int .u64 r1, .int .u64 r2]] (by rfl) rfl rfl (by simp only [List.map_toArray, List.map_cons, List.map_nil]; rfl) ?_
  with_reducible refine (word_Or.calls hi lo r1 r2 q1 q2 _ HOR.out).mono ?_
  rintro e_ w1 ⟨rfl, hb⟩
  refine ⟨_, rfl, ?_⟩
  have HH := Aside0.mk (below_step HG.out hb)
  clear hb HG
  refine hK.out _ _ HH.out (fun hHeld => ?_)
  clear hK K
  refine norm_ (a' := ?_) ?_ ?_
  rotate_left
  ·show Act.put _ (some 64) _ = _
   simp only [Act.put, List.setIfInBounds_toArray, List.set_cons_zero, List.set_cons_succ, i64_w, i32_w]
   rfl
  refine last_ (i := 19) (N := some 65) #[true, true, true, true, true, true, true, true, true, true, true, true, true, true, true, true, true, true, true, true] rfl rfl (by kernel_rfl) (by decide) (fun K hK => ?_)
  refine goesW_ Try.func75 (by kernel_rfl) rfl #[sonP M (i + 1) (2 * k + 1), .int .i64 (wrap64 ((i : Int) + 1)), .agg #[.int .u64 q1, .int .u64 q2], .pointer (some ⟨pb, 0, none⟩), .pointer (some ⟨pl, 0, none⟩), .pointer (some ⟨pw, 0, none⟩)] (by rfl) rfl rfl (by rfl) (by simp only [List.map_toArray, List.map_cons, List.map_nil]; rfl) ?_
  with_reducible refine (IH.out.use (i + 1) (2 * k + 1) _ q1 q2 _ v5 _ HW64.out HD1.out HV2.out (HC5.out.step HH.out) HL2.out).mono ?_
  rintro e_ w4 ⟨rfl, hp6⟩
  refine ⟨_, rfl, ?_⟩
  have HP6 := Aside0.mk (WPost.then_ (Kept.of_below HH.out _) (fun k e => .inl e) hp6)
  clear hp6
  refine hK.out _ _ ?_
  clear hK K
  refine norm_ (a' := ?_) ?_ ?_
  rotate_left
  ·show Act.put _ (some 65) _ = _
   simp only [Act.put, List.setIfInBounds_toArray, List.set_cons_zero, List.set_cons_succ, i64_w, i32_w]
   rfl
  refine done_ (by kernel_rfl) ?_
  go_wp2
  go_end0
  have hp := WPost.then_ HKZ.out HOZ.out (WPost.then_ HK5.out HO5.out HP6.out)
  rw [List.append_assoc] at hp
  exact ⟨rfl, hp⟩
 ·refine value_ (w1 := ?_) (v := ?_) (by rfl) rfl ?_ ?_
  rotate_left 2
  ·go_simp
   constructor
   ·rfl
   ·rfl
  have HA := Aside0.mk (below_alloc HH.out (.cells #[.int .i64 0, .int .u64 0, .int .u64 0] 32 (0, 0)))
  have HZ0 := Aside0.mk (blk_new w3 (.cells #[.int .i64 0, .int .u64 0, .int .u64 0] 32 (0, 0)))
  refine hK.out _ _ HA.out (fun hHeld => ?_)
  clear hK K hHeld
  refine norm_ (a' := ?_) ?_ ?_
  rotate_left
  ·show Act.put _ (some 9) _ = _
   simp only [Act.put, List.setIfInBounds_toArray, List.set_cons_zero, List.set_cons_succ, i64_w, i32_w]
   rfl
  have HGE := Aside0.mk (show wq.heap.size ≤ w3.heap.size from below_size HH.out)
  generalize w3.heap.size = gz at HZ0 HGE ⊢
  generalize w3.alloc (.cells #[.int .i64 0, .int .u64 0, .int .u64 0] 32 (0, 0)) = w5 at HA HZ0 ⊢
  refine one_ (i := 5) (N := some 23) #[true, true, true, true, true, true, false, false, false, true, false, false] rfl rfl (by kernel_rfl) (by decide) (fun K hK => ?_)
  refine goes_ Try.func76 (by kernel_rfl) rfl #[.int .i64 (W : Int), .agg #[.int .u64 hi, .int .u64 lo]] (by rfl) rfl rfl (by simp only [List.map_toArray, List.map_cons, List.map_nil]; rfl) ?_
  with_reducible refine (vec_Cut.calls 5 (W : Int) hi lo (W : Int) hi lo 0 _ HCUT.out).mono ?_
  rintro e_ w4 ⟨rfl, hb⟩
  refine ⟨_, rfl, ?_⟩
  have HA2 := Aside0.mk (below_step HA.out hb)
  have HZ := Aside0.mk (blk_below HZ0.out hb)
  clear hb HZ0 HA
  refine hK.out _ _ HA2.out (fun hHeld => ?_)
  clear hK K hHeld
  refine norm_ (a' := ?_) ?_ ?_
  rotate_left
  ·show Act.put _ (some 23) _ = _
   simp only [Act.put, List.setIfInBounds_toArray, List.set_cons_zero, List.set_cons_succ, i64_w, i32_w]
   rfl
  refine pl_ [6, 7, 8] ?_
  iterate 3 refine pP rfl rfl (by kernel_rfl) (fun _ _ _ h => h) (by rfl) (by intro w'; go_simp; with_reducible rfl) (by simp only [Act.put, z1, z2, z3, i64_w, i32_w]; rfl) ?_
  refine pl0 ?_
  generalize w4 = w6 at HA2 HZ ⊢
  have z0 := blk_cell HZ.out 0
  have z1 := blk_cell HZ.out 1
  have z2 := blk_cell HZ.out 2
  simp only [List.getElem?_toArray, List.getElem?_cons_succ, List.getElem?_cons_zero] at z0 z1 z2
  have zf0 := blk_frozen HZ.out 0
  have zf1 := blk_frozen HZ.out 1
  have zf2 := blk_frozen HZ.out 2
  refine one_ (i := 10) (N := none) #[true, true, true, true, true, true, true, true, true, true, true, false] rfl rfl (by kernel_rfl) (by decide) (fun K hK => ?_)
  refine skip_ (w1 := ?_) (by rfl) rfl ?_ ?_
  rotate_left
  ·go_simp
   rfl
  have HB7 := Aside0.mk (below_set (below_set (below_set HA2.out HGE.out (j := 0) (v := .int .i64 (W : Int))) HGE.out (j := 1) (v := .int .u64 hi)) HGE.out (j := 2) (v := .int .u64 lo))
  have HZ7 := Aside0.mk (show (((w6.setCell ⟨gz, 0, none⟩ (.int .i64 (W : Int))).setCell ⟨gz, 1, none⟩ (.int .u64 hi)).setCell ⟨gz, 2, none⟩ (.int .u64 lo)).heap[gz]? = some (.cells #[.int .i64 (W : Int), .int .u64 hi, .int .u64 lo] 32 (0, 0)) from blk_put (blk_put (blk_put HZ.out 0 (.int .i64 (W : Int)) rfl) 1 (.int .u64 hi) rfl) 2 (.int .u64 lo) rfl)
  refine hK.out _ _ HB7.out (fun hHeld => ?_)
  clear hK K hHeld z0 z1 z2 zf0 zf1 zf2 HZ HA2 HGE
  generalize ((w6.setCell ⟨gz, 0, none⟩ (.int .i64 (W : Int))).setCell ⟨gz, 1, none⟩ (.int .u64 hi)).setCell ⟨gz, 2, none⟩ (.int .u64 lo) = w7 at HB7 HZ7 ⊢
  refine pl_ [11] ?_
  refine pP rfl rfl (by kernel_rfl) (fun _ _ _ h => h) (by rfl) (by intro w'; go_simp; with_reducible rfl) (by simp only [Act.put, z1, z2, z3, i64_w, i32_w]; rfl) ?_
  refine pl0 ?_
  refine done_ (by kernel_rfl) ?_
  go_wp2
  have HC7 := Aside0.mk (HC.out.step HB7.out)
  have HX7 := Aside0.mk (blk_below HBX.out HB7.out)
  refine start_ (n := 11) (S := fun w' => Below w7.heap.size w7 w') (ds := [9, 10]) #[false, false, false, false, false, false, false, false, false, false, false] (by kernel_rfl) rfl rfl (below_drew1 (Below.refl _ _)) (fun hHeld => ?_)
  generalize World.drew _ = w8 at hHeld ⊢
  refine pl_ [2, 3, 4, 5] ?_
  iterate 4 refine pP rfl rfl (by kernel_rfl) (fun _ _ _ h => h) (by rfl) (by intro w'; go_simp; with_reducible rfl) (by simp only [Act.put, z1, z2, z3, i64_w, i32_w]; rfl) ?_
  refine pl0 ?_
  refine take_ (i := 0) (N := some 26) (v := ?_) (a' := ?_) #[true, false, true, true, true, true, false, false, false, false, false] rfl rfl (by kernel_rfl) (fun _ _ _ h => h) (Or.inl ⟨by rfl, ?_⟩) hHeld ?_ ?_
  rotate_left
  ·intro w' hs
   have m0 := blk_cell (HC7.out.step hs).bl 0
   simp only [List.getElem?_toArray, List.getElem?_cons_succ, List.getElem?_cons_zero] at m0
   go_simp
   with_reducible rfl
  rotate_left
  ·simp only [Act.put, List.setIfInBounds_toArray, List.set_cons_zero, List.set_cons_succ, i64_w, i32_w]
   rfl
  refine take_ (i := 1) (N := some 27) (v := ?_) (a' := ?_) #[true, true, true, true, true, true, false, false, false, false, false] rfl rfl (by kernel_rfl) (fun _ _ _ h => h) (Or.inl ⟨by rfl, ?_⟩) hHeld ?_ ?_
  rotate_left
  ·intro w' hs
   have m0 := blk_cell (blk_below HZ7.out hs) 0
   have m1 := blk_cell (blk_below HZ7.out hs) 1
   have m2 := blk_cell (blk_below HZ7.out hs) 2
   simp only [List.getElem?_toArray, List.getElem?_cons_succ, List.getElem?_cons_zero] at m0 m1 m2
   go_simp
   with_reducible rfl
  rotate_left
  ·simp only [Act.put, List.setIfInBounds_toArray, List.set_cons_zero, List.set_cons_succ, i64_w, i32_w]
   rfl
  refine take_ (i := 6) (N := some 32) (v := ?_) (a' := ?_) #[true, true, true, true, true, true, true, false, false, false, false] rfl rfl (by kernel_rfl) (fun _ _ _ h => h) (Or.inl ⟨by rfl, ?_⟩) hHeld ?_ ?_
  rotate_left
  ·intro w' hs
   have m0 := blk_cell ((HC7.out.step hs).ktw.nt.cell _ _ _ _ _ HM.out) 3
   simp only [List.getElem?_toArray, List.getElem?_cons_succ, List.getElem?_cons_zero] at m0
   go_simp
   with_reducible rfl
  rotate_left
  ·simp only [Act.put, List.setIfInBounds_toArray, List.set_cons_zero, List.set_cons_succ, i64_w, i32_w]
   rfl
  refine pl_ [7] ?_
  refine pP rfl rfl (by kernel_rfl) (fun _ _ _ h => h) (by rfl) (by intro w'; go_simp; with_reducible rfl) (by simp only [Act.put, z1, z2, z3, i64_w, i32_w]; rfl) ?_
  refine pl0 ?_
  have HH8 := Aside0.mk hHeld
  refine one_ (i := 8) (N := some 34) #[true, true, true, true, true, true, true, true, true, false, false] rfl rfl (by kernel_rfl) (by decide) (fun K hK => ?_)
  refine value_ (w1 := ?_) (v := ?_) (by rfl) rfl ?_ ?_
  rotate_left 2
  ·go_simp
   constructor
   ·rfl
   ·rfl
  refine hK.out _ _ (below_alloc HH8.out _) (fun hHeld => ?_)
  clear hK K hHeld
  refine norm_ (a' := ?_) ?_ ?_
  rotate_left
  ·show Act.put _ (some 34) _ = _
   simp only [Act.put, List.setIfInBounds_toArray, List.set_cons_zero, List.set_cons_succ, i64_w, i32_w]
   rfl
  have HC8 := Aside0.mk (HC7.out.step HH8.out)
  refine last_ (i := 9) (N := some 35) #[true, true, true, true, true, true, true, true, true, true, false] rfl rfl (by kernel_rfl) (by decide) (fun K hK => ?_)
  refine Kd.R_append_step k44 (w0 := w0) w0.heap.size rfl (.tmp 26) (.tmp 34) 40 44 (.agg #[(.int .i64 0), (.int .u64 0), (.int .u64 0), (.int .i64 0), (.int .i64 0)]) 40 rfl Try.underlying40 info44 rfl (by decide) (by decide) v out (⟨⟨(W : Int), hi, lo⟩, (i : Int), n0⟩ : S44) [.int .i64 (W : Int), .int .u64 hi, .int .u64 lo, .int .i64 (i : Int), .int .i64 n0] (fun q => some q = v.ownBlock ∨ w8.heap.size ≤ q) (fun _ => False) rfl rfl (k44_mkM _ _ _ _) (fun _ h => h.elim) (fun q hq => .inr hq) (Kd.R_mono HC8.out.row (fun q hq => .inl hq)) HC8.out.bel HC8.out.bel.size HLO.out ?_
  intro v1 w9 hr9 hb9 hg9 hat9
  have HR9 := Aside0.mk hr9
  have HB9 := Aside0.mk hb9
  have HG9 := Aside0.mk hg9
  have HT9 := Aside0.mk hat9
  clear hr9 hb9 hg9 hat9
  refine hK.out _ _ ?_
  clear hK K
  refine norm_ (a' := ?_) ?_ ?_
  rotate_left
  ·show Act.put _ (some 35) _ = _
   simp only [Act.put, List.setIfInBounds_toArray, List.set_cons_zero, List.set_cons_succ, i64_w, i32_w]
   rfl
  have HPL := Aside0.mk (HC8.out.app_bl HG9.out)
  have p0 := blk_cell HPL.out 0
  simp only [List.getElem?_toArray, List.getElem?_cons_succ, List.getElem?_cons_zero] at p0
  have pf0 := blk_frozen HPL.out 0
  refine last_ (i := 10) (N := none) #[true, true, true, true, true, true, true, true, true, true, true] rfl rfl (by kernel_rfl) (by decide) (fun K hK => ?_)
  refine skip_ (w1 := w9.setCell ⟨pl, 0, none⟩ v1) (by rfl) rfl ?_ ?_
  ·obtain ⟨A9, c9, hv9⟩ := Kd.R_slice HR9.out
   clear hK HG9 HT9
   subst hv9
   go_simp
  refine hK.out _ _ ?_
  clear hK K p0 pf0
  refine done_ (by kernel_rfl) ?_
  go_wp2
  obtain ⟨hcz, hkz⟩ := HC8.out.app HR9.out HB9.out HG9.out
  have HKZ := Aside0.mk ((Kept.of_below (below_step HW1.out (below_step HB7.out HH8.out)) (SKl pl v)).then_ hkz (fun q e => .inl e))
  have HOZ := Aside0.mk (show ∀ q, some q = v1.ownBlock → some q = v.ownBlock ∨ w.heap.size ≤ q from fun q e => by
   rcases HT9.out with e2 | ⟨b9, e2, e3⟩
   ·rw [e2] at e; exact .inl e
   ·rw [e2] at e; injection e with e; subst e; refine .inr (Nat.le_trans (below_step HW1.out (below_step HB7.out HH8.out)).size e3))
  have HBZ := Aside0.mk (blk_kept (blk_below HX7.out HH8.out) hkz (CLs.apart HC8.out (blk_below HX7.out HH8.out)))
  generalize w9.setCell ⟨pl, 0, none⟩ v1 = wz at hcz HKZ HBZ ⊢
  clear hkz HC HBX
  have HC := Aside0.mk hcz
  have HBX := Aside0.mk HBZ.out
  clear hcz HBZ HR9 HB9 HG9 HT9 HPL HC8 HC7 HX7 HH8 HZ7 HB7
  refine start_ (n := 10) (S := fun w' => Below wz.heap.size wz w') (ds := [9]) #[false, false, false, false, false, false, false, false, false, false] (by kernel_rfl) rfl rfl (below_drew1 (Below.refl _ _)) (fun hHeld => ?_)
  generalize World.drew _ = wy at hHeld ⊢
  refine pl_ [1, 2, 3, 4, 6, 7] ?_
  iterate 6 refine pP rfl rfl (by kernel_rfl) (fun _ _ _ h => h) (by rfl) (by intro w'; go_simp; with_reducible rfl) (by simp only [Act.put, z1, z2, z3, i64_w, i32_w]; rfl) ?_
  refine pl0 ?_
  refine take_ (i := 0) (N := some 36) (v := ?_) (a' := ?_) #[true, true, true, true, true, false, true, true, false, false] rfl rfl (by kernel_rfl) (fun _ _ _ h => h) (Or.inl ⟨by rfl, ?_⟩) hHeld ?_ ?_
  rotate_left
  ·intro w' hs
   have m0 := blk_cell (blk_below HC.out.bw hs) 0
   simp only [List.getElem?_toArray, List.getElem?_cons_succ, List.getElem?_cons_zero] at m0
   go_simp
   with_reducible rfl
  rotate_left
  ·simp only [Act.put, List.setIfInBounds_toArray, List.set_cons_zero, List.set_cons_succ, i64_w, i32_w]
   rfl
  refine take_ (i := 5) (N := some 41) (v := ?_) (a' := ?_) #[true, true, true, true, true, true, true, true, false, false] rfl rfl (by kernel_rfl) (fun _ _ _ h => h) (Or.inl ⟨by rfl, ?_⟩) hHeld ?_ ?_
  rotate_left
  ·intro w' hs
   have m0 := son_cell (HC.out.step hs).ktw.nt HM.out (show 0 < 2 by decide)
   rw [Nat.add_zero] at m0
   go_simp
   with_reducible rfl
  rotate_left
  ·simp only [Act.put, List.setIfInBounds_toArray, List.set_cons_zero, List.set_cons_succ, i64_w, i32_w]
   rfl
  refine take_ (i := 8) (N := some 44) (v := ?_) (a' := ?_) #[true, true, true, true, true, true, true, true, true, false] rfl rfl (by kernel_rfl) (fun _ _ _ h => h) (Or.inl ⟨by rfl, ?_⟩) hHeld ?_ ?_
  rotate_left
  ·intro w' hs
   have m0 := blk_cell (blk_below HBX.out hs) 0
   have m1 := blk_cell (blk_below HBX.out hs) 1
   simp only [List.getElem?_toArray, List.getElem?_cons_succ, List.getElem?_cons_zero] at m0 m1
   go_simp
   with_reducible rfl
  rotate_left
  ·simp only [Act.put, List.setIfInBounds_toArray, List.set_cons_zero, List.set_cons_succ, i64_w, i32_w]
   rfl
  have HH := Aside0.mk hHeld
  clear hHeld
  refine last_ (i := 9) (N := some 45) #[true, true, true, true, true, true, true, true, true, true] rfl rfl (by kernel_rfl) (by decide) (fun K hK => ?_)
  refine goesW_ Try.func75 (by kernel_rfl) rfl #[sonP M (i + 1) (2 * k), .int .i64 (wrap64 ((i : Int) + 1)), .agg #[.int .u64 hi, .int .u64 lo], .pointer (some ⟨pb, 0, none⟩), .pointer (some ⟨pl, 0, none⟩), .pointer (some ⟨pw, 0, none⟩)] (by rfl) rfl rfl (by rfl) (by simp only [List.map_toArray, List.map_cons, List.map_nil]; rfl) ?_
  with_reducible refine (IH.out.use (i + 1) (2 * k) _ hi lo _ v1 (out ++ [(⟨⟨(W : Int), hi, lo⟩, (i : Int), n0⟩ : S44)]) HW64.out HD1.out HV1.out (HC.out.step HH.out) HL1.out).mono ?_
  rintro e_ w4 ⟨rfl, v5, hc5, hk5, ho5⟩
  refine ⟨_, rfl, ?_⟩
  have HC5 := Aside0.mk hc5
  have HBX5 := Aside0.mk (blk_kept (blk_below HBX.out HH.out) hk5 (HNB.out _ _ (HC.out.step HH.out) (blk_below HBX.out HH.out)))
  have HK5 := Aside0.mk ((Kept.of_below HH.out (SKl pl v1)).then_ hk5 (fun k e => .inl e))
  have HO5 := Aside0.mk (show ∀ q, some q = v5.ownBlock → some q = v1.ownBlock ∨ wz.heap.size ≤ q from fun q e => (ho5 q e).imp_right (fun h => Nat.le_trans HH.out.size h))
  clear hc5 hk5 ho5 HBX HC HH
  refine hK.out _ _ ?_
  clear hK K
  refine norm_ (a' := ?_) ?_ ?_
  rotate_left
  ·show Act.put _ (some 45) _ = _
   simp only [Act.put, List.setIfInBounds_toArray, List.set_cons_zero, List.set_cons_succ, i64_w, i32_w]
   rfl
  refine done_ (by kernel_rfl) ?_
  go_wp2
  refine start_ (n := 20) (S := fun w' => Below w4.heap.size w4 w') (ds := [19]) #[false, false, false, false, false, false, false, false, false, false, false, false, false, false, false, false, false, false, false, false] (by kernel_rfl) rfl rfl (below_drew1 (Below.refl _ _)) (fun hHeld => ?_)
  generalize World.drew _ = wx at hHeld ⊢
  refine pl_ [1, 2, 3, 4, 6, 7, 9, 15] ?_
  iterate 8 refine pP rfl rfl (by kernel_rfl) (fun _ _ _ h => h) (by rfl) (by intro w'; go_simp; with_reducible rfl) (by simp only [Act.put, z1, z2, z3, i64_w, i32_w]; rfl) ?_
  refine pl0 ?_
  refine take_ (i := 0) (N := some 46) (v := ?_) (a' := ?_) #[true, true, true, true, true, false, true, true, false, true, false, false, false, false, false, true, false, false, false, false] rfl rfl (by kernel_rfl) (fun _ _ _ h => h) (Or.inl ⟨by rfl, ?_⟩) hHeld ?_ ?_
  rotate_left
  ·intro w' hs
   have m0 := blk_cell (blk_below HC5.out.bw hs) 0
   simp only [List.getElem?_toArray, List.getElem?_cons_succ, List.getElem?_cons_zero] at m0
   go_simp
   with_reducible rfl
  rotate_left
  ·simp only [Act.put, List.setIfInBounds_toArray, List.set_cons_zero, List.set_cons_succ, i64_w, i32_w]
   rfl
  refine take_ (i := 5) (N := some 51) (v := ?_) (a' := ?_) #[true, true, true, true, true, true, true, true, false, true, false, false, false, false, false, true, false, false, false, false] rfl rfl (by kernel_rfl) (fun _ _ _ h => h) (Or.inl ⟨by rfl, ?_⟩) hHeld ?_ ?_
  rotate_left
  ·intro w' hs
   have m0 := son_cell (HC5.out.step hs).ktw.nt HM.out (show 1 < 2 by decide)
   go_simp
   with_reducible rfl
  rotate_left
  ·simp only [Act.put, List.setIfInBounds_toArray, List.set_cons_zero, List.set_cons_succ, i64_w, i32_w]
   rfl
  refine take_ (i := 8) (N := some 54) (v := ?_) (a' := ?_) #[true, true, true, true, true, true, true, true, true, true, false, false, false, false, false, true, false, false, false, false] rfl rfl (by kernel_rfl) (fun _ _ _ h => h) (Or.inl ⟨by rfl, ?_⟩) hHeld ?_ ?_
  rotate_left
  ·intro w' hs
   have m0 := blk_cell (blk_below HBX5.out hs) 0
   have m1 := blk_cell (blk_below HBX5.out hs) 1
   simp only [List.getElem?_toArray, List.getElem?_cons_succ, List.getElem?_cons_zero] at m0 m1
   go_simp
   with_reducible rfl
  rotate_left
  ·simp only [Act.put, List.setIfInBounds_toArray, List.set_cons_zero, List.set_cons_succ, i64_w, i32_w]
   rfl
  refine take_ (i := 10) (N := some 56) (v := ?_) (a' := ?_) #[true, true, true, true, true, true, true, true, true, true, true, false, false, false, false, true, false, false, false, false] rfl rfl (by kernel_rfl) (fun _ _ _ h => h) (Or.inl ⟨by rfl, ?_⟩) hHeld ?_ ?_
  rotate_left
  ·intro w' hs
   have m0 := blk_cell (blk_below HC5.out.bb hs) 0
   simp only [List.getElem?_toArray, List.getElem?_cons_succ, List.getElem?_cons_zero] at m0
   go_simp
   with_reducible rfl
  rotate_left
  ·simp only [Act.put, List.setIfInBounds_toArray, List.set_cons_zero, List.set_cons_succ, i64_w, i32_w]
   rfl
  refine pl_ [11, 12] ?_
  iterate 2 refine pP rfl rfl (by kernel_rfl) (fun _ _ _ h => h) (by rfl) (by intro w'; go_simp; with_reducible rfl) (by simp only [Act.put, z1, z2, z3, i64_w, i32_w]; rfl) ?_
  refine pl0 ?_
  refine take_ (i := 13) (N := some 59) (v := ?_) (a' := ?_) #[true, true, true, true, true, true, true, true, true, true, true, true, true, true, false, true, false, false, false, false] rfl rfl (by kernel_rfl) (fun _ _ _ h => h) (Or.inl ⟨by rfl, ?_⟩) hHeld ?_ ?_
  rotate_left
  ·intro w' hs
   have m1 := blk_cell (HC5.out.step hs).ktw.blk 1
   simp only [List.getElem?_toArray, List.getElem?_cons_succ, List.getElem?_cons_zero] at m1
   go_simp
   with_reducible rfl
  rotate_left
  ·simp only [Act.put, List.setIfInBounds_toArray, List.set_cons_zero, List.set_cons_succ, i64_w, i32_w]
   rfl
  refine pl_ [14, 16] ?_
  iterate 2 refine pP rfl rfl (by kernel_rfl) (fun _ _ _ h => h) (by rfl) (by intro w'; go_simp; with_reducible rfl) (by simp only [Act.put, z1, z2, z3, i64_w, i32_w]; rfl) ?_
  refine pl0 ?_
  have HH := Aside0.mk hHeld
  clear hHeld
  refine one_ (i := 17) (N := some 63) #[true, true, true, true, true, true, true, true, true, true, true, true, true, true, true, true, true, true, false, false] rfl rfl (by kernel_rfl) (by decide) (fun K hK => ?_)
  refine goes_ Try.func78 (by kernel_rfl) rfl #[.agg #[.int .u64 0, .int .u64 1], .int .i64 (wrap64 (wrap64 ((W : Int) - 1) - (i : Int)))] (by rfl) rfl rfl (by simp only [List.map_toArray, List.map_cons, List.map_nil]; rfl) ?_
  with_reducible refine (word_Shl.calls 5 0 1 (wrap64 (wrap64 ((W : Int) - 1) - (i : Int))) r1 r2 _ HSH.out).mono ?_
  rintro e_ w1 ⟨rfl, hb⟩
  refine ⟨_, rfl, ?_⟩
  have HG := Aside0.mk (below_step HH.out hb)
  clear hb HH
  refine hK.out _ _ HG.out (fun hHeld => ?_)
  clear hK K
  refine norm_ (a' := ?_) ?_ ?_
  rotate_left
  ·show Act.put _ (some 63) _ = _
   simp only [Act.put, List.setIfInBounds_toArray, List.set_cons_zero, List.set_cons_succ, i64_w, i32_w]
   rfl
  refine one_ (i := 18) (N := some 64) #[true, true, true, true, true, true, true, true, true, true, true, true, true, true, true, true, true, true, true, false] rfl rfl (by kernel_rfl) (by decide) (fun K hK => ?_)
  refine goes_ Try.func77 (by kernel_rfl) rfl #[.agg #[.int .u64 hi, .int .u64 lo], .agg #[.int .u64 r1, .int .u64 r2]] (by rfl) rfl rfl (by simp only [List.map_toArray, List.map_cons, List.map_nil]; rfl) ?_
  with_reducible refine (word_Or.calls hi lo r1 r2 q1 q2 _ HOR.out).mono ?_
  rintro e_ w1 ⟨rfl, hb⟩
  refine ⟨_, rfl, ?_⟩
  have HH := Aside0.mk (below_step HG.out hb)
  clear hb HG
  refine hK.out _ _ HH.out (fun hHeld => ?_)
  clear hK K
  refine norm_ (a' := ?_) ?_ ?_
  rotate_left
  ·show Act.put _ (some 64) _ = _
   simp only [Act.put, List.setIfInBounds_toArray, List.set_cons_zero, List.set_cons_succ, i64_w, i32_w]
   rfl
  refine last_ (i := 19) (N := some 65) #[true, true, true, true, true, true, true, true, true, true, true, true, true, true, true, true, true, true, true, true] rfl rfl (by kernel_rfl) (by decide) (fun K hK => ?_)
  refine goesW_ Try.func75 (by kernel_rfl) rfl #[sonP M (i + 1) (2 * k + 1), .int .i64 (wrap64 ((i : Int) + 1)), .agg #[.int .u64 q1, .int .u64 q2], .pointer (some ⟨pb, 0, none⟩), .pointer (some ⟨pl, 0, none⟩), .pointer (some ⟨pw, 0, none⟩)] (by rfl) rfl rfl (by rfl) (by simp only [List.map_toArray, List.map_cons, List.map_nil]; rfl) ?_
  with_reducible refine (IH.out.use (i + 1) (2 * k + 1) _ q1 q2 _ v5 _ HW64.out HD1.out HV2.out (HC5.out.step HH.out) HL2.out).mono ?_
  rintro e_ w4 ⟨rfl, hp6⟩
  refine ⟨_, rfl, ?_⟩
  have HP6 := Aside0.mk (WPost.then_ (Kept.of_below HH.out _) (fun k e => .inl e) hp6)
  clear hp6
  refine hK.out _ _ ?_
  clear hK K
  refine norm_ (a' := ?_) ?_ ?_
  rotate_left
  ·show Act.put _ (some 65) _ = _
   simp only [Act.put, List.setIfInBounds_toArray, List.set_cons_zero, List.set_cons_succ, i64_w, i32_w]
   rfl
  refine done_ (by kernel_rfl) ?_
  go_wp2
  go_end0
  have hp := WPost.then_ HKZ.out HOZ.out (WPost.then_ HK5.out HO5.out HP6.out)
  rw [List.append_assoc] at hp
  exact ⟨rfl, hp⟩
end Go.Proofs.Ytfdbcnbakchcgaa.XR
