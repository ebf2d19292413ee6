import Derived.Test.YtfdbcnbakchcgaaSv
import Derived.Test.YtfdbcnbakchcgaaXQx0
import Derived.Test.YtfdbcnbakchcgaaXQx2
import Derived.Test.YtfdbcnbakchcgaaXQx3
import Derived.Test.YtfdbcnbakchcgaaXQx4
import Derived.Test.YtfdbcnbakchcgaaXQx5
namespace Go.Proofs.Ytfdbcnbakchcgaa.XQ
open Go.RowKit Go.Proofs.YtfdbcnbakchcgaaW.PrintWords Go.Proofs.YtfdbcnbakchcgaaW.PrintLast Go.Proofs.YtfdbcnbakchcgaaW.PrintMore
attribute [local go_sem] max2_int min2_int max_two min_two max_three min_three max_four min_four
set_option linter.unusedVariables false
set_option linter.unusedSimpArgs false
attribute [local go_sem high] eqA130
-- AFTER shunter/vec.Cut
def hiW (X : Nat) : Int := ((X / 2 ^ 64 % 2 ^ 64 : Nat) : Int)
def loW (X : Nat) : Int := ((X % 2 ^ 64 : Nat) : Int)
theorem hiW_nn (X : Nat) : 0 ≤ hiW X ∧ hiW X < 2 ^ 64 := by unfold hiW; omega
theorem loW_nn (X : Nat) : 0 ≤ loW X ∧ loW X < 2 ^ 64 := by unfold loW; omega
def valW (h l : Int) : Nat := h.toNat * 2 ^ 64 + l.toNat
theorem hiW_valW {h l : Int} (hh : 0 ≤ h) (hh2 : h < 2 ^ 64) (hl : 0 ≤ l) (hl2 : l < 2 ^ 64) : hiW (valW h l) = h := by unfold hiW valW; omega
theorem loW_valW {h l : Int} (hl : 0 ≤ l) (hl2 : l < 2 ^ 64) : loW (valW h l) = l := by unfold loW valW; omega
theorem valW_lt {h l : Int} (hh : 0 ≤ h) (hh2 : h < 2 ^ 64) (hl : 0 ≤ l) (hl2 : l < 2 ^ 64) : valW h l < 2 ^ 128 := by unfold valW; omega
theorem hiW_bits {X : Nat} {n : Nat} (h : ∀ i, i < 64 → X.testBit (64 + i) = n.testBit i) (hn : n < 2 ^ 64) : hiW X = (n : Int) := by
 unfold hiW
 congr 1
 apply Nat.eq_of_testBit_eq
 intro i
 rw [Nat.testBit_mod_two_pow, Nat.testBit_div_two_pow]
 by_cases hi : i < 64
 ·simp [hi, Nat.add_comm i, h i hi]
 ·simp [hi]
  exact Nat.testBit_lt_two_pow (Nat.lt_of_lt_of_le hn (Nat.pow_le_pow_right (by decide) (show 64 ≤ i by omega)))
theorem loW_bits {X : Nat} {n : Nat} (h : ∀ i, i < 64 → X.testBit i = n.testBit i) (hn : n < 2 ^ 64) : loW X = (n : Int) := by
 unfold loW
 congr 1
 apply Nat.eq_of_testBit_eq
 intro i
 rw [Nat.testBit_mod_two_pow]
 by_cases hi : i < 64
 ·simp [hi, h i hi]
 ·simp [hi]
  exact Nat.testBit_lt_two_pow (Nat.lt_of_lt_of_le hn (Nat.pow_le_pow_right (by decide) (show 64 ≤ i by omega)))
theorem hiW_tb (X i : Nat) : (X / 2 ^ 64 % 2 ^ 64).testBit i = (decide (i < 64) && X.testBit (i + 64)) := by
 rw [Nat.testBit_mod_two_pow, Nat.testBit_div_two_pow]
theorem loW_tb (X i : Nat) : (X % 2 ^ 64).testBit i = (decide (i < 64) && X.testBit i) := by
 rw [Nat.testBit_mod_two_pow]
theorem word_And_eq (X Y : Nat) : word_And.f (hiW X) (loW X) (hiW Y) (loW Y) = some (hiW (X &&& Y), loW (X &&& Y)) := by
 unfold word_And.f hiW loW
 rw [u64_and_nat _ _ (Nat.mod_lt _ (by decide)) (Nat.mod_lt _ (by decide)), u64_and_nat _ _ (Nat.mod_lt _ (by decide)) (Nat.mod_lt _ (by decide))]
 congr 4
 ·apply Nat.eq_of_testBit_eq; intro i
  rw [Nat.testBit_and, hiW_tb, hiW_tb, hiW_tb, Nat.testBit_and]
  cases decide (i < 64) <;> simp
 ·apply Nat.eq_of_testBit_eq; intro i
  rw [Nat.testBit_and, loW_tb, loW_tb, loW_tb, Nat.testBit_and]
  cases decide (i < 64) <;> simp
theorem shl_nat (x n : Nat) (hn : n ≤ 64) : shl .u64 (x : Int) (n : Int) = ((x * 2 ^ n % 2 ^ 64 : Nat) : Int) := by
 unfold shl
 rw [show IntKind.u64.bits = 64 from rfl, IntKind.wrap_u64, show min (n : Int).toNat 64 = n by omega]
 rw [Int.natCast_emod, Int.natCast_mul, Int.natCast_pow]
 rfl
theorem shr_nat (x n : Nat) (hn : n ≤ 64) : shr .u64 (x : Int) (n : Int) = ((x / 2 ^ n : Nat) : Int) := by
 unfold shr
 rw [show IntKind.u64.bits = 64 from rfl, show min (n : Int).toNat 64 = n by omega, Int.natCast_ediv, Int.natCast_pow]
 rfl
theorem tb_shl (x n i : Nat) : (x * 2 ^ n).testBit i = (decide (n ≤ i) && x.testBit (i - n)) := by
 rw [← Nat.shiftLeft_eq, Nat.testBit_shiftLeft]
theorem tb_shr (x n i : Nat) : (x / 2 ^ n).testBit i = x.testBit (i + n) := Nat.testBit_div_two_pow ..
theorem wrap64_id (n : Int) (h : -9223372036854775808 ≤ n) (h2 : n ≤ 9223372036854775807) : wrap64 n = n := by unfold wrap64; omega
theorem tb_hi {X : Nat} (h : X < 2 ^ 128) (i : Nat) (hi : 128 ≤ i) : X.testBit i = false :=
 Nat.testBit_lt_two_pow (Nat.lt_of_lt_of_le h (Nat.pow_le_pow_right (by decide) hi))
theorem word_Shl_pos (k : Nat) (X n : Nat) (hn : n < 128) : word_Shl.f (k + 1) (hiW X) (loW X) (n : Int) = some (hiW (X * 2 ^ n), loW (X * 2 ^ n)) := by
 unfold word_Shl.f
 rw [if_neg (by omega), decide_eq_false (by omega)]
 simp only [word_Shl.j0]
 rw [if_neg (by simp), if_neg (by omega)]
 by_cases h0 : n = 0
 ·subst h0; simp
 rw [if_neg (by omega)]
 by_cases h1 : 64 ≤ n
 ·rw [if_pos (by omega), wrap64_id _ (by omega) (by omega), if_pos (by omega)]
  congr 2
  ·rw [show (n : Int) - 64 = ((n - 64 : Nat) : Int) by omega]
   unfold loW
   rw [shl_nat _ _ (by omega)]
   refine (hiW_bits (fun i hi => ?_) (Nat.mod_lt _ (by decide))).symm
   rw [Nat.testBit_mod_two_pow, tb_shl, tb_shl, Nat.testBit_mod_two_pow]
   rw [show 64 + i - n = i - (n - 64) by omega]
   by_cases h : n - 64 ≤ i
   ·simp [hi, h, show n ≤ 64 + i by omega, show i - (n - 64) < 64 by omega]
   ·simp [h, show ¬ n ≤ 64 + i by omega]
  ·refine (loW_bits (n := 0) (fun i hi => ?_) (by decide)).symm
   rw [tb_shl]
   simp; omega
 ·rw [if_neg (by omega), if_pos (by omega), wrap64_id _ (by omega) (by omega), if_pos (by omega)]
  rw [show (64 : Int) - n = ((64 - n : Nat) : Int) by omega]
  congr 2
  ·unfold hiW loW
   rw [shl_nat _ _ (by omega), shr_nat _ _ (by omega), u64_or_nat _ _ (Nat.mod_lt _ (by decide)) (Nat.lt_of_le_of_lt (Nat.div_le_self _ _) (Nat.mod_lt _ (by decide)))]
   congr 1
   simp only [show (18446744073709551616 : Nat) = 2 ^ 64 from rfl]
   apply Nat.eq_of_testBit_eq; intro i
   rw [Nat.testBit_or, Nat.testBit_mod_two_pow, tb_shl, tb_shr, hiW_tb, loW_tb, hiW_tb, tb_shl]
   by_cases hi : i < 64
   ·by_cases h : n ≤ i
    ·simp [hi, h, show n ≤ i + 64 by omega, show i - n < 64 by omega, show ¬ (i + (64 - n) < 64) by omega, show i + 64 - n = i - n + 64 by omega]
    ·simp [hi, h, show n ≤ i + 64 by omega, show (i + (64 - n) < 64) by omega, show i + 64 - n = i + (64 - n) by omega]
   ·simp [hi]; omega
  ·unfold loW
   rw [shl_nat _ _ (by omega)]
   congr 1
   apply Nat.eq_of_testBit_eq; intro i
   rw [Nat.testBit_mod_two_pow, tb_shl, loW_tb, loW_tb, tb_shl]
   by_cases hi : i < 64
   ·simp [hi, show i - n < 64 by omega]
   ·simp [hi]
theorem hiW_one : hiW 1 = 0 := rfl
theorem loW_one : loW 1 = 1 := rfl
theorem sub_one_hl (n : Nat) (h0 : 0 < n) (hn : n < 128) : word_Sub.f (hiW (2 ^ n)) (loW (2 ^ n)) 0 1 = some (hiW (2 ^ n - 1), loW (2 ^ n - 1), false) := by
 unfold word_Sub.f sbD sbB hiW loW
 have hp : 1 < 2 ^ n := Nat.one_lt_two_pow (by omega)
 have hp2 : 2 ^ n < 2 ^ 128 := Nat.pow_lt_pow_right (by decide) hn
 generalize 2 ^ n = p at *
 have e1 : ((0 : Int).toNat) = 0 := rfl
 have e2 : ((1 : Int).toNat) = 1 := rfl
 simp only [Int.toNat_natCast, e1, e2, Nat.add_zero]
 refine congrArg some ?_
 by_cases h : p % 2 ^ 64 < 1
 ·rw [if_pos h]
  have g : ¬ (p / 2 ^ 64 % 2 ^ 64 < 0 + 1) := by omega
  rw [if_neg g]
  refine Prod.ext (congrArg Nat.cast ?_) (Prod.ext (congrArg Nat.cast ?_) rfl)
  ·omega
  ·omega
 ·rw [if_neg h]
  have g : ¬ (p / 2 ^ 64 % 2 ^ 64 < 0 + 0) := by omega
  rw [if_neg g]
  refine Prod.ext (congrArg Nat.cast ?_) (Prod.ext (congrArg Nat.cast ?_) rfl)
  ·omega
  ·omega
theorem word_Not_zero : word_Not.f 0 0 = some (hiW (2 ^ 128 - 1), loW (2 ^ 128 - 1)) := by decide
theorem word_Ones_eq (k n : Nat) : word_Ones.f (k + 1) (n : Int) = some (hiW (2 ^ min n 128 - 1), loW (2 ^ min n 128 - 1)) := by
 unfold word_Ones.f
 by_cases h0 : n = 0
 ·subst h0; rw [if_pos (by omega)]; rfl
 rw [if_neg (by omega)]
 by_cases h1 : 128 ≤ n
 ·rw [if_pos (by omega), word_Not_zero, show min n 128 = 128 by omega]; rfl
 ·rw [if_neg (by omega)]
  have := word_Shl_pos k 1 n (by omega)
  rw [hiW_one, loW_one, Nat.one_mul] at this
  rw [this, Option.bind_some, sub_one_hl n (by omega) (by omega), show min n 128 = n by omega]; rfl
theorem vec_Cut_eq (k : Nat) (w : Int) (X : Nat) : vec_Cut.f (k + 1) w (hiW X) (loW X) = if 1 ≤ w ∧ w ≤ 128 then some (w, hiW (X % 2 ^ w.toNat), loW (X % 2 ^ w.toNat), 0) else some (0, 0, 0, 9) := by
 unfold vec_Cut.f vec_width.f
 by_cases h1 : 1 ≤ w
 ·rw [if_pos (by omega), Option.bind_some]
  by_cases h2 : w ≤ 128
  ·obtain ⟨n, rfl⟩ : ∃ n : Nat, w = n := ⟨w.toNat, by omega⟩
   rw [if_pos (by simpa using h2), if_pos ⟨h1, h2⟩, word_Ones_eq, Option.bind_some, word_And_eq, Option.bind_some]
   unfold vec_row.f
   rw [Option.bind_some]
   rw [show min n 128 = n by omega, show X &&& (2 ^ n - 1) = X % 2 ^ n from Nat.and_two_pow_sub_one_eq_mod ..]
   rfl
  ·rw [if_neg (by simpa using h2), if_neg (by omega)]
 ·rw [if_neg (by omega), Option.bind_some, if_neg (by simp), if_neg (by omega)]
-- EXT shunter/vec.And ROUNDS=0 MAKING=1 DEPS=shunter/vec.May;shunter/vec.Word;shunter/word.And;shunter/vec.Cut
structure BX3 (w W : World) (x y z : Obj) : Prop where
 b0 : W.heap[w.heap.size]? = some x
 b1 : W.heap[w.heap.size + 1]? = some y
 b2 : W.heap[w.heap.size + 1 + 1]? = some z
 below : Below w.heap.size w W
theorem BX3.start (w : World) (x y z : Obj) : BX3 w (((w.alloc x).alloc y).alloc z) x y z := by
 have h1 : (w.alloc x).heap.size = w.heap.size + 1 := by simp
 have h2 : ((w.alloc x).alloc y).heap.size = w.heap.size + 1 + 1 := by simp
 refine ⟨blk_alloc (blk_alloc (blk_new w x) y) z, ?_, ?_, below_alloc (below_alloc (below_alloc (Below.refl _ _) _) _) _⟩
 ·have := blk_alloc (blk_new (w.alloc x) y) z
  rwa [h1] at this
 ·have := blk_new ((w.alloc x).alloc y) z
  rwa [h2] at this
theorem BX3.step {w W W1 : World} {x y z : Obj} (h : BX3 w W x y z) (hb : Below W.heap.size W W1) : BX3 w W1 x y z :=
 ⟨blk_below h.b0 hb, blk_below h.b1 hb, blk_below h.b2 hb, below_step h.below hb⟩
theorem BX3.drew {w W : World} {x y z : Obj} (h : BX3 w W x y z) : BX3 w W.drew x y z := h.step (below_drew1 (Below.refl _ _))
theorem goesV_ {P : Program} {ops : Array Oper} {Q : Exit → Act → World → Prop} {oi : Oper} {N : Option Tmp} {a : Act} {w : World} {K : Act → World → Prop} {f : FuncId} {fn : Func} {x : Operand} {ops2 : Array Operand} {ts : Array TypeId} (hf : P.funcs[f]? = some fn) (hname : (fn.name == "runtime.NumGoroutine") = false) (hb : fn.body.isSome = true) (args : Array Value)
 (hw : Region.wanted oi (yielded ops a.tmps) = true) (hN : oi.dst = N) (hop : oi.op = .call { callee := .value x, args := ops2, argTypes := ts }) (hx : a.eval x = .func (.func f) #[] #[]) (hargs : ops2.map a.eval = args)
 (h : Calls P f args w fun e w' => ∃ v, e = .returned v ∧ K (a.put N v) w') : if Region.wanted oi (yielded ops a.tmps) = true then Oper.wp P oi a w K Q else K (a.put N undef) w := by
 refine call_ f args hw hN ?_ h
 have he := enters_ hf hname hb args w
 unfold execOp
 simp [hop, resolve, Deferred.ofValue, invoke, hx, hargs, he]
def vec_And.f (a0 a1 a2 b0 b1 b2 : Int) : Option (Int × Int × Int × Int) :=
 (vec_May.f a0 a1 a2).bind fun ma => if ma = true then (vec_May.f b0 b1 b2).bind fun mb => if mb = true then (if a0 = b0 then (word_And.f a1 a2 b1 b2).bind fun x => vec_Cut.f 4 a0 x.1 x.2 else some (0, 0, 0, 9)) else some (0, 0, 0, 1) else some (0, 0, 0, 1)
set_option maxHeartbeats 400000 in
set_option maxRecDepth 100000 in
theorem two_a (a0 a1 a2 b0 b1 b2 : Int) (w : World) (hA : vec_May.f a0 a1 a2 = some false) :
 Calls Try.prog 131 #[.agg #[.int .i64 a0, .int .u64 a1, .int .u64 a2], .agg #[.int .i64 b0, .int .u64 b1, .int .u64 b2], .func (.func 127) #[] #[]] w fun e w' => e = .returned (.tuple #[.agg #[.int .i64 0, .int .u64 0, .int .u64 0], .int .i64 1]) ∧ Below w.heap.size w w' := by
 have HA := Aside0.mk hA
 clear hA
 have H0 := Aside0.mk (BX3.start w (.cells #[.int .i64 a0, .int .u64 a1, .int .u64 a2] 32 (0, 0)) (.cells #[.int .i64 b0, .int .u64 b1, .int .u64 b2] 32 (0, 0)) (.cells #[.int .i64 0, .int .u64 0, .int .u64 0] 32 (0, 0)))
 go_enter Try.func131, Try.ntmps131
 go_wp2_with (first | (go_at_call 73; with_reducible refine (vec_May.calls a0 a1 a2 false _ HA.out).mono ?_; rintro e w1 ⟨rfl, hb⟩; have H1 := Aside0.mk (H0.out.step hb); clear hb; (try clear cx0 cx1 cx2 cy0 cy1 cy2 cz0 cz1 cz2 zf); have cx0 := blk_cell H1.out.b0 0; have cx1 := blk_cell H1.out.b0 1; have cx2 := blk_cell H1.out.b0 2; have cy0 := blk_cell H1.out.b1 0; have cy1 := blk_cell H1.out.b1 1; have cy2 := blk_cell H1.out.b1 2; have cz0 := blk_cell H1.out.b2 0; have cz1 := blk_cell H1.out.b2 1; have cz2 := blk_cell H1.out.b2 2; have zf := blk_frozen H1.out.b2; simp only [List.getElem?_toArray, List.getElem?_cons_succ, List.getElem?_cons_zero] at cx0 cx1 cx2 cy0 cy1 cy2 cz0 cz1 cz2))
 refine bodyPost_ret (results_ct rfl _ _ (w.heap.size + 1 + 1) 32 _ (0, 0) _ rfl (blk_set (blk_set (blk_set H1.out.b2 0 _) 1 _) 2 _) Try.underlying32 rfl (by kernel_rfl)) rfl ⟨rfl, ?_⟩
 exact below_set (below_set (below_set H1.out.below (by omega)) (by omega)) (by omega)
set_option maxHeartbeats 400000 in
set_option maxRecDepth 100000 in
theorem two_b (a0 a1 a2 b0 b1 b2 : Int) (w : World) (hA : vec_May.f a0 a1 a2 = some true) (hB : vec_May.f b0 b1 b2 = some false) :
 Calls Try.prog 131 #[.agg #[.int .i64 a0, .int .u64 a1, .int .u64 a2], .agg #[.int .i64 b0, .int .u64 b1, .int .u64 b2], .func (.func 127) #[] #[]] w fun e w' => e = .returned (.tuple #[.agg #[.int .i64 0, .int .u64 0, .int .u64 0], .int .i64 1]) ∧ Below w.heap.size w w' := by
 have HA := Aside0.mk hA
 have HB := Aside0.mk hB
 clear hA hB
 have H0 := Aside0.mk (BX3.start w (.cells #[.int .i64 a0, .int .u64 a1, .int .u64 a2] 32 (0, 0)) (.cells #[.int .i64 b0, .int .u64 b1, .int .u64 b2] 32 (0, 0)) (.cells #[.int .i64 0, .int .u64 0, .int .u64 0] 32 (0, 0)))
 go_enter Try.func131, Try.ntmps131
 go_wp2_with (first | (go_at_call 73; with_reducible refine (vec_May.calls a0 a1 a2 true _ HA.out).mono ?_; rintro e w1 ⟨rfl, hb⟩; have H1 := Aside0.mk (H0.out.step hb); clear hb; (try clear cx0 cx1 cx2 cy0 cy1 cy2 cz0 cz1 cz2 zf); have cx0 := blk_cell H1.out.b0 0; have cx1 := blk_cell H1.out.b0 1; have cx2 := blk_cell H1.out.b0 2; have cy0 := blk_cell H1.out.b1 0; have cy1 := blk_cell H1.out.b1 1; have cy2 := blk_cell H1.out.b1 2; have cz0 := blk_cell H1.out.b2 0; have cz1 := blk_cell H1.out.b2 1; have cz2 := blk_cell H1.out.b2 2; have zf := blk_frozen H1.out.b2; simp only [List.getElem?_toArray, List.getElem?_cons_succ, List.getElem?_cons_zero] at cx0 cx1 cx2 cy0 cy1 cy2 cz0 cz1 cz2) | (go_at_call 73; with_reducible refine (vec_May.calls b0 b1 b2 false _ HB.out).mono ?_; rintro e w2 ⟨rfl, hb⟩; have H2 := Aside0.mk (H1.out.step hb); clear hb; (try clear cx0 cx1 cx2 cy0 cy1 cy2 cz0 cz1 cz2 zf); have cx0 := blk_cell H2.out.b0 0; have cx1 := blk_cell H2.out.b0 1; have cx2 := blk_cell H2.out.b0 2; have cy0 := blk_cell H2.out.b1 0; have cy1 := blk_cell H2.out.b1 1; have cy2 := blk_cell H2.out.b1 2; have cz0 := blk_cell H2.out.b2 0; have cz1 := blk_cell H2.out.b2 1; have cz2 := blk_cell H2.out.b2 2; have zf := blk_frozen H2.out.b2; simp only [List.getElem?_toArray, List.getElem?_cons_succ, List.getElem?_cons_zero] at cx0 cx1 cx2 cy0 cy1 cy2 cz0 cz1 cz2))
 refine bodyPost_ret (results_ct rfl _ _ (w.heap.size + 1 + 1) 32 _ (0, 0) _ rfl (blk_set (blk_set (blk_set H2.out.b2 0 _) 1 _) 2 _) Try.underlying32 rfl (by kernel_rfl)) rfl ⟨rfl, ?_⟩
 exact below_set (below_set (below_set H2.out.below (by omega)) (by omega)) (by omega)
set_option maxHeartbeats 400000 in
set_option maxRecDepth 100000 in
theorem two_w (a0 a1 a2 b0 b1 b2 : Int) (w : World) (hA : vec_May.f a0 a1 a2 = some true) (hB : vec_May.f b0 b1 b2 = some true) (hw : (a0 != b0) = true) :
 Calls Try.prog 131 #[.agg #[.int .i64 a0, .int .u64 a1, .int .u64 a2], .agg #[.int .i64 b0, .int .u64 b1, .int .u64 b2], .func (.func 127) #[] #[]] w fun e w' => e = .returned (.tuple #[.agg #[.int .i64 0, .int .u64 0, .int .u64 0], .int .i64 9]) ∧ Below w.heap.size w w' := by
 have HA := Aside0.mk hA
 have HB := Aside0.mk hB
 clear hA hB
 have H0 := Aside0.mk (BX3.start w (.cells #[.int .i64 a0, .int .u64 a1, .int .u64 a2] 32 (0, 0)) (.cells #[.int .i64 b0, .int .u64 b1, .int .u64 b2] 32 (0, 0)) (.cells #[.int .i64 0, .int .u64 0, .int .u64 0] 32 (0, 0)))
 go_enter Try.func131, Try.ntmps131
 go_wp2_with (first | (go_at_call 73; with_reducible refine (vec_May.calls a0 a1 a2 true _ HA.out).mono ?_; rintro e w1 ⟨rfl, hb⟩; have H1 := Aside0.mk (H0.out.step hb); clear hb; (try clear cx0 cx1 cx2 cy0 cy1 cy2 cz0 cz1 cz2 zf); have cx0 := blk_cell H1.out.b0 0; have cx1 := blk_cell H1.out.b0 1; have cx2 := blk_cell H1.out.b0 2; have cy0 := blk_cell H1.out.b1 0; have cy1 := blk_cell H1.out.b1 1; have cy2 := blk_cell H1.out.b1 2; have cz0 := blk_cell H1.out.b2 0; have cz1 := blk_cell H1.out.b2 1; have cz2 := blk_cell H1.out.b2 2; have zf := blk_frozen H1.out.b2; simp only [List.getElem?_toArray, List.getElem?_cons_succ, List.getElem?_cons_zero] at cx0 cx1 cx2 cy0 cy1 cy2 cz0 cz1 cz2) | (go_at_call 73; with_reducible refine (vec_May.calls b0 b1 b2 true _ HB.out).mono ?_; rintro e w2 ⟨rfl, hb⟩; have H2 := Aside0.mk (H1.out.step hb); clear hb; (try clear cx0 cx1 cx2 cy0 cy1 cy2 cz0 cz1 cz2 zf); have cx0 := blk_cell H2.out.b0 0; have cx1 := blk_cell H2.out.b0 1; have cx2 := blk_cell H2.out.b0 2; have cy0 := blk_cell H2.out.b1 0; have cy1 := blk_cell H2.out.b1 1; have cy2 := blk_cell H2.out.b1 2; have cz0 := blk_cell H2.out.b2 0; have cz1 := blk_cell H2.out.b2 1; have cz2 := blk_cell H2.out.b2 2; have zf := blk_frozen H2.out.b2; simp only [List.getElem?_toArray, List.getElem?_cons_succ, List.getElem?_cons_zero] at cx0 cx1 cx2 cy0 cy1 cy2 cz0 cz1 cz2))
 refine bodyPost_ret (results_ct rfl _ _ (w.heap.size + 1 + 1) 32 _ (0, 0) _ rfl (blk_set (blk_set (blk_set H2.out.b2 0 _) 1 _) 2 _) Try.underlying32 rfl (by kernel_rfl)) rfl ⟨rfl, ?_⟩
 exact below_set (below_set (below_set H2.out.below (by omega)) (by omega)) (by omega)
set_option maxHeartbeats 400000 in
set_option maxRecDepth 100000 in
theorem two_ok (a0 a1 a2 b1 b2 x1 x2 r1 r2 r3 r4 : Int) (w : World) (hA : vec_May.f a0 a1 a2 = some true) (hB : vec_May.f a0 b1 b2 = some true) (hX : word_And.f a1 a2 b1 b2 = some (x1, x2)) (hC : vec_Cut.f 4 a0 x1 x2 = some (r1, r2, r3, r4)) :
 Calls Try.prog 131 #[.agg #[.int .i64 a0, .int .u64 a1, .int .u64 a2], .agg #[.int .i64 a0, .int .u64 b1, .int .u64 b2], .func (.func 127) #[] #[]] w fun e w' => e = .returned (.tuple #[.agg #[.int .i64 r1, .int .u64 r2, .int .u64 r3], .int .i64 r4]) ∧ Below w.heap.size w w' := by
 have HA := Aside0.mk hA
 have HB := Aside0.mk hB
 have HX := Aside0.mk hX
 have HC := Aside0.mk hC
 have hne : (a0 != a0) = false := by simp
 clear hA hB hX hC
 have H0 := Aside0.mk (BX3.start w (.cells #[.int .i64 a0, .int .u64 a1, .int .u64 a2] 32 (0, 0)) (.cells #[.int .i64 a0, .int .u64 b1, .int .u64 b2] 32 (0, 0)) (.cells #[.int .i64 0, .int .u64 0, .int .u64 0] 32 (0, 0)))
 go_enter Try.func131, Try.ntmps131
 go_wp2_with (first | (go_at_call 73; with_reducible refine (vec_May.calls a0 a1 a2 true _ HA.out).mono ?_; rintro e w1 ⟨rfl, hb⟩; have H1 := Aside0.mk (H0.out.step hb); clear hb; (try clear cx0 cx1 cx2 cy0 cy1 cy2 cz0 cz1 cz2 zf); have cx0 := blk_cell H1.out.b0 0; have cx1 := blk_cell H1.out.b0 1; have cx2 := blk_cell H1.out.b0 2; have cy0 := blk_cell H1.out.b1 0; have cy1 := blk_cell H1.out.b1 1; have cy2 := blk_cell H1.out.b1 2; have cz0 := blk_cell H1.out.b2 0; have cz1 := blk_cell H1.out.b2 1; have cz2 := blk_cell H1.out.b2 2; have zf := blk_frozen H1.out.b2; simp only [List.getElem?_toArray, List.getElem?_cons_succ, List.getElem?_cons_zero] at cx0 cx1 cx2 cy0 cy1 cy2 cz0 cz1 cz2) | (go_at_call 73; with_reducible refine (vec_May.calls a0 b1 b2 true _ HB.out).mono ?_; rintro e w2 ⟨rfl, hb⟩; have H2 := Aside0.mk (H1.out.step hb); clear hb; (try clear cx0 cx1 cx2 cy0 cy1 cy2 cz0 cz1 cz2 zf); have cx0 := blk_cell H2.out.b0 0; have cx1 := blk_cell H2.out.b0 1; have cx2 := blk_cell H2.out.b0 2; have cy0 := blk_cell H2.out.b1 0; have cy1 := blk_cell H2.out.b1 1; have cy2 := blk_cell H2.out.b1 2; have cz0 := blk_cell H2.out.b2 0; have cz1 := blk_cell H2.out.b2 1; have cz2 := blk_cell H2.out.b2 2; have zf := blk_frozen H2.out.b2; simp only [List.getElem?_toArray, List.getElem?_cons_succ, List.getElem?_cons_zero] at cx0 cx1 cx2 cy0 cy1 cy2 cz0 cz1 cz2))
 refine start_ (n := 13) (S := fun w' => w'.cell? ⟨w.heap.size, 0, none⟩ = some (.int .i64 a0) ∧ w'.cell? ⟨w.heap.size, 1, none⟩ = some (.int .u64 a1) ∧ w'.cell? ⟨w.heap.size, 2, none⟩ = some (.int .u64 a2) ∧ w'.cell? ⟨w.heap.size + 1, 0, none⟩ = some (.int .i64 a0) ∧ w'.cell? ⟨w.heap.size + 1, 1, none⟩ = some (.int .u64 b1) ∧ w'.cell? ⟨w.heap.size + 1, 2, none⟩ = some (.int .u64 b2)) (ds := [11]) #[false, false, false, false, false, false, false, false, false, false, false, false, false] (by kernel_rfl) rfl rfl ⟨cx0, cx1, cx2, cy0, cy1, cy2⟩ (fun hHeld => ?_)
 refine pl_ [0, 2, 1, 3, 5] ?_
 iterate 2 refine qP rfl rfl ?_
 iterate 3 refine yT hHeld rfl rfl ?_ (by rintro w' ⟨s0, s1, s2, s3, s4, s5⟩; go_simp; with_reducible rfl)
 refine pl0 ?_
 refine one_ (i := 4) (N := some 29) #[true, true, true, true, true, true, false, false, false, false, false, false, false] rfl rfl (by kernel_rfl) (by decide) (fun K hK => ?_)
 refine goes_ Try.func124 (by kernel_rfl) rfl #[.agg #[.int .i64 a0, .int .u64 a1, .int .u64 a2]] (by rfl) rfl rfl (by simp only [List.map_toArray, List.map_cons, List.map_nil]; rfl) ?_
 with_reducible refine (vec_Word.calls a0 a1 a2 a1 a2 _ rfl).mono ?_
 rintro e w3 ⟨rfl, hb⟩
 refine ⟨_, rfl, ?_⟩
 have H3 := Aside0.mk (H2.out.drew.step hb)
 clear hb
 (try clear cx0 cx1 cx2 cy0 cy1 cy2 cz0 cz1 cz2 zf)
 have cx0 := blk_cell H3.out.b0 0
 have cx1 := blk_cell H3.out.b0 1
 have cx2 := blk_cell H3.out.b0 2
 have cy0 := blk_cell H3.out.b1 0
 have cy1 := blk_cell H3.out.b1 1
 have cy2 := blk_cell H3.out.b1 2
 have cz0 := blk_cell H3.out.b2 0
 have cz1 := blk_cell H3.out.b2 1
 have cz2 := blk_cell H3.out.b2 2
 have zf := blk_frozen H3.out.b2
 simp only [List.getElem?_toArray, List.getElem?_cons_succ, List.getElem?_cons_zero] at cx0 cx1 cx2 cy0 cy1 cy2 cz0 cz1 cz2
 refine hK.out _ _ ⟨cx0, cx1, cx2, cy0, cy1, cy2⟩ (fun hHeld => ?_)
 clear hK K
 refine norm_ (a' := ?_) ?_ ?_
 rotate_left
 ·show Act.put _ (some 29) _ = _
  simp only [Act.put, List.setIfInBounds_toArray, List.set_cons_zero, List.set_cons_succ, i64_w, i32_w]
  rfl
 refine one_ (i := 6) (N := some 31) #[true, true, true, true, true, true, true, false, false, false, false, false, false] rfl rfl (by kernel_rfl) (by decide) (fun K hK => ?_)
 refine goes_ Try.func124 (by kernel_rfl) rfl #[.agg #[.int .i64 a0, .int .u64 b1, .int .u64 b2]] (by rfl) rfl rfl (by simp only [List.map_toArray, List.map_cons, List.map_nil]; rfl) ?_
 with_reducible refine (vec_Word.calls a0 b1 b2 b1 b2 _ rfl).mono ?_
 rintro e w4 ⟨rfl, hb⟩
 refine ⟨_, rfl, ?_⟩
 have H4 := Aside0.mk (H3.out.step hb)
 clear hb
 (try clear cx0 cx1 cx2 cy0 cy1 cy2 cz0 cz1 cz2 zf)
 have cx0 := blk_cell H4.out.b0 0
 have cx1 := blk_cell H4.out.b0 1
 have cx2 := blk_cell H4.out.b0 2
 have cy0 := blk_cell H4.out.b1 0
 have cy1 := blk_cell H4.out.b1 1
 have cy2 := blk_cell H4.out.b1 2
 have cz0 := blk_cell H4.out.b2 0
 have cz1 := blk_cell H4.out.b2 1
 have cz2 := blk_cell H4.out.b2 2
 have zf := blk_frozen H4.out.b2
 simp only [List.getElem?_toArray, List.getElem?_cons_succ, List.getElem?_cons_zero] at cx0 cx1 cx2 cy0 cy1 cy2 cz0 cz1 cz2
 refine hK.out _ _ ⟨cx0, cx1, cx2, cy0, cy1, cy2⟩ (fun hHeld => ?_)
 clear hK K
 refine norm_ (a' := ?_) ?_ ?_
 rotate_left
 ·show Act.put _ (some 31) _ = _
  simp only [Act.put, List.setIfInBounds_toArray, List.set_cons_zero, List.set_cons_succ, i64_w, i32_w]
  rfl
 refine one_ (i := 7) (N := some 32) #[true, true, true, true, true, true, true, true, false, false, false, false, false] rfl rfl (by kernel_rfl) (by decide) (fun K hK => ?_)
 refine goesV_ Try.func127 (by kernel_rfl) rfl #[.agg #[.int .u64 a1, .int .u64 a2], .agg #[.int .u64 b1, .int .u64 b2]] (by rfl) rfl rfl (by rfl) (by simp only [List.map_toArray, List.map_cons, List.map_nil]; rfl) ?_
 with_reducible refine (word_And.calls a1 a2 b1 b2 x1 x2 _ HX.out).mono ?_
 rintro e w5 ⟨rfl, hb⟩
 refine ⟨_, rfl, ?_⟩
 have H5 := Aside0.mk (H4.out.step hb)
 clear hb
 (try clear cx0 cx1 cx2 cy0 cy1 cy2 cz0 cz1 cz2 zf)
 have cx0 := blk_cell H5.out.b0 0
 have cx1 := blk_cell H5.out.b0 1
 have cx2 := blk_cell H5.out.b0 2
 have cy0 := blk_cell H5.out.b1 0
 have cy1 := blk_cell H5.out.b1 1
 have cy2 := blk_cell H5.out.b1 2
 have cz0 := blk_cell H5.out.b2 0
 have cz1 := blk_cell H5.out.b2 1
 have cz2 := blk_cell H5.out.b2 2
 have zf := blk_frozen H5.out.b2
 simp only [List.getElem?_toArray, List.getElem?_cons_succ, List.getElem?_cons_zero] at cx0 cx1 cx2 cy0 cy1 cy2 cz0 cz1 cz2
 refine hK.out _ _ ⟨cx0, cx1, cx2, cy0, cy1, cy2⟩ (fun hHeld => ?_)
 clear hK K
 refine norm_ (a' := ?_) ?_ ?_
 rotate_left
 ·show Act.put _ (some 32) _ = _
  simp only [Act.put, List.setIfInBounds_toArray, List.set_cons_zero, List.set_cons_succ, i64_w, i32_w]
  rfl
 refine one_ (i := 8) (N := some 33) #[true, true, true, true, true, true, true, true, true, false, false, false, false] rfl rfl (by kernel_rfl) (by decide) (fun K hK => ?_)
 refine goes_ Try.func76 (by kernel_rfl) rfl #[.int .i64 a0, .agg #[.int .u64 x1, .int .u64 x2]] (by rfl) rfl rfl (by simp only [List.map_toArray, List.map_cons, List.map_nil]; rfl) ?_
 with_reducible refine (vec_Cut.calls 4 a0 x1 x2 r1 r2 r3 r4 _ HC.out).mono ?_
 rintro e w6 ⟨rfl, hb⟩
 refine ⟨_, rfl, ?_⟩
 have H6 := Aside0.mk (H5.out.step hb)
 clear hb
 (try clear cx0 cx1 cx2 cy0 cy1 cy2 cz0 cz1 cz2 zf)
 have cx0 := blk_cell H6.out.b0 0
 have cx1 := blk_cell H6.out.b0 1
 have cx2 := blk_cell H6.out.b0 2
 have cy0 := blk_cell H6.out.b1 0
 have cy1 := blk_cell H6.out.b1 1
 have cy2 := blk_cell H6.out.b1 2
 have cz0 := blk_cell H6.out.b2 0
 have cz1 := blk_cell H6.out.b2 1
 have cz2 := blk_cell H6.out.b2 2
 have zf := blk_frozen H6.out.b2
 simp only [List.getElem?_toArray, List.getElem?_cons_succ, List.getElem?_cons_zero] at cx0 cx1 cx2 cy0 cy1 cy2 cz0 cz1 cz2
 refine hK.out _ _ ⟨cx0, cx1, cx2, cy0, cy1, cy2⟩ (fun hHeld => ?_)
 clear hK K
 refine norm_ (a' := ?_) ?_ ?_
 rotate_left
 ·show Act.put _ (some 33) _ = _
  simp only [Act.put, List.setIfInBounds_toArray, List.set_cons_zero, List.set_cons_succ, i64_w, i32_w]
  rfl
 refine pl_ [9, 10] ?_
 iterate 2 refine qP rfl rfl ?_
 refine pl0 ?_
 refine last_ (i := 11) (N := none) #[true, true, true, true, true, true, true, true, true, true, true, true, false] rfl rfl (by kernel_rfl) (by decide) (fun K hK => ?_)
 refine skip_ (w1 := ?_) (by rfl) rfl ?_ ?_
 rotate_left
 ·go_simp
  rfl
 refine hK.out _ _ ?_
 clear hK K
 refine pl_ [12] ?_
 refine qP rfl rfl ?_
 refine pl0 ?_
 refine done_ (by kernel_rfl) ?_
 go_wp2
 refine bodyPost_ret (results_ct rfl _ _ (w.heap.size + 1 + 1) 32 _ (0, 0) _ rfl (blk_set (blk_set (blk_set H6.out.b2 0 _) 1 _) 2 _) Try.underlying32 rfl (by kernel_rfl)) rfl ⟨rfl, ?_⟩
 exact below_set (below_set (below_set H6.out.below (by omega)) (by omega)) (by omega)
set_option maxHeartbeats 400000 in
set_option maxRecDepth 100000 in
theorem vec_two_and (a0 a1 a2 b0 b1 b2 r1 r2 r3 r4 : Int) (W : World) (h : vec_And.f a0 a1 a2 b0 b1 b2 = some (r1, r2, r3, r4)) :
 Calls Try.prog 131 #[.agg #[.int .i64 a0, .int .u64 a1, .int .u64 a2], .agg #[.int .i64 b0, .int .u64 b1, .int .u64 b2], .func (.func 127) #[] #[]] W fun e w' => e = .returned (.tuple #[.agg #[.int .i64 r1, .int .u64 r2, .int .u64 r3], .int .i64 r4]) ∧ Below W.heap.size W w' := by
 unfold vec_And.f at h
 obtain ⟨ma, hA, h⟩ := Option.bind_eq_some_iff.mp h
 cases ma with
 | false =>
  rw [if_neg (by simp)] at h
  simp only [Option.some.injEq, Prod.mk.injEq] at h
  obtain ⟨rfl, rfl, rfl, rfl⟩ := h
  exact two_a a0 a1 a2 b0 b1 b2 W hA
 | true =>
  rw [if_pos rfl] at h
  obtain ⟨mb, hB, h⟩ := Option.bind_eq_some_iff.mp h
  cases mb with
  | false =>
   rw [if_neg (by simp)] at h
   simp only [Option.some.injEq, Prod.mk.injEq] at h
   obtain ⟨rfl, rfl, rfl, rfl⟩ := h
   exact two_b a0 a1 a2 b0 b1 b2 W hA hB
  | true =>
   rw [if_pos rfl] at h
   by_cases hw : a0 = b0
   ·subst hw
    rw [if_pos rfl] at h
    obtain ⟨⟨x1, x2⟩, hX, hC⟩ := Option.bind_eq_some_iff.mp h
    exact two_ok a0 a1 a2 b1 b2 x1 x2 r1 r2 r3 r4 W hA hB hX hC
   ·rw [if_neg hw] at h
    simp only [Option.some.injEq, Prod.mk.injEq] at h
    obtain ⟨rfl, rfl, rfl, rfl⟩ := h
    exact two_w a0 a1 a2 b0 b1 b2 W hA hB (by simpa using hw)
set_option maxHeartbeats 400000 in
set_option maxRecDepth 100000 in
theorem vec_And.calls (a0 a1 a2 b0 b1 b2 r1 r2 r3 r4 : Int) (w : World) (h : vec_And.f a0 a1 a2 b0 b1 b2 = some (r1, r2, r3, r4)) :
 Calls Try.prog 87 #[.agg #[.int .i64 a0, .int .u64 a1, .int .u64 a2], .agg #[.int .i64 b0, .int .u64 b1, .int .u64 b2]] w fun e w' => e = .returned (.tuple #[.agg #[.int .i64 r1, .int .u64 r2, .int .u64 r3], .int .i64 r4]) ∧ Below w.heap.size w w' := by
 have HT := Aside0.mk (fun W : World => vec_two_and a0 a1 a2 b0 b1 b2 r1 r2 r3 r4 W h)
 clear h
 have H0 := Aside0.mk (BX3.start w (.cells #[.int .i64 a0, .int .u64 a1, .int .u64 a2] 32 (0, 0)) (.cells #[.int .i64 b0, .int .u64 b1, .int .u64 b2] 32 (0, 0)) (.cells #[.int .i64 0, .int .u64 0, .int .u64 0] 32 (0, 0)))
 go_enter Try.func87, Try.ntmps87
 go_wp2_with (go_at_call 131; refine (HT.out _).mono ?_; rintro e w1 ⟨rfl, hb⟩; have H1 := Aside0.mk (H0.out.step hb); clear hb; have cx0 := blk_cell H1.out.b0 0; have cx1 := blk_cell H1.out.b0 1; have cx2 := blk_cell H1.out.b0 2; have cy0 := blk_cell H1.out.b1 0; have cy1 := blk_cell H1.out.b1 1; have cy2 := blk_cell H1.out.b1 2; have cz0 := blk_cell H1.out.b2 0; have cz1 := blk_cell H1.out.b2 1; have cz2 := blk_cell H1.out.b2 2; have zf := blk_frozen H1.out.b2; simp only [List.getElem?_toArray, List.getElem?_cons_succ, List.getElem?_cons_zero] at cx0 cx1 cx2 cy0 cy1 cy2 cz0 cz1 cz2)
 refine bodyPost_ret (results_ct rfl _ _ (w.heap.size + 1 + 1) 32 _ (0, 0) _ rfl (blk_set (blk_set (blk_set H1.out.b2 0 _) 1 _) 2 _) Try.underlying32 rfl (by kernel_rfl)) rfl ⟨rfl, ?_⟩
 exact below_set (below_set (below_set H1.out.below (by omega)) (by omega)) (by omega)
def word_Cmp.f (a0_0 : Int) (a0_1 : Int) (a1_0 : Int) (a1_1 : Int) : Option (Int) := (word_Sub.f a0_0 a0_1 a1_0 a1_1).bind fun bt155 => (if (a0_0 == a1_0 && (a0_1 == a1_1)) = true then (some 0) else (if bt155.2.2 = true then (some (-1)) else (some 1)))
set_option maxHeartbeats 8000000 in
set_option maxRecDepth 100000 in
theorem word_Cmp.calls (a0_0 : Int) (a0_1 : Int) (a1_0 : Int) (a1_1 : Int) (r : Int) (w : World) (h : word_Cmp.f a0_0 a0_1 a1_0 a1_1 = some r) :
 Calls Try.prog 157 #[.agg #[.int .u64 a0_0, .int .u64 a0_1], .agg #[.int .u64 a1_0, .int .u64 a1_1]] w fun e w' => e = .returned (.int .i64 r) ∧ Below w.heap.size w w' := by
 have hu130 := Try.underlying130
 have HB := Aside0.mk (Below.refl w.heap.size w)
 have H : ((word_Sub.f a0_0 a0_1 a1_0 a1_1).bind fun bt155 => (if (a0_0 == a1_0 && (a0_1 == a1_1)) = true then (some 0) else (if bt155.2.2 = true then (some (-1)) else (some 1)))) = some r := h
 clear h
 replace H := Option.bind_eq_some_iff.mp H
 obtain ⟨⟨t155, t156, t157⟩, A30, H⟩ := H
 replace H : (if (a0_0 == a1_0 && (a0_1 == a1_1)) = true then (some 0) else (if t157 = true then (some (-1)) else (some 1))) = some r := H
 have A3 := Aside0.mk A30
 clear A30
 by_cases c4 : (a0_0 == a1_0 && (a0_1 == a1_1)) = true
 ·rw [if_pos c4] at H
  have c4b0 : (a0_0 == a1_0 && (a0_1 == a1_1)) = true := c4
  (try (have c4b1 : decide (a0_0 = a1_0 && (a0_1 == a1_1)) = true := by simpa using c4))
  (try (have c4b2 : (a0_0 == a1_0 && (a0_1 == a1_1)) = true := by simpa using c4))
  clear c4
  obtain rfl := Option.some.inj H
  go_enter Try.func157, Try.ntmps157
  go_wp2_with (first | ((with_reducible refine gate_dst (N := 2) rfl ?_); refine box_event ?hg (N := 2) ?hd (cs := #[.int .u64 a0_0, .int .u64 a0_1]) (t := 130) ?hr ?_; (case hd => rfl); (case hg => rfl); (case hr => first | (go_simp; done) | (go_simp; rfl)); intro gb153 hg w5 hbox hb; have BK153 := Aside0.mk (hbox); have GW153 := Aside0.mk ((by rw [hg]; exact (below_size (by repeat (first | (with_reducible first | exact HB.out | apply below_alloc | apply pw_below_drewN | apply below_drew1) | exact HB.out))) : w.heap.size ≤ gb153)); have GE153 := GW153; replace HB := Aside0.mk (below_step (by repeat (first | (with_reducible first | exact HB.out | apply below_alloc | apply pw_below_drewN | apply below_drew1) | exact HB.out)) hb); clear hb hbox hg) | ((with_reducible refine gate_dst (N := 3) rfl ?_); refine box_event ?hg (N := 3) ?hd (cs := #[.int .u64 a1_0, .int .u64 a1_1]) (t := 130) ?hr ?_; (case hd => rfl); (case hg => rfl); (case hr => first | (go_simp; done) | (go_simp; rfl)); intro gb154 hg w6 hbox hb; have BK154 := Aside0.mk (hbox); have GW154 := Aside0.mk ((by rw [hg]; exact (below_size (by repeat (first | (with_reducible first | exact HB.out | apply below_alloc | apply pw_below_drewN | apply below_drew1 | refine below_set ?_ GE153.out) | exact HB.out))) : w.heap.size ≤ gb154)); have GE154 := GW154; have NB153_154 := Aside0.mk ((by rw [hg]; exact Nat.ne_of_lt (blk_lt (g := gb153) (o := .cells #[.int .u64 a0_0, .int .u64 a0_1] 130 (0, 0)) (by (with_reducible repeat (first | refine blk_drewN ?_ _ | refine blk_drew ?_ | refine blk_alloc ?_ _)); exact BK153.out)) : gb153 ≠ gb154)); have NB154_153 := Aside0.mk NB153_154.out.symm; replace BK153 := bk1 (by (with_reducible repeat (first | refine blk_drewN ?_ _ | refine blk_drew ?_ | refine blk_alloc ?_ _)); exact BK153.out) hb; replace HB := Aside0.mk (below_step (by repeat (first | (with_reducible first | exact HB.out | apply below_alloc | apply pw_below_drewN | apply below_drew1 | refine below_set ?_ GE153.out) | exact HB.out)) hb); clear hb hbox hg; have hnb7 := NB153_154.out; have hnc7 := NB154_153.out; obtain ⟨hcz8_0, hcz8_1, hfz8_0, hfz8_1⟩ := cl2 BK153.out; obtain ⟨hcz9_0, hcz9_1, hfz9_0, hfz9_1⟩ := cl2 BK154.out) | ((with_reducible refine gate_callee (f := 147) rfl ?_); refine goesL_ (some 10) rfl rfl Try.func147 (by kernel_rfl) rfl #[.agg #[.int .u64 a0_0, .int .u64 a0_1], .agg #[.int .u64 a1_0, .int .u64 a1_1]] rfl (by (try simp only [List.map_toArray, List.map_cons, List.map_nil]); first | done | rfl | (simp only [List.length_drop, List.length_take]; rfl)) ?_; (with_reducible refine (word_Sub.calls a0_0 a0_1 a1_0 a1_1 t155 t156 t157 _ A3.out).mono ?_); rintro e w10 ⟨rfl, hb⟩; refine ⟨_, rfl, ?_⟩; replace BK153 := bk1 (by (with_reducible repeat (first | refine blk_drewN ?_ _ | refine blk_drew ?_ | refine blk_alloc ?_ _)); exact BK153.out) hb; replace BK154 := bk1 (by (with_reducible repeat (first | refine blk_drewN ?_ _ | refine blk_drew ?_ | refine blk_alloc ?_ _)); exact BK154.out) hb; replace HB := Aside0.mk (below_step (by repeat (first | (with_reducible first | exact HB.out | apply below_alloc | apply pw_below_drewN | apply below_drew1 | refine below_set ?_ GE153.out | refine below_set ?_ GE154.out) | exact HB.out)) hb); (try clear hb); (try clear hb2); (try clear hk); (try clear hi)) | ((with_reducible refine gate_dst (N := 5) rfl ?_); refine box_event ?hg (N := 5) ?hd (cs := #[.int .u64 0, .int .u64 0]) (t := 130) ?hr ?_; (case hd => rfl); (case hg => rfl); (case hr => first | (go_simp; done) | (go_simp; rfl)); intro gb158 hg w11 hbox hb; have BK158 := Aside0.mk (hbox); have GW158 := Aside0.mk ((by rw [hg]; exact (below_size (by repeat (first | (with_reducible first | exact HB.out | apply below_alloc | apply pw_below_drewN | apply below_drew1 | refine below_set ?_ GE153.out | refine below_set ?_ GE154.out) | exact HB.out))) : w.heap.size ≤ gb158)); have GE158 := GW158; have NB153_158 := Aside0.mk ((by rw [hg]; exact Nat.ne_of_lt (blk_lt (g := gb153) (o := .cells #[.int .u64 a0_0, .int .u64 a0_1] 130 (0, 0)) (by (with_reducible repeat (first | refine blk_drewN ?_ _ | refine blk_drew ?_ | refine blk_alloc ?_ _)); exact BK153.out)) : gb153 ≠ gb158)); have NB158_153 := Aside0.mk NB153_158.out.symm; have NB154_158 := Aside0.mk ((by rw [hg]; exact Nat.ne_of_lt (blk_lt (g := gb154) (o := .cells #[.int .u64 a1_0, .int .u64 a1_1] 130 (0, 0)) (by (with_reducible repeat (first | refine blk_drewN ?_ _ | refine blk_drew ?_ | refine blk_alloc ?_ _)); exact BK154.out)) : gb154 ≠ gb158)); have NB158_154 := Aside0.mk NB154_158.out.symm; replace BK153 := bk1 (by (with_reducible repeat (first | refine blk_drewN ?_ _ | refine blk_drew ?_ | refine blk_alloc ?_ _)); exact BK153.out) hb; replace BK154 := bk1 (by (with_reducible repeat (first | refine blk_drewN ?_ _ | refine blk_drew ?_ | refine blk_alloc ?_ _)); exact BK154.out) hb; replace HB := Aside0.mk (below_step (by repeat (first | (with_reducible first | exact HB.out | apply below_alloc | apply pw_below_drewN | apply below_drew1 | refine below_set ?_ GE153.out | refine below_set ?_ GE154.out) | exact HB.out)) hb); clear hb hbox hg; have hnb12 := NB158_153.out; have hnc12 := NB153_158.out; have hnb13 := NB158_154.out; have hnc13 := NB154_158.out; obtain ⟨hcz14_0, hcz14_1, hfz14_0, hfz14_1⟩ := cl2 BK158.out; obtain ⟨hcz15_0, hcz15_1, hfz15_0, hfz15_1⟩ := cl2 BK153.out; obtain ⟨hcz16_0, hcz16_1, hfz16_0, hfz16_1⟩ := cl2 BK154.out))
  go_ret
  exact ⟨by first | rfl | (simp [errW_none, errW_some] <;> rfl) | (simp [*, errW_none, errW_some] <;> rfl), by repeat (first | (with_reducible first | exact HB.out | apply below_alloc | apply pw_below_drewN | apply below_drew1 | refine below_set ?_ GE153.out | refine below_set ?_ GE154.out | refine below_set ?_ GE158.out) | exact HB.out)⟩
 ·rw [if_neg c4] at H
  have c4b0 : (a0_0 == a1_0 && (a0_1 == a1_1)) = false := by simpa using c4
  (try (have c4b1 : decide (a0_0 = a1_0 && (a0_1 == a1_1)) = false := by simpa using c4))
  (try (have c4b2 : (a0_0 == a1_0 && (a0_1 == a1_1)) = false := by simpa using c4))
  (try (have c4b3 : ¬ (a0_0 = a1_0 && (a0_1 == a1_1)) := by simpa using c4))
  clear c4
  by_cases c17 : t157 = true
  ·subst c17
   have H1 : (some (-1)) = some r := by rw [if_pos rfl] at H; exact H
   clear H
   have H := H1
   clear H1
   obtain rfl := Option.some.inj H
   go_enter Try.func157, Try.ntmps157
   go_wp2_with (first | ((with_reducible refine gate_dst (N := 2) rfl ?_); refine box_event ?hg (N := 2) ?hd (cs := #[.int .u64 a0_0, .int .u64 a0_1]) (t := 130) ?hr ?_; (case hd => rfl); (case hg => rfl); (case hr => first | (go_simp; done) | (go_simp; rfl)); intro gb153 hg w18 hbox hb; have BK153 := Aside0.mk (hbox); have GW153 := Aside0.mk ((by rw [hg]; exact (below_size (by repeat (first | (with_reducible first | exact HB.out | apply below_alloc | apply pw_below_drewN | apply below_drew1) | exact HB.out))) : w.heap.size ≤ gb153)); have GE153 := GW153; replace HB := Aside0.mk (below_step (by repeat (first | (with_reducible first | exact HB.out | apply below_alloc | apply pw_below_drewN | apply below_drew1) | exact HB.out)) hb); clear hb hbox hg) | ((with_reducible refine gate_dst (N := 3) rfl ?_); refine box_event ?hg (N := 3) ?hd (cs := #[.int .u64 a1_0, .int .u64 a1_1]) (t := 130) ?hr ?_; (case hd => rfl); (case hg => rfl); (case hr => first | (go_simp; done) | (go_simp; rfl)); intro gb154 hg w19 hbox hb; have BK154 := Aside0.mk (hbox); have GW154 := Aside0.mk ((by rw [hg]; exact (below_size (by repeat (first | (with_reducible first | exact HB.out | apply below_alloc | apply pw_below_drewN | apply below_drew1 | refine below_set ?_ GE153.out) | exact HB.out))) : w.heap.size ≤ gb154)); have GE154 := GW154; have NB153_154 := Aside0.mk ((by rw [hg]; exact Nat.ne_of_lt (blk_lt (g := gb153) (o := .cells #[.int .u64 a0_0, .int .u64 a0_1] 130 (0, 0)) (by (with_reducible repeat (first | refine blk_drewN ?_ _ | refine blk_drew ?_ | refine blk_alloc ?_ _)); exact BK153.out)) : gb153 ≠ gb154)); have NB154_153 := Aside0.mk NB153_154.out.symm; replace BK153 := bk1 (by (with_reducible repeat (first | refine blk_drewN ?_ _ | refine blk_drew ?_ | refine blk_alloc ?_ _)); exact BK153.out) hb; replace HB := Aside0.mk (below_step (by repeat (first | (with_reducible first | exact HB.out | apply below_alloc | apply pw_below_drewN | apply below_drew1 | refine below_set ?_ GE153.out) | exact HB.out)) hb); clear hb hbox hg; have hnb20 := NB153_154.out; have hnc20 := NB154_153.out; obtain ⟨hcz21_0, hcz21_1, hfz21_0, hfz21_1⟩ := cl2 BK153.out; obtain ⟨hcz22_0, hcz22_1, hfz22_0, hfz22_1⟩ := cl2 BK154.out) | ((with_reducible refine gate_callee (f := 147) rfl ?_); refine goesL_ (some 10) rfl rfl Try.func147 (by kernel_rfl) rfl #[.agg #[.int .u64 a0_0, .int .u64 a0_1], .agg #[.int .u64 a1_0, .int .u64 a1_1]] rfl (by (try simp only [List.map_toArray, List.map_cons, List.map_nil]); first | done | rfl | (simp only [List.length_drop, List.length_take]; rfl)) ?_; (with_reducible refine (word_Sub.calls a0_0 a0_1 a1_0 a1_1 t155 t156 true _ A3.out).mono ?_); rintro e w23 ⟨rfl, hb⟩; refine ⟨_, rfl, ?_⟩; replace BK153 := bk1 (by (with_reducible repeat (first | refine blk_drewN ?_ _ | refine blk_drew ?_ | refine blk_alloc ?_ _)); exact BK153.out) hb; replace BK154 := bk1 (by (with_reducible repeat (first | refine blk_drewN ?_ _ | refine blk_drew ?_ | refine blk_alloc ?_ _)); exact BK154.out) hb; replace HB := Aside0.mk (below_step (by repeat (first | (with_reducible first | exact HB.out | apply below_alloc | apply pw_below_drewN | apply below_drew1 | refine below_set ?_ GE153.out | refine below_set ?_ GE154.out) | exact HB.out)) hb); (try clear hb); (try clear hb2); (try clear hk); (try clear hi)) | ((with_reducible refine gate_dst (N := 5) rfl ?_); refine box_event ?hg (N := 5) ?hd (cs := #[.int .u64 0, .int .u64 0]) (t := 130) ?hr ?_; (case hd => rfl); (case hg => rfl); (case hr => first | (go_simp; done) | (go_simp; rfl)); intro gb158 hg w24 hbox hb; have BK158 := Aside0.mk (hbox); have GW158 := Aside0.mk ((by rw [hg]; exact (below_size (by repeat (first | (with_reducible first | exact HB.out | apply below_alloc | apply pw_below_drewN | apply below_drew1 | refine below_set ?_ GE153.out | refine below_set ?_ GE154.out) | exact HB.out))) : w.heap.size ≤ gb158)); have GE158 := GW158; have NB153_158 := Aside0.mk ((by rw [hg]; exact Nat.ne_of_lt (blk_lt (g := gb153) (o := .cells #[.int .u64 a0_0, .int .u64 a0_1] 130 (0, 0)) (by (with_reducible repeat (first | refine blk_drewN ?_ _ | refine blk_drew ?_ | refine blk_alloc ?_ _)); exact BK153.out)) : gb153 ≠ gb158)); have NB158_153 := Aside0.mk NB153_158.out.symm; have NB154_158 := Aside0.mk ((by rw [hg]; exact Nat.ne_of_lt (blk_lt (g := gb154) (o := .cells #[.int .u64 a1_0, .int .u64 a1_1] 130 (0, 0)) (by (with_reducible repeat (first | refine blk_drewN ?_ _ | refine blk_drew ?_ | refine blk_alloc ?_ _)); exact BK154.out)) : gb154 ≠ gb158)); have NB158_154 := Aside0.mk NB154_158.out.symm; replace BK153 := bk1 (by (with_reducible repeat (first | refine blk_drewN ?_ _ | refine blk_drew ?_ | refine blk_alloc ?_ _)); exact BK153.out) hb; replace BK154 := bk1 (by (with_reducible repeat (first | refine blk_drewN ?_ _ | refine blk_drew ?_ | refine blk_alloc ?_ _)); exact BK154.out) hb; replace HB := Aside0.mk (below_step (by repeat (first | (with_reducible first | exact HB.out | apply below_alloc | apply pw_below_drewN | apply below_drew1 | refine below_set ?_ GE153.out | refine below_set ?_ GE154.out) | exact HB.out)) hb); clear hb hbox hg; have hnb25 := NB158_153.out; have hnc25 := NB153_158.out; have hnb26 := NB158_154.out; have hnc26 := NB154_158.out; obtain ⟨hcz27_0, hcz27_1, hfz27_0, hfz27_1⟩ := cl2 BK158.out; obtain ⟨hcz28_0, hcz28_1, hfz28_0, hfz28_1⟩ := cl2 BK153.out; obtain ⟨hcz29_0, hcz29_1, hfz29_0, hfz29_1⟩ := cl2 BK154.out))
   go_ret
   exact ⟨by first | rfl | (simp [errW_none, errW_some] <;> rfl) | (simp [*, errW_none, errW_some] <;> rfl), by repeat (first | (with_reducible first | exact HB.out | apply below_alloc | apply pw_below_drewN | apply below_drew1 | refine below_set ?_ GE153.out | refine below_set ?_ GE154.out | refine below_set ?_ GE158.out) | exact HB.out)⟩
  ·replace c17 := Bool.eq_false_iff.mpr c17
   subst c17
   have H1 : (some 1) = some r := by rw [if_neg (show ¬ (false = true) by decide)] at H; exact H
   clear H
   have H := H1
   clear H1
   obtain rfl := Option.some.inj H
   go_enter Try.func157, Try.ntmps157
   go_wp2_with (first | ((with_reducible refine gate_dst (N := 2) rfl ?_); refine box_event ?hg (N := 2) ?hd (cs := #[.int .u64 a0_0, .int .u64 a0_1]) (t := 130) ?hr ?_; (case hd => rfl); (case hg => rfl); (case hr => first | (go_simp; done) | (go_simp; rfl)); intro gb153 hg w30 hbox hb; have BK153 := Aside0.mk (hbox); have GW153 := Aside0.mk ((by rw [hg]; exact (below_size (by repeat (first | (with_reducible first | exact HB.out | apply below_alloc | apply pw_below_drewN | apply below_drew1) | exact HB.out))) : w.heap.size ≤ gb153)); have GE153 := GW153; replace HB := Aside0.mk (below_step (by repeat (first | (with_reducible first | exact HB.out | apply below_alloc | apply pw_below_drewN | apply below_drew1) | exact HB.out)) hb); clear hb hbox hg) | ((with_reducible refine gate_dst (N := 3) rfl ?_); refine box_event ?hg (N := 3) ?hd (cs := #[.int .u64 a1_0, .int .u64 a1_1]) (t := 130) ?hr ?_; (case hd => rfl); (case hg => rfl); (case hr => first | (go_simp; done) | (go_simp; rfl)); intro gb154 hg w31 hbox hb; have BK154 := Aside0.mk (hbox); have GW154 := Aside0.mk ((by rw [hg]; exact (below_size (by repeat (first | (with_reducible first | exact HB.out | apply below_alloc | apply pw_below_drewN | apply below_drew1 | refine below_set ?_ GE153.out) | exact HB.out))) : w.heap.size ≤ gb154)); have GE154 := GW154; have NB153_154 := Aside0.mk ((by rw [hg]; exact Nat.ne_of_lt (blk_lt (g := gb153) (o := .cells #[.int .u64 a0_0, .int .u64 a0_1] 130 (0, 0)) (by (with_reducible repeat (first | refine blk_drewN ?_ _ | refine blk_drew ?_ | refine blk_alloc ?_ _)); exact BK153.out)) : gb153 ≠ gb154)); have NB154_153 := Aside0.mk NB153_154.out.symm; replace BK153 := bk1 (by (with_reducible repeat (first | refine blk_drewN ?_ _ | refine blk_drew ?_ | refine blk_alloc ?_ _)); exact BK153.out) hb; replace HB := Aside0.mk (below_step (by repeat (first | (with_reducible first | exact HB.out | apply below_alloc | apply pw_below_drewN | apply below_drew1 | refine below_set ?_ GE153.out) | exact HB.out)) hb); clear hb hbox hg; have hnb32 := NB153_154.out; have hnc32 := NB154_153.out; obtain ⟨hcz33_0, hcz33_1, hfz33_0, hfz33_1⟩ := cl2 BK153.out; obtain ⟨hcz34_0, hcz34_1, hfz34_0, hfz34_1⟩ := cl2 BK154.out) | ((with_reducible refine gate_callee (f := 147) rfl ?_); refine goesL_ (some 10) rfl rfl Try.func147 (by kernel_rfl) rfl #[.agg #[.int .u64 a0_0, .int .u64 a0_1], .agg #[.int .u64 a1_0, .int .u64 a1_1]] rfl (by (try simp only [List.map_toArray, List.map_cons, List.map_nil]); first | done | rfl | (simp only [List.length_drop, List.length_take]; rfl)) ?_; (with_reducible refine (word_Sub.calls a0_0 a0_1 a1_0 a1_1 t155 t156 false _ A3.out).mono ?_); rintro e w35 ⟨rfl, hb⟩; refine ⟨_, rfl, ?_⟩; replace BK153 := bk1 (by (with_reducible repeat (first | refine blk_drewN ?_ _ | refine blk_drew ?_ | refine blk_alloc ?_ _)); exact BK153.out) hb; replace BK154 := bk1 (by (with_reducible repeat (first | refine blk_drewN ?_ _ | refine blk_drew ?_ | refine blk_alloc ?_ _)); exact BK154.out) hb; replace HB := Aside0.mk (below_step (by repeat (first | (with_reducible first | exact HB.out | apply below_alloc | apply pw_below_drewN | apply below_drew1 | refine below_set ?_ GE153.out | refine below_set ?_ GE154.out) | exact HB.out)) hb); (try clear hb); (try clear hb2); (try clear hk); (try clear hi)) | ((with_reducible refine gate_dst (N := 5) rfl ?_); refine box_event ?hg (N := 5) ?hd (cs := #[.int .u64 0, .int .u64 0]) (t := 130) ?hr ?_; (case hd => rfl); (case hg => rfl); (case hr => first | (go_simp; done) | (go_simp; rfl)); intro gb158 hg w36 hbox hb; have BK158 := Aside0.mk (hbox); have GW158 := Aside0.mk ((by rw [hg]; exact (below_size (by repeat (first | (with_reducible first | exact HB.out | apply below_alloc | apply pw_below_drewN | apply below_drew1 | refine below_set ?_ GE153.out | refine below_set ?_ GE154.out) | exact HB.out))) : w.heap.size ≤ gb158)); have GE158 := GW158; have NB153_158 := Aside0.mk ((by rw [hg]; exact Nat.ne_of_lt (blk_lt (g := gb153) (o := .cells #[.int .u64 a0_0, .int .u64 a0_1] 130 (0, 0)) (by (with_reducible repeat (first | refine blk_drewN ?_ _ | refine blk_drew ?_ | refine blk_alloc ?_ _)); exact BK153.out)) : gb153 ≠ gb158)); have NB158_153 := Aside0.mk NB153_158.out.symm; have NB154_158 := Aside0.mk ((by rw [hg]; exact Nat.ne_of_lt (blk_lt (g := gb154) (o := .cells #[.int .u64 a1_0, .int .u64 a1_1] 130 (0, 0)) (by (with_reducible repeat (first | refine blk_drewN ?_ _ | refine blk_drew ?_ | refine blk_alloc ?_ _)); exact BK154.out)) : gb154 ≠ gb158)); have NB158_154 := Aside0.mk NB154_158.out.symm; replace BK153 := bk1 (by (with_reducible repeat (first | refine blk_drewN ?_ _ | refine blk_drew ?_ | refine blk_alloc ?_ _)); exact BK153.out) hb; replace BK154 := bk1 (by (with_reducible repeat (first | refine blk_drewN ?_ _ | refine blk_drew ?_ | refine blk_alloc ?_ _)); exact BK154.out) hb; replace HB := Aside0.mk (below_step (by repeat (first | (with_reducible first | exact HB.out | apply below_alloc | apply pw_below_drewN | apply below_drew1 | refine below_set ?_ GE153.out | refine below_set ?_ GE154.out) | exact HB.out)) hb); clear hb hbox hg; have hnb37 := NB158_153.out; have hnc37 := NB153_158.out; have hnb38 := NB158_154.out; have hnc38 := NB154_158.out; obtain ⟨hcz39_0, hcz39_1, hfz39_0, hfz39_1⟩ := cl2 BK158.out; obtain ⟨hcz40_0, hcz40_1, hfz40_0, hfz40_1⟩ := cl2 BK153.out; obtain ⟨hcz41_0, hcz41_1, hfz41_0, hfz41_1⟩ := cl2 BK154.out))
   go_ret
   exact ⟨by first | rfl | (simp [errW_none, errW_some] <;> rfl) | (simp [*, errW_none, errW_some] <;> rfl), by repeat (first | (with_reducible first | exact HB.out | apply below_alloc | apply pw_below_drewN | apply below_drew1 | refine below_set ?_ GE153.out | refine below_set ?_ GE154.out | refine below_set ?_ GE158.out) | exact HB.out)⟩
def vec_Truth.f (a0 : Bool) : Option (Int × Int × Int) := if a0 = true then (some (1, 0, 1)) else (some (1, 0, 0))
set_option maxHeartbeats 8000000 in
set_option maxRecDepth 100000 in
theorem vec_Truth.calls (a0 : Bool) (r1 : Int) (r2 : Int) (r3 : Int) (w : World) (h : vec_Truth.f a0 = some (r1, r2, r3)) :
 Calls Try.prog 156 #[.bool a0] w fun e w' => e = .returned (.agg #[.int .i64 r1, .int .u64 r2, .int .u64 r3]) ∧ Below w.heap.size w w' := by
 have hu32 := Try.underlying32
 have HB := Aside0.mk (Below.refl w.heap.size w)
 have H : (if a0 = true then (some (1, 0, 1)) else (some (1, 0, 0))) = some (r1, r2, r3) := h
 clear h
 by_cases c2 : a0 = true
 ·subst c2
  have H1 : (some (1, 0, 1)) = some (r1, r2, r3) := by rw [if_pos rfl] at H; exact H
  clear H
  have H := H1
  clear H1
  simp only [Option.some.injEq, Prod.mk.injEq] at H
  obtain ⟨rfl, rfl, rfl⟩ := H
  go_enter Try.func156, Try.ntmps156
  go_wp2_with (first | ((with_reducible refine gate_dst (N := 2) rfl ?_); refine box_event ?hg (N := 2) ?hd (cs := #[.int .i64 0, .int .u64 0, .int .u64 0]) (t := 32) ?hr ?_; (case hd => rfl); (case hg => rfl); (case hr => first | (go_simp; done) | (go_simp; rfl)); intro gb159 hg w3 hbox hb; have BK159 := Aside0.mk (hbox); have GW159 := Aside0.mk ((by rw [hg]; exact (below_size (by repeat (first | (with_reducible first | exact HB.out | apply below_alloc | apply pw_below_drewN | apply below_drew1) | exact HB.out))) : w.heap.size ≤ gb159)); have GE159 := GW159; replace HB := Aside0.mk (below_step (by repeat (first | (with_reducible first | exact HB.out | apply below_alloc | apply pw_below_drewN | apply below_drew1) | exact HB.out)) hb); clear hb hbox hg; obtain ⟨hcz4_0, hcz4_1, hcz4_2, hfz4_0, hfz4_1, hfz4_2⟩ := cl3 BK159.out))
  refine bodyPost_ret (results_cell_row rfl _ _ gb159 32 #[.int .i64 1, .int .u64 0, .int .u64 1] (0, 0) _ rfl (by (with_reducible repeat (first | refine blk_drewN ?_ _ | refine blk_drew ?_ | refine blk_alloc ?_ _)); refine blk_put (cs := #[.int .i64 1, .int .u64 0, .int .u64 0]) ?_ 2 _ rfl; (with_reducible repeat (first | refine blk_drewN ?_ _ | refine blk_drew ?_ | refine blk_alloc ?_ _)); refine blk_put (cs := #[.int .i64 1, .int .u64 0, .int .u64 0]) ?_ 1 _ rfl; (with_reducible repeat (first | refine blk_drewN ?_ _ | refine blk_drew ?_ | refine blk_alloc ?_ _)); refine blk_put (cs := #[.int .i64 0, .int .u64 0, .int .u64 0]) ?_ 0 _ rfl; (with_reducible repeat (first | refine blk_drewN ?_ _ | refine blk_drew ?_ | refine blk_alloc ?_ _)); exact BK159.out) Try.underlying32 rfl (by kernel_rfl)) rfl ?_
  exact ⟨by first | rfl | (simp [errW_none, errW_some] <;> rfl) | (simp [*, errW_none, errW_some] <;> rfl), by repeat (first | (with_reducible first | exact HB.out | apply below_alloc | apply pw_below_drewN | apply below_drew1 | refine below_set ?_ GE159.out) | exact HB.out)⟩
 ·replace c2 := Bool.eq_false_iff.mpr c2
  subst c2
  have H1 : (some (1, 0, 0)) = some (r1, r2, r3) := by rw [if_neg (show ¬ (false = true) by decide)] at H; exact H
  clear H
  have H := H1
  clear H1
  simp only [Option.some.injEq, Prod.mk.injEq] at H
  obtain ⟨rfl, rfl, rfl⟩ := H
  go_enter Try.func156, Try.ntmps156
  go_wp2_with (first | ((with_reducible refine gate_dst (N := 2) rfl ?_); refine box_event ?hg (N := 2) ?hd (cs := #[.int .i64 0, .int .u64 0, .int .u64 0]) (t := 32) ?hr ?_; (case hd => rfl); (case hg => rfl); (case hr => first | (go_simp; done) | (go_simp; rfl)); intro gb159 hg w5 hbox hb; have BK159 := Aside0.mk (hbox); have GW159 := Aside0.mk ((by rw [hg]; exact (below_size (by repeat (first | (with_reducible first | exact HB.out | apply below_alloc | apply pw_below_drewN | apply below_drew1) | exact HB.out))) : w.heap.size ≤ gb159)); have GE159 := GW159; replace HB := Aside0.mk (below_step (by repeat (first | (with_reducible first | exact HB.out | apply below_alloc | apply pw_below_drewN | apply below_drew1) | exact HB.out)) hb); clear hb hbox hg; obtain ⟨hcz6_0, hcz6_1, hcz6_2, hfz6_0, hfz6_1, hfz6_2⟩ := cl3 BK159.out))
  refine bodyPost_ret (results_cell_row rfl _ _ gb159 32 #[.int .i64 1, .int .u64 0, .int .u64 0] (0, 0) _ rfl (by (with_reducible repeat (first | refine blk_drewN ?_ _ | refine blk_drew ?_ | refine blk_alloc ?_ _)); refine blk_put (cs := #[.int .i64 1, .int .u64 0, .int .u64 0]) ?_ 2 _ rfl; (with_reducible repeat (first | refine blk_drewN ?_ _ | refine blk_drew ?_ | refine blk_alloc ?_ _)); refine blk_put (cs := #[.int .i64 1, .int .u64 0, .int .u64 0]) ?_ 1 _ rfl; (with_reducible repeat (first | refine blk_drewN ?_ _ | refine blk_drew ?_ | refine blk_alloc ?_ _)); refine blk_put (cs := #[.int .i64 0, .int .u64 0, .int .u64 0]) ?_ 0 _ rfl; (with_reducible repeat (first | refine blk_drewN ?_ _ | refine blk_drew ?_ | refine blk_alloc ?_ _)); exact BK159.out) Try.underlying32 rfl (by kernel_rfl)) rfl ?_
  exact ⟨by first | rfl | (simp [errW_none, errW_some] <;> rfl) | (simp [*, errW_none, errW_some] <;> rfl), by repeat (first | (with_reducible first | exact HB.out | apply below_alloc | apply pw_below_drewN | apply below_drew1 | refine below_set ?_ GE159.out) | exact HB.out)⟩
-- EXT shunter/vec.Less ROUNDS=0 MAKING=1 DEPS=shunter/vec.And;shunter/word.Cmp;shunter/vec.Truth;shunter/vec.Word
def vec_Less.f (a0 a1 a2 b0 b1 b2 : Int) : Option (Int × Int × Int × Int) :=
 (vec_And.f a0 a1 a2 b0 b1 b2).bind fun r => if r.2.2.2 = 0 then (word_Cmp.f a1 a2 b1 b2).bind fun c => (vec_Truth.f (decide (c < 0))).bind fun t => some (t.1, t.2.1, t.2.2, 0) else some (0, 0, 0, r.2.2.2)
set_option maxHeartbeats 400000 in
set_option maxRecDepth 100000 in
theorem less_closure (c : Int) (w : World) : Calls Try.prog 154 #[.int .i64 c] w fun e w' => e = .returned (.bool (decide (c < 0))) ∧ Below w.heap.size w w' := by
 go_enter Try.func154, Try.ntmps154
 go_wp2
 go_ret
 exact ⟨rfl, Below.refl _ _⟩
set_option maxHeartbeats 400000 in
set_option maxRecDepth 100000 in
theorem told_e (a0 a1 a2 b0 b1 b2 r1 r2 r3 r4 : Int) (w : World) (hA : vec_And.f a0 a1 a2 b0 b1 b2 = some (r1, r2, r3, r4)) (he : (r4 != 0) = true) :
 Calls Try.prog 153 #[.agg #[.int .i64 a0, .int .u64 a1, .int .u64 a2], .agg #[.int .i64 b0, .int .u64 b1, .int .u64 b2], .func (.func 154) #[] #[]] w fun e w' => e = .returned (.tuple #[.agg #[.int .i64 0, .int .u64 0, .int .u64 0], .int .i64 r4]) ∧ Below w.heap.size w w' := by
 have HA := Aside0.mk hA
 clear hA
 have H0 := Aside0.mk (BX3.start w (.cells #[.int .i64 a0, .int .u64 a1, .int .u64 a2] 32 (0, 0)) (.cells #[.int .i64 b0, .int .u64 b1, .int .u64 b2] 32 (0, 0)) (.cells #[.int .i64 0, .int .u64 0, .int .u64 0] 32 (0, 0)))
 go_enter Try.func153, Try.ntmps153
 go_wp2_with (go_at_call 131; with_reducible refine (vec_two_and a0 a1 a2 b0 b1 b2 _ _ _ _ _ HA.out).mono ?_; rintro e w1 ⟨rfl, hb⟩; have H1 := Aside0.mk (H0.out.step hb); clear hb; have cx0 := blk_cell H1.out.b0 0; have cx1 := blk_cell H1.out.b0 1; have cx2 := blk_cell H1.out.b0 2; have cy0 := blk_cell H1.out.b1 0; have cy1 := blk_cell H1.out.b1 1; have cy2 := blk_cell H1.out.b1 2; have cz0 := blk_cell H1.out.b2 0; have cz1 := blk_cell H1.out.b2 1; have cz2 := blk_cell H1.out.b2 2; have zf := blk_frozen H1.out.b2; simp only [List.getElem?_toArray, List.getElem?_cons_succ, List.getElem?_cons_zero] at cx0 cx1 cx2 cy0 cy1 cy2 cz0 cz1 cz2; have H2 := Aside0.mk (H1.out.step (below_alloc (Below.refl _ _) (.cells #[.int .i64 r1, .int .u64 r2, .int .u64 r3] 32 (0, 0)))); have dx0 := blk_cell H2.out.b0 0; have dx1 := blk_cell H2.out.b0 1; have dx2 := blk_cell H2.out.b0 2; have dy0 := blk_cell H2.out.b1 0; have dy1 := blk_cell H2.out.b1 1; have dy2 := blk_cell H2.out.b1 2; have dz0 := blk_cell H2.out.b2 0; have dz1 := blk_cell H2.out.b2 1; have dz2 := blk_cell H2.out.b2 2; have dzf := blk_frozen H2.out.b2; simp only [List.getElem?_toArray, List.getElem?_cons_succ, List.getElem?_cons_zero] at dx0 dx1 dx2 dy0 dy1 dy2 dz0 dz1 dz2)
 refine bodyPost_ret (results_ct rfl _ _ (w.heap.size + 1 + 1) 32 _ (0, 0) _ rfl (blk_set (blk_set (blk_set H2.out.b2 0 _) 1 _) 2 _) Try.underlying32 rfl (by kernel_rfl)) rfl ⟨rfl, ?_⟩
 exact below_set (below_set (below_set H2.out.below (by omega)) (by omega)) (by omega)
set_option maxHeartbeats 400000 in
set_option maxRecDepth 100000 in
theorem told_ok (a0 a1 a2 b0 b1 b2 r1 r2 r3 c t1 t2 t3 : Int) (w : World) (hA : vec_And.f a0 a1 a2 b0 b1 b2 = some (r1, r2, r3, 0)) (hC : word_Cmp.f a1 a2 b1 b2 = some c) (hT : vec_Truth.f (decide (c < 0)) = some (t1, t2, t3)) :
 Calls Try.prog 153 #[.agg #[.int .i64 a0, .int .u64 a1, .int .u64 a2], .agg #[.int .i64 b0, .int .u64 b1, .int .u64 b2], .func (.func 154) #[] #[]] w fun e w' => e = .returned (.tuple #[.agg #[.int .i64 t1, .int .u64 t2, .int .u64 t3], .int .i64 0]) ∧ Below w.heap.size w w' := by
 have HA := Aside0.mk hA
 have HC := Aside0.mk hC
 have HT := Aside0.mk hT
 clear hA hC hT
 have H0 := Aside0.mk (BX3.start w (.cells #[.int .i64 a0, .int .u64 a1, .int .u64 a2] 32 (0, 0)) (.cells #[.int .i64 b0, .int .u64 b1, .int .u64 b2] 32 (0, 0)) (.cells #[.int .i64 0, .int .u64 0, .int .u64 0] 32 (0, 0)))
 go_enter Try.func153, Try.ntmps153
 go_wp2_with (go_at_call 131; with_reducible refine (vec_two_and a0 a1 a2 b0 b1 b2 _ _ _ _ _ HA.out).mono ?_; rintro e w1 ⟨rfl, hb⟩; have H1 := Aside0.mk (H0.out.step hb); clear hb; have cx0 := blk_cell H1.out.b0 0; have cx1 := blk_cell H1.out.b0 1; have cx2 := blk_cell H1.out.b0 2; have cy0 := blk_cell H1.out.b1 0; have cy1 := blk_cell H1.out.b1 1; have cy2 := blk_cell H1.out.b1 2; have cz0 := blk_cell H1.out.b2 0; have cz1 := blk_cell H1.out.b2 1; have cz2 := blk_cell H1.out.b2 2; have zf := blk_frozen H1.out.b2; simp only [List.getElem?_toArray, List.getElem?_cons_succ, List.getElem?_cons_zero] at cx0 cx1 cx2 cy0 cy1 cy2 cz0 cz1 cz2; have H2 := Aside0.mk (H1.out.step (below_alloc (Below.refl _ _) (.cells #[.int .i64 r1, .int .u64 r2, .int .u64 r3] 32 (0, 0)))); have dx0 := blk_cell H2.out.b0 0; have dx1 := blk_cell H2.out.b0 1; have dx2 := blk_cell H2.out.b0 2; have dy0 := blk_cell H2.out.b1 0; have dy1 := blk_cell H2.out.b1 1; have dy2 := blk_cell H2.out.b1 2; have dz0 := blk_cell H2.out.b2 0; have dz1 := blk_cell H2.out.b2 1; have dz2 := blk_cell H2.out.b2 2; have dzf := blk_frozen H2.out.b2; simp only [List.getElem?_toArray, List.getElem?_cons_succ, List.getElem?_cons_zero] at dx0 dx1 dx2 dy0 dy1 dy2 dz0 dz1 dz2)
 generalize w1.alloc (.cells #[.int .i64 r1, .int .u64 r2, .int .u64 r3] 32 (0, 0)) = wq at H2 ⊢
 clear cx0 cx1 cx2 cy0 cy1 cy2 cz0 cz1 cz2 zf dx0 dx1 dx2 dy0 dy1 dy2 dz0 dz1 dz2 dzf
 have cx0 := blk_cell H2.out.b0 0; have cx1 := blk_cell H2.out.b0 1; have cx2 := blk_cell H2.out.b0 2; have cy0 := blk_cell H2.out.b1 0; have cy1 := blk_cell H2.out.b1 1; have cy2 := blk_cell H2.out.b1 2; have cz0 := blk_cell H2.out.b2 0; have cz1 := blk_cell H2.out.b2 1; have cz2 := blk_cell H2.out.b2 2; have zf := blk_frozen H2.out.b2; simp only [List.getElem?_toArray, List.getElem?_cons_succ, List.getElem?_cons_zero] at cx0 cx1 cx2 cy0 cy1 cy2 cz0 cz1 cz2
 refine start_ (n := 10) (S := fun w' => w'.cell? ⟨w.heap.size, 0, none⟩ = some (.int .i64 a0) ∧ w'.cell? ⟨w.heap.size, 1, none⟩ = some (.int .u64 a1) ∧ w'.cell? ⟨w.heap.size, 2, none⟩ = some (.int .u64 a2) ∧ w'.cell? ⟨w.heap.size + 1, 0, none⟩ = some (.int .i64 b0) ∧ w'.cell? ⟨w.heap.size + 1, 1, none⟩ = some (.int .u64 b1) ∧ w'.cell? ⟨w.heap.size + 1, 2, none⟩ = some (.int .u64 b2)) (ds := [8]) #[false, false, false, false, false, false, false, false, false, false] (by kernel_rfl) rfl rfl ⟨cx0, cx1, cx2, cy0, cy1, cy2⟩ (fun hHeld => ?_)
 refine pl_ [0, 1, 3] ?_
 refine qP rfl rfl ?_
 iterate 2 refine yT hHeld rfl rfl ?_ (by rintro w' ⟨s0, s1, s2, s3, s4, s5⟩; go_simp; with_reducible rfl)
 refine pl0 ?_
 refine one_ (i := 2) (N := some 22) #[true, true, true, true, false, false, false, false, false, false] rfl rfl (by kernel_rfl) (by decide) (fun K hK => ?_)
 refine goes_ Try.func124 (by kernel_rfl) rfl #[.agg #[.int .i64 a0, .int .u64 a1, .int .u64 a2]] (by rfl) rfl rfl (by simp only [List.map_toArray, List.map_cons, List.map_nil]; rfl) ?_
 with_reducible refine (vec_Word.calls a0 a1 a2 a1 a2 _ rfl).mono ?_
 rintro e w3 ⟨rfl, hb⟩
 refine ⟨_, rfl, ?_⟩
 have H3 := Aside0.mk (H2.out.drew.step hb)
 clear hb
 (try clear cx0 cx1 cx2 cy0 cy1 cy2 cz0 cz1 cz2 zf)
 have cx0 := blk_cell H3.out.b0 0
 have cx1 := blk_cell H3.out.b0 1
 have cx2 := blk_cell H3.out.b0 2
 have cy0 := blk_cell H3.out.b1 0
 have cy1 := blk_cell H3.out.b1 1
 have cy2 := blk_cell H3.out.b1 2
 have cz0 := blk_cell H3.out.b2 0
 have cz1 := blk_cell H3.out.b2 1
 have cz2 := blk_cell H3.out.b2 2
 have zf := blk_frozen H3.out.b2
 simp only [List.getElem?_toArray, List.getElem?_cons_succ, List.getElem?_cons_zero] at cx0 cx1 cx2 cy0 cy1 cy2 cz0 cz1 cz2
 refine hK.out _ _ ⟨cx0, cx1, cx2, cy0, cy1, cy2⟩ (fun hHeld => ?_)
 clear hK K
 refine norm_ (a' := ?_) ?_ ?_
 rotate_left
 ·show Act.put _ (some 22) _ = _
  simp only [Act.put, List.setIfInBounds_toArray, List.set_cons_zero, List.set_cons_succ, i64_w, i32_w]
  rfl
 refine one_ (i := 4) (N := some 24) #[true, true, true, true, true, false, false, false, false, false] rfl rfl (by kernel_rfl) (by decide) (fun K hK => ?_)
 refine goes_ Try.func124 (by kernel_rfl) rfl #[.agg #[.int .i64 b0, .int .u64 b1, .int .u64 b2]] (by rfl) rfl rfl (by simp only [List.map_toArray, List.map_cons, List.map_nil]; rfl) ?_
 with_reducible refine (vec_Word.calls b0 b1 b2 b1 b2 _ rfl).mono ?_
 rintro e w4 ⟨rfl, hb⟩
 refine ⟨_, rfl, ?_⟩
 have H4 := Aside0.mk (H3.out.step hb)
 clear hb
 (try clear cx0 cx1 cx2 cy0 cy1 cy2 cz0 cz1 cz2 zf)
 have cx0 := blk_cell H4.out.b0 0
 have cx1 := blk_cell H4.out.b0 1
 have cx2 := blk_cell H4.out.b0 2
 have cy0 := blk_cell H4.out.b1 0
 have cy1 := blk_cell H4.out.b1 1
 have cy2 := blk_cell H4.out.b1 2
 have cz0 := blk_cell H4.out.b2 0
 have cz1 := blk_cell H4.out.b2 1
 have cz2 := blk_cell H4.out.b2 2
 have zf := blk_frozen H4.out.b2
 simp only [List.getElem?_toArray, List.getElem?_cons_succ, List.getElem?_cons_zero] at cx0 cx1 cx2 cy0 cy1 cy2 cz0 cz1 cz2
 refine hK.out _ _ ⟨cx0, cx1, cx2, cy0, cy1, cy2⟩ (fun hHeld => ?_)
 clear hK K
 refine norm_ (a' := ?_) ?_ ?_
 rotate_left
 ·show Act.put _ (some 24) _ = _
  simp only [Act.put, List.setIfInBounds_toArray, List.set_cons_zero, List.set_cons_succ, i64_w, i32_w]
  rfl
 refine one_ (i := 5) (N := some 25) #[true, true, true, true, true, true, false, false, false, false] rfl rfl (by kernel_rfl) (by decide) (fun K hK => ?_)
 refine goes_ Try.func157 (by kernel_rfl) rfl #[.agg #[.int .u64 a1, .int .u64 a2], .agg #[.int .u64 b1, .int .u64 b2]] (by rfl) rfl rfl (by simp only [List.map_toArray, List.map_cons, List.map_nil]; rfl) ?_
 with_reducible refine (word_Cmp.calls a1 a2 b1 b2 c _ HC.out).mono ?_
 rintro e w5 ⟨rfl, hb⟩
 refine ⟨_, rfl, ?_⟩
 have H5 := Aside0.mk (H4.out.step hb)
 clear hb
 (try clear cx0 cx1 cx2 cy0 cy1 cy2 cz0 cz1 cz2 zf)
 have cx0 := blk_cell H5.out.b0 0
 have cx1 := blk_cell H5.out.b0 1
 have cx2 := blk_cell H5.out.b0 2
 have cy0 := blk_cell H5.out.b1 0
 have cy1 := blk_cell H5.out.b1 1
 have cy2 := blk_cell H5.out.b1 2
 have cz0 := blk_cell H5.out.b2 0
 have cz1 := blk_cell H5.out.b2 1
 have cz2 := blk_cell H5.out.b2 2
 have zf := blk_frozen H5.out.b2
 simp only [List.getElem?_toArray, List.getElem?_cons_succ, List.getElem?_cons_zero] at cx0 cx1 cx2 cy0 cy1 cy2 cz0 cz1 cz2
 refine hK.out _ _ ⟨cx0, cx1, cx2, cy0, cy1, cy2⟩ (fun hHeld => ?_)
 clear hK K
 refine norm_ (a' := ?_) ?_ ?_
 rotate_left
 ·show Act.put _ (some 25) _ = _
  simp only [Act.put, List.setIfInBounds_toArray, List.set_cons_zero, List.set_cons_succ, i64_w, i32_w]
  rfl
 refine one_ (i := 6) (N := some 26) #[true, true, true, true, true, true, true, false, false, false] rfl rfl (by kernel_rfl) (by decide) (fun K hK => ?_)
 refine goesV_ Try.func154 (by kernel_rfl) rfl #[.int .i64 c] (by rfl) rfl rfl (by rfl) (by simp only [List.map_toArray, List.map_cons, List.map_nil]; rfl) ?_
 with_reducible refine (less_closure c _).mono ?_
 rintro e w6 ⟨rfl, hb⟩
 refine ⟨_, rfl, ?_⟩
 have H6 := Aside0.mk (H5.out.step hb)
 clear hb
 (try clear cx0 cx1 cx2 cy0 cy1 cy2 cz0 cz1 cz2 zf)
 have cx0 := blk_cell H6.out.b0 0
 have cx1 := blk_cell H6.out.b0 1
 have cx2 := blk_cell H6.out.b0 2
 have cy0 := blk_cell H6.out.b1 0
 have cy1 := blk_cell H6.out.b1 1
 have cy2 := blk_cell H6.out.b1 2
 have cz0 := blk_cell H6.out.b2 0
 have cz1 := blk_cell H6.out.b2 1
 have cz2 := blk_cell H6.out.b2 2
 have zf := blk_frozen H6.out.b2
 simp only [List.getElem?_toArray, List.getElem?_cons_succ, List.getElem?_cons_zero] at cx0 cx1 cx2 cy0 cy1 cy2 cz0 cz1 cz2
 refine hK.out _ _ ⟨cx0, cx1, cx2, cy0, cy1, cy2⟩ (fun hHeld => ?_)
 clear hK K
 refine norm_ (a' := ?_) ?_ ?_
 rotate_left
 ·show Act.put _ (some 26) _ = _
  simp only [Act.put, List.setIfInBounds_toArray, List.set_cons_zero, List.set_cons_succ, i64_w, i32_w]
  rfl
 refine one_ (i := 7) (N := some 27) #[true, true, true, true, true, true, true, true, false, false] rfl rfl (by kernel_rfl) (by decide) (fun K hK => ?_)
 refine goes_ Try.func156 (by kernel_rfl) rfl #[.bool (decide (c < 0))] (by rfl) rfl rfl (by simp only [List.map_toArray, List.map_cons, List.map_nil]; rfl) ?_
 with_reducible refine (vec_Truth.calls (decide (c < 0)) t1 t2 t3 _ HT.out).mono ?_
 rintro e w7 ⟨rfl, hb⟩
 refine ⟨_, rfl, ?_⟩
 have H7 := Aside0.mk (H6.out.step hb)
 clear hb
 (try clear cx0 cx1 cx2 cy0 cy1 cy2 cz0 cz1 cz2 zf)
 have cx0 := blk_cell H7.out.b0 0
 have cx1 := blk_cell H7.out.b0 1
 have cx2 := blk_cell H7.out.b0 2
 have cy0 := blk_cell H7.out.b1 0
 have cy1 := blk_cell H7.out.b1 1
 have cy2 := blk_cell H7.out.b1 2
 have cz0 := blk_cell H7.out.b2 0
 have cz1 := blk_cell H7.out.b2 1
 have cz2 := blk_cell H7.out.b2 2
 have zf := blk_frozen H7.out.b2
 simp only [List.getElem?_toArray, List.getElem?_cons_succ, List.getElem?_cons_zero] at cx0 cx1 cx2 cy0 cy1 cy2 cz0 cz1 cz2
 refine hK.out _ _ ⟨cx0, cx1, cx2, cy0, cy1, cy2⟩ (fun hHeld => ?_)
 clear hK K
 refine norm_ (a' := ?_) ?_ ?_
 rotate_left
 ·show Act.put _ (some 27) _ = _
  simp only [Act.put, List.setIfInBounds_toArray, List.set_cons_zero, List.set_cons_succ, i64_w, i32_w]
  rfl
 refine last_ (i := 8) (N := none) #[true, true, true, true, true, true, true, true, true, false] rfl rfl (by kernel_rfl) (by decide) (fun K hK => ?_)
 refine skip_ (w1 := ?_) (by rfl) rfl ?_ ?_
 rotate_left
 ·go_simp
  rfl
 refine hK.out _ _ ?_
 clear hK K
 refine pl_ [9] ?_
 refine qP rfl rfl ?_
 refine pl0 ?_
 refine done_ (by kernel_rfl) ?_
 go_wp2
 refine bodyPost_ret (results_ct rfl _ _ (w.heap.size + 1 + 1) 32 _ (0, 0) _ rfl (blk_set (blk_set (blk_set H7.out.b2 0 _) 1 _) 2 _) Try.underlying32 rfl (by kernel_rfl)) rfl ⟨rfl, ?_⟩
 exact below_set (below_set (below_set H7.out.below (by omega)) (by omega)) (by omega)
set_option maxHeartbeats 400000 in
set_option maxRecDepth 100000 in
theorem vec_Less.calls (a0 a1 a2 b0 b1 b2 r1 r2 r3 r4 : Int) (w : World) (h : vec_Less.f a0 a1 a2 b0 b1 b2 = some (r1, r2, r3, r4)) :
 Calls Try.prog 149 #[.agg #[.int .i64 a0, .int .u64 a1, .int .u64 a2], .agg #[.int .i64 b0, .int .u64 b1, .int .u64 b2]] w fun e w' => e = .returned (.tuple #[.agg #[.int .i64 r1, .int .u64 r2, .int .u64 r3], .int .i64 r4]) ∧ Below w.heap.size w w' := by
 have HT : Aside0 (∀ W : World, Calls Try.prog 153 #[.agg #[.int .i64 a0, .int .u64 a1, .int .u64 a2], .agg #[.int .i64 b0, .int .u64 b1, .int .u64 b2], .func (.func 154) #[] #[]] W fun e w' => e = .returned (.tuple #[.agg #[.int .i64 r1, .int .u64 r2, .int .u64 r3], .int .i64 r4]) ∧ Below W.heap.size W w') := by
  refine ⟨fun W => ?_⟩
  unfold vec_Less.f at h
  obtain ⟨⟨q1, q2, q3, q4⟩, hA, h⟩ := Option.bind_eq_some_iff.mp h
  dsimp only at h
  by_cases h0 : q4 = 0
  ·subst h0
   rw [if_pos rfl] at h
   obtain ⟨c, hC, h⟩ := Option.bind_eq_some_iff.mp h
   obtain ⟨⟨t1, t2, t3⟩, hT, h⟩ := Option.bind_eq_some_iff.mp h
   simp only [Option.some.injEq, Prod.mk.injEq] at h
   obtain ⟨rfl, rfl, rfl, rfl⟩ := h
   exact told_ok a0 a1 a2 b0 b1 b2 q1 q2 q3 c t1 t2 t3 W hA hC hT
  ·rw [if_neg h0] at h
   simp only [Option.some.injEq, Prod.mk.injEq] at h
   obtain ⟨rfl, rfl, rfl, rfl⟩ := h
   exact told_e a0 a1 a2 b0 b1 b2 q1 q2 q3 q4 W hA (by simpa using h0)
 clear h
 have H0 := Aside0.mk (BX3.start w (.cells #[.int .i64 a0, .int .u64 a1, .int .u64 a2] 32 (0, 0)) (.cells #[.int .i64 b0, .int .u64 b1, .int .u64 b2] 32 (0, 0)) (.cells #[.int .i64 0, .int .u64 0, .int .u64 0] 32 (0, 0)))
 go_enter Try.func149, Try.ntmps149
 go_wp2_with (go_at_call 153; refine (HT.out _).mono ?_; rintro e w1 ⟨rfl, hb⟩; have H1 := Aside0.mk (H0.out.step hb); clear hb; have cx0 := blk_cell H1.out.b0 0; have cx1 := blk_cell H1.out.b0 1; have cx2 := blk_cell H1.out.b0 2; have cy0 := blk_cell H1.out.b1 0; have cy1 := blk_cell H1.out.b1 1; have cy2 := blk_cell H1.out.b1 2; have cz0 := blk_cell H1.out.b2 0; have cz1 := blk_cell H1.out.b2 1; have cz2 := blk_cell H1.out.b2 2; have zf := blk_frozen H1.out.b2; simp only [List.getElem?_toArray, List.getElem?_cons_succ, List.getElem?_cons_zero] at cx0 cx1 cx2 cy0 cy1 cy2 cz0 cz1 cz2)
 refine bodyPost_ret (results_ct rfl _ _ (w.heap.size + 1 + 1) 32 _ (0, 0) _ rfl (blk_set (blk_set (blk_set H1.out.b2 0 _) 1 _) 2 _) Try.underlying32 rfl (by kernel_rfl)) rfl ⟨rfl, ?_⟩
 exact below_set (below_set (below_set H1.out.below (by omega)) (by omega)) (by omega)
end Go.Proofs.Ytfdbcnbakchcgaa.XQ
