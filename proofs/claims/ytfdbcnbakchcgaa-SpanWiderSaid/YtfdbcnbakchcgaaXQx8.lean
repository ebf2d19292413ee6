import Derived.Test.YtfdbcnbakchcgaaSv
import Derived.Test.YtfdbcnbakchcgaaXQx0
namespace Go.Proofs.Ytfdbcnbakchcgaa.XQ
open Go.RowKit Go.Proofs.YtfdbcnbakchcgaaW.PrintWords Go.Proofs.YtfdbcnbakchcgaaW.PrintLast Go.Proofs.YtfdbcnbakchcgaaW.PrintMore
attribute [local go_sem] max2_int min2_int max_two min_two max_three min_three max_four min_four
set_option linter.unusedVariables false
set_option linter.unusedSimpArgs false
-- EXT shunter/shunterref01.Of ROUNDS=0 MAKING=1
-- EXT shunter/shunterref01.Halves ROUNDS=0 MAKING=1
-- EXT shunter/shunterref01.Len ROUNDS=0 MAKING=1
-- EXT shunter/shunterref02.Of ROUNDS=0 MAKING=1
-- EXT shunter/shunterref02.Bits ROUNDS=0 MAKING=1
def brow (f : Nat → Bool) : Array Value := Array.ofFn (n := 128) fun j => .bool (f j.val)
theorem brow_get (f : Nat → Bool) (j : Nat) (h : j < 128) : (brow f)[j]? = some (.bool (f j)) := by unfold brow; simp [h]
theorem brow_size (f : Nat → Bool) : (brow f).size = 128 := by simp [brow]
theorem brow_congr {f g : Nat → Bool} (h : ∀ j, j < 128 → f j = g j) : brow f = brow g := by
 unfold brow
 congr 1
 funext j
 rw [h j.val j.isLt]
theorem brow_set (f : Nat → Bool) (i : Nat) (b : Bool) : (brow f).setIfInBounds i (.bool b) = brow (fun j => if j = i then b else f j) := by
 apply Array.ext
 ·simp [brow_size]
 ·intro j h1 h2
  rw [brow_size] at h2
  rw [← Option.some_inj, ← Array.getElem?_eq_getElem, ← Array.getElem?_eq_getElem, brow_get _ _ h2, Array.getElem?_setIfInBounds, brow_get _ _ h2]
  simp only [brow_size]
  by_cases h3 : i = j
  ·subst h3; rw [if_pos rfl, if_pos h2, if_pos rfl]
  ·rw [if_neg h3, if_neg (fun h => h3 h.symm)]
theorem brow_zero : brow (fun _ => false) = Try.zeroCells125 := by kernel_rfl
theorem info125 : (Try.prog.info? 125).map (·.size) = some 128 := by kernel_rfl
theorem brow_info (f : Nat → Bool) : (Try.prog.info? 125).map (·.size) = some (brow f).size := by rw [brow_size]; exact info125
theorem brow_one (f : Nat → Bool) : (brow f).all (·.oneCell') = true := by
 rw [Array.all_eq_true]
 intro j hj
 have := brow_get f j (by rw [brow_size] at hj; exact hj)
 rw [Array.getElem?_eq_getElem hj] at this
 rw [Option.some.inj this]
 rfl
def hvD (f : Nat → Bool) : Nat → Int
 | 0 => 0
 | d + 1 => 2 * hvD f d + if f (63 - d) then 1 else 0
theorem hvD_nonneg (f : Nat → Bool) : ∀ d, 0 ≤ hvD f d
 | 0 => by simp [hvD]
 | d + 1 => by have := hvD_nonneg f d; simp only [hvD]; split <;> omega
theorem hvD_lt (f : Nat → Bool) : ∀ d, hvD f d < 2 ^ d
 | 0 => by simp [hvD]
 | d + 1 => by have := hvD_lt f d; simp only [hvD, Int.pow_succ]; split <;> omega
theorem hvD_dbl (f : Nat → Bool) (d : Nat) (h : d < 64) : IntKind.u64.wrap (2 * hvD f d) = 2 * hvD f d := by
 have h1 := hvD_nonneg f d
 have h2 := hvD_lt f d
 have h3 : (2 : Int) ^ d ≤ 2 ^ 63 := by exact_mod_cast Nat.pow_le_pow_right (by decide) (by omega)
 rw [IntKind.wrap_u64]
 omega
theorem hvD_inc (f : Nat → Bool) (d : Nat) (h : d < 64) (hf : f (63 - d) = true) : IntKind.u64.wrap (2 * hvD f d + 1) = hvD f (d + 1) := by
 have h1 := hvD_nonneg f d
 have h2 := hvD_lt f d
 have h3 : (2 : Int) ^ d ≤ 2 ^ 63 := by exact_mod_cast Nat.pow_le_pow_right (by decide) (by omega)
 rw [IntKind.wrap_u64]
 simp only [hvD, hf, if_true]
 omega
theorem hvD_same (f : Nat → Bool) (d : Nat) (hf : f (63 - d) = false) : 2 * hvD f d = hvD f (d + 1) := by simp [hvD, hf]
set_option maxHeartbeats 8000000 in
set_option maxRecDepth 100000 in
theorem shunterref01_Halves.calls0 (f : Nat → Bool) (w : World) :
 Calls Try.prog 90 #[.agg (brow f)] w fun e w' => e = .returned (.tuple #[.int .u64 (hvD (fun j => f (j + 64)) 64), .int .u64 (hvD f 64)]) ∧ Below w.heap.size w w' := by
 go_enter Try.func90, Try.ntmps90
 go_wp2
 go_loop [4, 5, 6] (fun v4 v5 v6 => ∃ d : Nat, d ≤ 64 ∧ v6 = .int .i64 (63 - d) ∧ v4 = .int .u64 (hvD (fun j => f (j + 64)) d) ∧ v5 = .int .u64 (hvD f d)) (fun _ _ v6 => (intOf v6 + 1).toNat)
 case atStart => exact ⟨0, by omega, rfl, rfl, rfl⟩
 case round =>
  obtain ⟨d, hd, rfl, rfl, rfl⟩ := hrel
  by_cases hlt : d < 64
  ·obtain ⟨i, hi⟩ : ∃ i : Nat, (63 - (d : Int)) = i := ⟨63 - d, by omega⟩
   rw [hi]
   have hid : i = 63 - d := by omega
   have hi64 : i < 64 := by omega
   have hb : (w.alloc (Obj.cells (brow f) 125)).heap[w.heap.size]? = some (.cells (brow f) 125 (0, 0)) := blk_new w _
   have hc1 : (w.alloc (Obj.cells (brow f) 125)).cell? ⟨w.heap.size, i, none⟩ = some (.bool (f i)) := (blk_cell hb i).trans (brow_get _ _ (by omega))
   have hc2 : (w.alloc (Obj.cells (brow f) 125)).cell? ⟨w.heap.size, i + 64, none⟩ = some (.bool (f (i + 64))) := (blk_cell hb (i + 64)).trans (brow_get _ _ (by omega))
   have H1 := Aside0.mk (hvD_dbl (fun j => f (j + 64)) d hlt)
   have H2 := Aside0.mk (hvD_dbl f d hlt)
   have H3 := Aside0.mk hid
   clear hb hid hi
   cases h1 : f (i + 64) <;> cases h2 : f i <;> rw [h1] at hc2 <;> rw [h2] at hc1 <;> replace h1 := Aside0.mk h1 <;> replace h2 := Aside0.mk h2 <;> go_wp2
   all_goals
    go_round
    case measure => simp [intOf] <;> omega
    case rel =>
     have e3 := H3.out
     have g1 : i + 64 = 63 - d + 64 := by omega
     refine ⟨d + 1, by omega, ?_, ?_, ?_⟩
     ·congr 1; push_cast; omega
     ·have h1' := h1.out
      rw [H3.out] at h1'
      first | rw [H1.out, hvD_same (fun j => f (j + 64)) d h1'] | rw [H1.out, hvD_inc (fun j => f (j + 64)) d hlt h1']
     ·have h2' := h2.out
      rw [H3.out] at h2'
      first | rw [H2.out, hvD_same f d h2'] | rw [H2.out, hvD_inc f d hlt h2']
  ·obtain rfl : d = 64 := by omega
   go_wp2
   go_ret2
   exact ⟨rfl, below_alloc (Below.refl _ _) _⟩
def shunterref01_Halves.f (f : Nat → Bool) : Option (Int × Int) := some (hvD (fun j => f (j + 64)) 64, hvD f 64)
theorem shunterref01_Halves.calls (f : Nat → Bool) (r1 r2 : Int) (w : World) (h : shunterref01_Halves.f f = some (r1, r2)) :
 Calls Try.prog 90 #[.agg (brow f)] w fun e w' => e = .returned (.tuple #[.int .u64 r1, .int .u64 r2]) ∧ Below w.heap.size w w' := by
 unfold shunterref01_Halves.f at h
 simp only [Option.some.injEq, Prod.mk.injEq] at h
 obtain ⟨rfl, rfl⟩ := h
 exact shunterref01_Halves.calls0 f w
def topLen (f : Nat → Bool) : Nat → Nat
 | 0 => 0
 | n + 1 => if f n then n + 1 else topLen f n
set_option maxHeartbeats 8000000 in
set_option maxRecDepth 100000 in
theorem shunterref01_Len.calls0 (f : Nat → Bool) (w : World) :
 Calls Try.prog 71 #[.agg (brow f)] w fun e w' => e = .returned (.int .i64 (topLen f 128)) ∧ Below w.heap.size w w' := by
 go_enter Try.func71, Try.ntmps71
 go_wp2
 go_loop [3] (fun v3 => ∃ d : Nat, d ≤ 128 ∧ v3 = .int .i64 ((d : Int) - 1) ∧ Aside0 (topLen f 128 = topLen f d)) (fun v3 => (intOf v3 + 1).toNat)
 case atStart => exact ⟨128, by omega, rfl, ⟨rfl⟩⟩
 case round =>
  obtain ⟨d, hd, rfl, HT⟩ := hrel
  cases d with
  | zero =>
   go_wp2
   go_ret
   exact ⟨by rw [HT.out]; rfl, below_alloc (Below.refl _ _) _⟩
  | succ d =>
   have e : (((d + 1 : Nat) : Int) - 1) = (d : Int) := by omega
   rw [e]
   clear e
   have hb : (w.alloc (Obj.cells (brow f) 125)).heap[w.heap.size]? = some (.cells (brow f) 125 (0, 0)) := blk_new w _
   have hc1 : (w.alloc (Obj.cells (brow f) 125)).cell? ⟨w.heap.size, d, none⟩ = some (.bool (f d)) := (blk_cell hb d).trans (brow_get _ _ (by omega))
   clear hb
   cases h1 : f d <;> rw [h1] at hc1 <;> replace h1 := Aside0.mk h1 <;> go_wp2
   ·go_round
    case measure => simp [intOf] <;> omega
    case rel => exact ⟨d, by omega, rfl, ⟨by rw [HT.out]; simp [topLen, h1.out]⟩⟩
   ·go_ret
    exact ⟨by rw [HT.out]; simp [topLen, h1.out], below_alloc (Below.refl _ _) _⟩
def shunterref01_Len.f (f : Nat → Bool) : Option Int := some (topLen f 128)
theorem shunterref01_Len.calls (f : Nat → Bool) (r : Int) (w : World) (h : shunterref01_Len.f f = some r) :
 Calls Try.prog 71 #[.agg (brow f)] w fun e w' => e = .returned (.int .i64 r) ∧ Below w.heap.size w w' := by
 unfold shunterref01_Len.f at h
 obtain rfl := Option.some.inj h
 exact shunterref01_Len.calls0 f w
def bitAt (hi lo : Int) (j : Nat) : Bool := if j < 64 then (lo / 2 ^ j % 2 == 1) else (hi / 2 ^ (j - 64) % 2 == 1)
theorem ofRow_succ (hi lo : Int) (i : Nat) (h : i < 64) : ((brow fun j => decide (j % 64 < i) && bitAt hi lo j).setIfInBounds i (.bool (lo / 2 ^ i % 2 == 1))).setIfInBounds (i + 64) (.bool (hi / 2 ^ i % 2 == 1)) = brow fun j => decide (j % 64 < i + 1) && bitAt hi lo j := by
 rw [brow_set, brow_set]
 refine brow_congr fun j hj => ?_
 by_cases h3 : j = i + 64
 ·subst h3
  rw [if_pos rfl, show (i + 64) % 64 = i by omega, decide_eq_true (by omega)]
  simp [bitAt, show ¬ (i + 64 < 64) by omega]
 ·rw [if_neg h3]
  by_cases h4 : j = i
  ·subst h4
   rw [if_pos rfl, show j % 64 = j by omega, decide_eq_true (by omega)]
   simp [bitAt, h]
  ·rw [if_neg h4]
   congr 1
   rw [Bool.eq_iff_iff]
   simp
   omega
theorem div_pow_succ (a : Int) (i : Nat) : a / 2 ^ i / 2 = a / 2 ^ (i + 1) := by
 rw [Int.pow_succ, Int.ediv_ediv_of_nonneg (Int.le_of_lt (Int.pow_pos (by decide)))]
theorem half_u64 {a : Int} (i : Nat) (h0 : 0 ≤ a) (h1 : a < 2 ^ 64) : IntKind.u64.wrap ((a / 2 ^ i).tdiv 2) = a / 2 ^ (i + 1) := by
 have hp : (0 : Int) < 2 ^ i := Int.pow_pos (by decide)
 have h2 : 0 ≤ a / 2 ^ i := Int.ediv_nonneg h0 (Int.le_of_lt hp)
 rw [Int.tdiv_eq_ediv_of_nonneg h2, div_pow_succ]
 have h3 : 0 ≤ a / 2 ^ (i + 1) := Int.ediv_nonneg h0 (Int.le_of_lt (Int.pow_pos (by decide)))
 have h4 : a / 2 ^ (i + 1) ≤ a := Int.ediv_le_self _ h0
 generalize a / 2 ^ (i + 1) = b at *
 rw [IntKind.wrap_u64 b]
 omega
def u64s (a b : Int) : Prop := 0 ≤ a ∧ a < 2 ^ 64 ∧ 0 ≤ b ∧ b < 2 ^ 64
instance (a b : Int) : Decidable (u64s a b) := by unfold u64s; infer_instance
def shunterref01_Of.f (hi lo : Int) : Option (Nat → Bool) := if u64s hi lo then some (bitAt hi lo) else none
set_option maxHeartbeats 8000000 in
set_option maxRecDepth 100000 in
theorem shunterref01_Of.calls (hi lo : Int) (r : Nat → Bool) (w : World) (h : shunterref01_Of.f hi lo = some r) :
 Calls Try.prog 72 #[.int .u64 hi, .int .u64 lo] w fun e w' => e = .returned (.agg (brow r)) ∧ Below w.heap.size w w' := by
 unfold shunterref01_Of.f at h
 split at h
 case isFalse => cases h
 rename_i hu
 obtain ⟨hh, hh2, hl, hl2⟩ := hu
 obtain rfl := Option.some.inj h
 clear h
 have hh2 := Aside0.mk hh2
 have hl2 := Aside0.mk hl2
 go_enter Try.func72, Try.ntmps72
 go_wp2
 go_loopw [0, 1, 6] (fun v0 v1 v6 w' => ∃ i : Nat, i ≤ 64 ∧ v6 = .int .i64 i ∧ v1 = .int .u64 (lo / 2 ^ i) ∧ v0 = .int .u64 (hi / 2 ^ i) ∧ Aside0 (w'.heap[w.heap.size + 1]? = some (.cells (brow fun j => decide (j % 64 < i) && bitAt hi lo j) 125 (0, 0))) ∧ Aside0 (w'.heap[w.heap.size]? = some (.cells Try.zeroCells125 125 (0, 0))) ∧ Aside0 (Below w.heap.size w w')) (fun _ _ v6 _ => (64 - intOf v6).toNat)
 case atStart =>
  refine ⟨0, by omega, rfl, by simp, by simp, ⟨?_⟩, ⟨?_⟩, ⟨?_⟩⟩
  ·rw [show (fun j => decide (j % 64 < 0) && bitAt hi lo j) = fun _ => false from funext fun j => by simp, brow_zero]; simpa using blk_new (w.alloc _) _
  ·exact blk_alloc (blk_new w _) _
  ·exact below_alloc (below_alloc (Below.refl _ _) _) _
 case round =>
  obtain ⟨i, hi64, rfl, rfl, rfl, H5, H4, HB⟩ := hrel
  by_cases hlt : i < 64
  ·have hc1 : wr.cell? ⟨w.heap.size + 1, i, none⟩ = some (.bool (decide (i % 64 < i) && bitAt hi lo i)) := (blk_cell H5.out i).trans (brow_get _ _ (by omega))
   have hc2 : wr.cell? ⟨w.heap.size + 1, i + 64, none⟩ = some (.bool (decide ((i + 64) % 64 < i) && bitAt hi lo (i + 64))) := (blk_cell H5.out (i + 64)).trans (brow_get _ _ (by omega))
   have hf : ∀ j, wr.frozen? ⟨w.heap.size + 1, j, none⟩ = false := blk_frozen H5.out
   have hp1 : 0 ≤ lo / 2 ^ i := Int.ediv_nonneg hl (Int.le_of_lt (Int.pow_pos (by decide)))
   have hp2 : 0 ≤ hi / 2 ^ i := Int.ediv_nonneg hh (Int.le_of_lt (Int.pow_pos (by decide)))
   go_wp2
   go_roundw
   case measure => simp [intOf]; omega
   case rel =>
    refine ⟨i + 1, by omega, by go_num, by rw [half_u64 i hl hl2.out], by rw [half_u64 i hh hh2.out], ⟨?_⟩, ⟨?_⟩, ⟨?_⟩⟩
    ·exact blk_put (blk_set H5.out i _) (i + 64) _ (ofRow_succ hi lo i hlt)
    ·exact blk_far (blk_far H4.out (by simp) _) (by simp) _
    ·exact below_set (below_set HB.out (by omega)) (by omega)
  ·obtain rfl : i = 64 := by omega
   have e : brow (fun j => decide (j % 64 < 64) && bitAt hi lo j) = brow (bitAt hi lo) := brow_congr fun j _ => by simp [Nat.mod_lt]
   replace H5 := Aside0.mk (e ▸ H5.out)
   clear e
   go_wp2_with (first | (refine wpList_load_row rfl 125 (.tmp 5) rfl (w.heap.size + 1) rfl 125 _ (0, 0) _ H5.out Try.underlying125 rfl (brow_info _) ?_) | (refine wpList_store_row rfl 125 (.tmp 4) (.tmp 26) rfl w.heap.size _ rfl rfl 125 _ H4.out (brow_info _) (by rw [brow_size]; kernel_rfl) (brow_one _) ?_))
   refine bodyPost_ret (results_cell_row rfl _ _ w.heap.size 125 _ (0, 0) _ rfl (setRow_heap _ _ _ _ _ _ H4.out) Try.underlying125 rfl (brow_info _)) rfl ⟨rfl, ?_⟩
   exact below_setRow HB.out (Nat.le_refl _) _
def shunterref02_Of.f (l0 : List Bool) : Option (Int × Int × Int) :=
 if l0.length < 4611686018427387904 then some (l0.length, hvD (fun j => l0[j + 64]?.getD false) 64, hvD (fun j => l0[j]?.getD false) 64) else none
def upTo (l : List Bool) (i j : Nat) : Bool := decide (j < i) && l[j]?.getD false
theorem upTo_all (l : List Bool) (i j : Nat) (h : l.length ≤ i ∨ j < i) : upTo l i j = l[j]?.getD false := by
 unfold upTo
 rcases h with h | h
 ·by_cases hj : j < i
  ·simp [hj]
  ·simp [hj]; rw [List.getElem?_eq_none (by omega)]; rfl
 ·simp [h]
theorem upTo_succ (l : List Bool) (i : Nat) : brow (fun j => if j = i then l[i]?.getD false else upTo l i j) = brow (upTo l (i + 1)) := by
 congr 1; funext j
 unfold upTo
 by_cases h : j = i
 ·subst h; simp
 ·rw [if_neg h]
  congr 1
  rw [Bool.eq_iff_iff]; simp; omega
set_option maxHeartbeats 8000000 in
set_option maxRecDepth 100000 in
theorem shunterref02_Of.calls (A0 : Option Addr) (c0 : Nat) (l0 : List Bool) (r1 r2 r3 : Int) (w : World) (hr0 : Kd.C Kd.bool w A0 l0.length l0) (hc0 : l0.length ≤ c0) (h : shunterref02_Of.f l0 = some (r1, r2, r3)) :
 Calls Try.prog 37 #[.slice A0 l0.length c0] w fun e w' => e = .returned (.agg #[.int .i64 r1, .int .u64 r2, .int .u64 r3]) ∧ Below w.heap.size w w' := by
 unfold shunterref02_Of.f at h
 split at h
 case isFalse => cases h
 rename_i hlen
 simp only [Option.some.injEq, Prod.mk.injEq] at h
 obtain ⟨rfl, rfl, rfl⟩ := h
 have HR0 := Aside0.mk hr0
 have HC0 := Aside0.mk hc0
 have HL := Aside0.mk hlen
 clear hr0 hc0 hlen
 go_enter Try.func37, Try.ntmps37
 go_wp2
 go_loopw [4] (fun v4 w' => ∃ i : Nat, i ≤ l0.length ∧ i ≤ 128 ∧ v4 = .int .i64 i ∧ Aside0 (w'.heap[w.heap.size + 1]? = some (.cells (brow (upTo l0 i)) 125 (0, 0))) ∧ Aside0 (w'.heap[w.heap.size]? = some (.cells #[.int .i64 0, .int .u64 0, .int .u64 0] 32 (0, 0))) ∧ Aside0 (Below w.heap.size w w')) (fun v4 _ => (128 - intOf v4).toNat)
 case atStart =>
  refine ⟨0, by omega, by omega, rfl, ⟨?_⟩, ⟨?_⟩, ⟨?_⟩⟩
  ·rw [show upTo l0 0 = fun _ => false from funext fun j => by simp [upTo], brow_zero]; simpa using blk_new (w.alloc _) _
  ·exact blk_alloc (blk_new w _) _
  ·exact below_alloc (below_alloc (Below.refl _ _) _) _
 case round =>
  obtain ⟨i, hil, hi128, rfl, H3, H2, HB⟩ := hrel
  by_cases hlt : i < l0.length ∧ i < 128
  ·obtain ⟨h1, h2⟩ := hlt
   have p1 : 0 ≤ (i : Int) := by omega
   have q1 : (i : Int) < (l0.length : Int) := by omega
   obtain ⟨ad, ead, hx⟩ := Kd.at_bool HR0.out i p1 q1
   cases ead
   replace hx := (HB.out.cell (World.block_lt_of_cell? w _ hx)).trans hx
   rw [Int.toNat_natCast] at hx
   have hc1 : wr.cell? ⟨w.heap.size + 1, i, none⟩ = some (.bool (upTo l0 i i)) := (blk_cell H3.out i).trans (brow_get _ _ (by omega))
   have hf : wr.frozen? ⟨w.heap.size + 1, i, none⟩ = false := blk_frozen H3.out i
   have hd : decide ((i : Int) < (l0.length : Int)) = true := decide_eq_true q1
   go_wp2
   go_roundw
   case measure => simp [intOf] <;> omega
   case rel =>
    refine ⟨i + 1, by omega, by omega, by go_num, ⟨?_⟩, ⟨?_⟩, ⟨?_⟩⟩
    ·refine blk_put H3.out i _ ?_
     rw [← upTo_succ, ← brow_set]
     simp [rdOf]
    ·exact blk_far H2.out (by simp) _
    ·exact below_set HB.out (by omega)
  ·have HU : Aside0 (brow (upTo l0 i) = brow (fun j => l0[j]?.getD false)) := ⟨brow_congr fun j hj => upTo_all l0 i j (by omega)⟩
   have HF : Aside0 (l0.length = i ∨ i = 128 ∧ 128 ≤ l0.length) := ⟨by omega⟩
   have H3' := Aside0.mk (show wr.heap[w.heap.size + 1]? = some (.cells (brow (fun j => l0[j]?.getD false)) 125 (0, 0)) from HU.out ▸ H3.out)
   clear H3 hlt
   have HB' := Aside0.mk HB.out
   by_cases hd : (i : Int) < (l0.length : Int)
   ·obtain rfl : i = 128 := by have := HF.out; omega
    replace hd : decide ((128 : Int) < (l0.length : Int)) = true := decide_eq_true (by omega)
    go_wp2_with (first | (refine wpList_load_row rfl 125 (.tmp 3) rfl (w.heap.size + 1) rfl 125 _ (0, 0) _ H3'.out Try.underlying125 rfl (brow_info _) ?_) | (go_at_call 90; refine (shunterref01_Halves.calls0 _ _).mono ?_; rintro e w1 ⟨rfl, hb1⟩; have HB1 := Aside0.mk (below_step HB.out hb1); have H2' := Aside0.mk (blk_below H2.out hb1); have k0 : w1.cell? ⟨w.heap.size, 0, none⟩ = some (.int .i64 0) := blk_cell H2'.out 0; have k1 : w1.cell? ⟨w.heap.size, 1, none⟩ = some (.int .u64 0) := blk_cell H2'.out 1; have k2 : w1.cell? ⟨w.heap.size, 2, none⟩ = some (.int .u64 0) := blk_cell H2'.out 2; have kf : ∀ j, w1.frozen? ⟨w.heap.size, j, none⟩ = false := blk_frozen H2'.out; clear hb1))
    refine bodyPost_ret (results_cell_row rfl _ _ w.heap.size 32 _ (0, 0) _ rfl (blk_set (blk_set (blk_set H2'.out 0 _) 1 _) 2 _) Try.underlying32 rfl (by kernel_rfl)) rfl ⟨rfl, ?_⟩
    exact below_set (below_set (below_set HB1.out (Nat.le_refl _)) (Nat.le_refl _)) (Nat.le_refl _)
   ·replace hd : decide (i < l0.length) = false := decide_eq_false (by omega)
    go_wp2_with (first | (refine wpList_load_row rfl 125 (.tmp 3) rfl (w.heap.size + 1) rfl 125 _ (0, 0) _ H3'.out Try.underlying125 rfl (brow_info _) ?_) | (go_at_call 90; refine (shunterref01_Halves.calls0 _ _).mono ?_; rintro e w1 ⟨rfl, hb1⟩; have HB1 := Aside0.mk (below_step HB.out hb1); have H2' := Aside0.mk (blk_below H2.out hb1); have k0 : w1.cell? ⟨w.heap.size, 0, none⟩ = some (.int .i64 0) := blk_cell H2'.out 0; have k1 : w1.cell? ⟨w.heap.size, 1, none⟩ = some (.int .u64 0) := blk_cell H2'.out 1; have k2 : w1.cell? ⟨w.heap.size, 2, none⟩ = some (.int .u64 0) := blk_cell H2'.out 2; have kf : ∀ j, w1.frozen? ⟨w.heap.size, j, none⟩ = false := blk_frozen H2'.out; clear hb1))
    refine bodyPost_ret (results_cell_row rfl _ _ w.heap.size 32 _ (0, 0) _ rfl (blk_set (blk_set (blk_set H2'.out 0 _) 1 _) 2 _) Try.underlying32 rfl (by kernel_rfl)) rfl ⟨rfl, ?_⟩
    exact below_set (below_set (below_set HB1.out (Nat.le_refl _)) (Nat.le_refl _)) (Nat.le_refl _)
def shunterref02_Bits.f (a0_0 a0_1 a0_2 : Int) : Option (List Bool) :=
 if u64s a0_1 a0_2 then some ((List.range (min a0_0.toNat 128)).map (bitAt a0_1 a0_2)) else none
theorem info4x : (Try.prog.info? 4).map (fun i => (i.zero, i.size, i.bytes)) = some (some (.bool false), 1, 1) := by kernel_rfl
set_option maxHeartbeats 400000 in
set_option maxRecDepth 100000 in
theorem shunterref02_Bits.calls (a0_0 a0_1 a0_2 : Int) (r : List Bool) (w : World) (h : shunterref02_Bits.f a0_0 a0_1 a0_2 = some r) :
 Calls Try.prog 36 #[.agg #[.int .i64 a0_0, .int .u64 a0_1, .int .u64 a0_2]] w fun e w' => ∃ v0_ : Value, e = .returned (v0_) ∧ Kd.R Kd.bool 4 w' w.heap.size (fun _ => True) v0_ r ∧ Below w.heap.size w w' := by
 unfold shunterref02_Bits.f at h
 split at h
 case isFalse => cases h
 rename_i hu
 obtain rfl := Option.some.inj h
 clear h
 have HO := Aside0.mk (show shunterref01_Of.f a0_1 a0_2 = some (bitAt a0_1 a0_2) from if_pos hu)
 clear hu
 go_enter Try.func36, Try.ntmps36
 go_wp2_with (first | ((with_reducible refine gate_dst (N := 3) rfl ?_); refine box_event ?hg (N := 3) ?hd (cs := Try.zeroCells125) (t := 125) ?hr ?_; (case hd => rfl); (case hg => rfl); (case hr => first | (go_simp; done) | (go_simp; rfl)); intro g hg w3 hbox hb; have HB3 := Aside0.mk (below_step HB1.out hb); have H3 := Aside0.mk (blk_below H1.out hb); have HG := Aside0.mk (show w.heap.size + 1 ≤ g by rw [hg]; exact Nat.le_of_lt_succ (by have := blk_lt H1.out; omega)); have HX := Aside0.mk hbox; clear hb hg hbox HB1 H1) | ((with_reducible refine gate_store (t := 125) (p := 3) (v := .tmp 10) rfl ?_); refine wpList_store_row rfl 125 (.tmp 3) (.tmp 10) rfl g (brow _) rfl rfl 125 _ HX.out (brow_info _) (by rw [brow_size]; kernel_rfl) (brow_one _) ?_) | (go_at_call 72; refine (shunterref01_Of.calls _ _ _ _ HO.out).mono ?_; rintro e w1 ⟨rfl, hb1⟩; have HB1 := Aside0.mk (below_step (below_alloc (Below.refl _ _) _) hb1); have H1 := Aside0.mk (blk_below (blk_new w _) hb1); clear hb1))
 have HBB := Aside0.mk (below_setRow HB3.out (show w.heap.size ≤ g by have := HG.out; omega) (brow (bitAt a0_1 a0_2)))
 have HXX := Aside0.mk (setRow_heap w3 g _ (brow (bitAt a0_1 a0_2)) 125 (0, 0) HX.out)
 have HPP := Aside0.mk ((setRow_other w3 g w.heap.size (brow (bitAt a0_1 a0_2)) (by have := HG.out; omega)).trans H3.out)
 go_loopw [4, 5] (fun v4 v5 w' => ∃ i : Nat, i ≤ min a0_0.toNat 128 ∧ v5 = .int .i64 i ∧ Aside0 (w'.heap[g]? = some (.cells (brow (bitAt a0_1 a0_2)) 125 (0, 0))) ∧ Aside0 (w'.heap[w.heap.size]? = some (.cells #[.int .i64 a0_0, .int .u64 a0_1, .int .u64 a0_2] 32 (0, 0))) ∧ Aside0 (Kd.R Kd.bool 4 w' w.heap.size (fun k => k ≠ g ∧ k ≠ w.heap.size) v4 ((List.range i).map (bitAt a0_1 a0_2))) ∧ Aside0 (Below w.heap.size w w')) (fun _ v5 _ => (128 - intOf v5).toNat)
 case atStart => exact ⟨0, by omega, rfl, HXX, HPP, ⟨Kd.R_nil _ _ _ _ _⟩, HBB⟩
 case round =>
  clear HBB HXX HPP HX H3 HB3
  obtain ⟨i, hi, rfl, HX, HP, HR, HB⟩ := hrel
  have c0 : wr.cell? ⟨w.heap.size, 0, none⟩ = some (.int .i64 a0_0) := blk_cell HP.out 0
  by_cases hlt : i < min a0_0.toNat 128
  ·have h1 : (i : Int) < a0_0 := by omega
   have h2 : i < 128 := by omega
   have cg : wr.cell? ⟨g, i, none⟩ = some (.bool (bitAt a0_1 a0_2 i)) := (blk_cell HX.out i).trans (brow_get _ _ h2)
   go_wp2_with (first | ((with_reducible refine gate_builtin (b := .append) (xs := #[.tmp 21, .tmp 25]) rfl ?_); at_builtin; refine Kd.R_append Kd.bool (w0 := w) w.heap.size rfl (.tmp 21) (.tmp 25) 63 4 (.bool false) 1 rfl Try.underlying63 info4x rfl (by decide) (by omega) u4 ((List.range i).map (bitAt a0_1 a0_2)) (bitAt a0_1 a0_2 i) [.bool (bitAt a0_1 a0_2 i)] (fun k => k ≠ g ∧ k ≠ w.heap.size) (fun _ => False) rfl rfl ?aP (fun _ hk => hk.elim) ?aF ?aO ?aB ?aS ?aL ?_; (case aP => exact rfl); (case aB => exact HB.out); (case aF => exact fun k hk => ⟨by have := blk_lt HX.out; omega, by have := blk_lt HP.out; omega⟩); (case aO => exact HR.out); (case aS => exact below_size HB.out); (case aL => simp; omega); intro v7 w7 ho hb hg hat; have HR7 := Aside0.mk ho; have HB7 := Aside0.mk hb; have HX7 := Aside0.mk (blk_grown HX.out hg (fun he => (HR.out.1 g he.symm).1 rfl)); have HP7 := Aside0.mk (blk_grown HP.out hg (fun he => (HR.out.1 w.heap.size he.symm).2 rfl)); clear ho hb hg hat))
   go_roundw
   case measure => simp [intOf] <;> omega
   case rel => exact ⟨i + 1, by omega, by go_num, HX7, HP7, ⟨by rw [List.range_succ, List.map_append]; exact HR7.out⟩, HB7⟩
  ·have HE := Aside0.mk (show i = min a0_0.toNat 128 by omega)
   clear hi hlt
   by_cases h1 : (i : Int) < a0_0
   ·obtain rfl : i = 128 := by have := HE.out; omega
    replace h1 : decide ((128 : Int) < a0_0) = true := decide_eq_true (by omega)
    go_wp2
    go_ret
    exact ⟨_, rfl, HE.out ▸ Kd.R_mono HR.out (fun _ _ => trivial), HB.out⟩
   ·replace h1 : decide ((i : Int) < a0_0) = false := decide_eq_false h1
    go_wp2
    go_ret
    exact ⟨_, rfl, HE.out ▸ Kd.R_mono HR.out (fun _ _ => trivial), HB.out⟩
def shunterref02_May.f (a0_0 : Int) (a0_1 : Int) (a0_2 : Int) : Option (Bool) := if a0_0 ≥ 1 then (if a0_0 ≤ 128 then ((shunterref01_Of.f a0_1 a0_2).bind fun t205 => ((shunterref01_Len.f t205).bind fun t206 => (some (decide (t206 ≤ a0_0))))) else (some false)) else (some false)
def shunterref02_May.T1 : Bool × List (List Nat × List Nat) := (true, [([], []), ([0], [0]), ([1], [1]), ([2], [2]), ([3], [3]), ([4, 3], [3, 4]), ([5, 3], [3, 5]), ([3, 6], [3, 6]), ([7, 3], [7]), ([8], [8]), ([9, 8], [8, 9]), ([8], [8]), ([11, 8], [8, 11]), ([10, 12, 8, 8], [8, 10, 12]), ([13, 13, 8], [8, 13]), ([8], [8]), ([15, 8], [8, 15]), ([14, 16, 8], [8, 14, 16]), ([8, 17], [8, 17]), ([18, 14, 0, 1, 2, 3, 4, 5, 6, 7, 8, 9, 10, 11, 12, 13, 14, 15, 16, 17, 18], [18])])
def shunterref02_May.B1 : List Nat := [0, 1, 3, 7, 15, 31, 63, 127, 255, 511, 1023, 511, 2559, 8191, 16383, 511, 33279, 131071, 262143, 524287]
theorem shunterref02_May.tab1 : rtab .any (opsOf Try.f20 1) = shunterref02_May.T1 := by kernel_rfl
theorem shunterref02_May.bits1 : waitsOk shunterref02_May.T1.2 shunterref02_May.B1 = true := by kernel_rfl
set_option maxHeartbeats 8000000 in
set_option maxRecDepth 100000 in
theorem shunterref02_May.calls (a0_0 : Int) (a0_1 : Int) (a0_2 : Int) (r : Bool) (w : World) (h : shunterref02_May.f a0_0 a0_1 a0_2 = some r) :
 Calls Try.prog 20 #[.agg #[.int .i64 a0_0, .int .u64 a0_1, .int .u64 a0_2]] w fun e w' => e = .returned (.bool r) ∧ Below w.heap.size w w' := by
 have hu32 := Try.underlying32
 have HB := Aside0.mk (Below.refl w.heap.size w)
 have H : (if a0_0 ≥ 1 then (if a0_0 ≤ 128 then ((shunterref01_Of.f a0_1 a0_2).bind fun t205 => ((shunterref01_Len.f t205).bind fun t206 => (some (decide (t206 ≤ a0_0))))) else (some false)) else (some false)) = some r := h
 clear h
 by_cases c2 : a0_0 ≥ 1
 ·rw [if_pos c2] at H
  have c2b0 : decide (1 ≤ a0_0) = true := decide_eq_true c2
  clear c2
  by_cases c3 : a0_0 ≤ 128
  ·rw [if_pos c3] at H
   have c3b0 : decide (a0_0 ≤ 128) = true := decide_eq_true c3
   clear c3
   replace H := Option.bind_eq_some_iff.mp H
   obtain ⟨t205, A40, H⟩ := H
   replace H : ((shunterref01_Len.f t205).bind fun t206 => (some (decide (t206 ≤ a0_0)))) = some r := H
   have A4 := Aside0.mk A40
   clear A40
   replace H := Option.bind_eq_some_iff.mp H
   obtain ⟨t206, A50, H⟩ := H
   replace H : (some (decide (t206 ≤ a0_0))) = some r := H
   have A5 := Aside0.mk A50
   clear A50
   obtain rfl := Option.some.inj H
   go_enter Try.func20, Try.ntmps20
   try go_wp2_with (first | ((with_reducible refine gate_dst (N := 1) rfl ?_); refine box_event ?hg (N := 1) ?hd (cs := #[.int .i64 a0_0, .int .u64 a0_1, .int .u64 a0_2]) (t := 32) ?hr ?_; (case hd => rfl); (case hg => rfl); (case hr => first | (go_simp; done) | (go_simp; rfl)); intro gb204 hg w6 hbox hb; have BK204 := Aside0.mk (hbox); have GW204 := Aside0.mk ((by rw [hg]; exact (below_size (by repeat (first | (with_reducible first | exact HB.out | apply below_alloc | apply pw_below_drewN | apply below_drew1) | exact HB.out))) : w.heap.size ≤ gb204)); have GE204 := GW204; replace HB := Aside0.mk (below_step (by repeat (first | (with_reducible first | exact HB.out | apply below_alloc | apply pw_below_drewN | apply below_drew1) | exact HB.out)) hb); clear hb hbox hg))
   replace BK204 := Aside0.mk (blk_drew BK204.out)
   replace HB := Aside0.mk (below_drew1 HB.out)
   refine start_ (n := 20) (S := fun w' => w'.cell? ⟨gb204, 0, none⟩ = some (.int .i64 a0_0) ∧ w'.cell? ⟨gb204, 1, none⟩ = some (.int .u64 a0_1) ∧ w'.cell? ⟨gb204, 2, none⟩ = some (.int .u64 a0_2)) (ds := []) #[false, false, false, false, false, false, false, false, false, false, false, false, false, false, false, false, false, false, false, false] (by kernel_rfl) rfl rfl ⟨(blk_cell BK204.out 0).trans rfl, (blk_cell BK204.out 1).trans rfl, (blk_cell BK204.out 2).trans rfl⟩ (fun hHeld => ?_); refine with_tabW shunterref02_May.tab1 shunterref02_May.bits1 (fun HT_ HW_ => ?_)
   generalize w6.drew = w7 at BK204 HB hHeld ⊢
   refine pl_ [0, 1, 2, 3, 4, 5, 6, 7, 8, 9, 11, 15, 10, 12, 16] ?_
   refine qP rfl rfl ?_ (hc := any_of HT_.out (by kernel_rfl))
   refine yT hHeld rfl rfl ?_ (by rintro w' ⟨s0, s1, s2⟩; go_simp; with_reducible rfl) (hc := take_ofW HT_.out HW_.out (by kernel_rfl))
   iterate 3 refine qP rfl rfl ?_ (hc := any_of HT_.out (by kernel_rfl))
   refine yT hHeld rfl rfl ?_ (by rintro w' ⟨s0, s1, s2⟩; go_simp; with_reducible rfl) (hc := take_ofW HT_.out HW_.out (by kernel_rfl))
   iterate 6 refine qP rfl rfl ?_ (hc := any_of HT_.out (by kernel_rfl))
   iterate 3 refine yT hHeld rfl rfl ?_ (by rintro w' ⟨s0, s1, s2⟩; go_simp; with_reducible rfl) (hc := take_ofW HT_.out HW_.out (by kernel_rfl))
   refine pl0 ?_
   refine one_ (i := 13) (N := some 16) #[true, true, true, true, true, true, true, true, true, true, true, true, true, true, false, true, true, false, false, false] rfl rfl (one_of HT_.out (by kernel_rfl)) (by decide) (fun K hK => ?_)
   refine goes_ Try.func72 (by kernel_rfl) rfl #[.int .u64 a0_1, .int .u64 a0_2] (by rfl) rfl rfl (by (try simp only [List.map_toArray, List.map_cons, List.map_nil]); first | done | rfl | (simp only [List.length_drop, List.length_take]; rfl)) ?_
   with_reducible refine (shunterref01_Of.calls a0_1 a0_2 t205 _ A4.out).mono ?_
   rintro e w8 ⟨rfl, hb⟩
   refine ⟨_, rfl, ?_⟩
   replace BK204 := bk1 (by (with_reducible repeat (first | refine blk_drewN ?_ _ | refine blk_drew ?_ | refine blk_alloc ?_ _)); exact BK204.out) hb
   replace HB := Aside0.mk (below_step (by repeat (first | (with_reducible first | exact HB.out | apply below_alloc | apply pw_below_drewN | apply below_drew1 | refine below_set ?_ GE204.out) | exact HB.out)) hb)
   (try clear hb)
   (try clear hb2)
   (try clear hk)
   (try clear hi)
   refine hK.out _ _ ⟨(blk_cell BK204.out 0).trans rfl, (blk_cell BK204.out 1).trans rfl, (blk_cell BK204.out 2).trans rfl⟩ (fun hHeld => ?_)
   clear hK K
   refine norm_ (a' := ?_) ?_ ?_
   rotate_left
   ·show Act.put _ (some 16) _ = _
    simp only [Act.put, List.setIfInBounds_toArray, List.set_cons_zero, List.set_cons_succ, i64_w, i32_w]
    rfl
   refine one_ (i := 14) (N := some 17) #[true, true, true, true, true, true, true, true, true, true, true, true, true, true, true, true, true, false, false, false] rfl rfl (one_of HT_.out (by kernel_rfl)) (by decide) (fun K hK => ?_)
   refine goes_ Try.func71 (by kernel_rfl) rfl #[.agg (brow t205)] (by rfl) rfl rfl (by (try simp only [List.map_toArray, List.map_cons, List.map_nil]); first | done | rfl | (simp only [List.length_drop, List.length_take]; rfl)) ?_
   with_reducible refine (shunterref01_Len.calls t205 t206 _ A5.out).mono ?_
   rintro e w9 ⟨rfl, hb⟩
   refine ⟨_, rfl, ?_⟩
   replace BK204 := bk1 (by (with_reducible repeat (first | refine blk_drewN ?_ _ | refine blk_drew ?_ | refine blk_alloc ?_ _)); exact BK204.out) hb
   replace HB := Aside0.mk (below_step (by repeat (first | (with_reducible first | exact HB.out | apply below_alloc | apply pw_below_drewN | apply below_drew1 | refine below_set ?_ GE204.out) | exact HB.out)) hb)
   (try clear hb)
   (try clear hb2)
   (try clear hk)
   (try clear hi)
   refine hK.out _ _ ⟨(blk_cell BK204.out 0).trans rfl, (blk_cell BK204.out 1).trans rfl, (blk_cell BK204.out 2).trans rfl⟩ (fun hHeld => ?_)
   clear hK K
   refine norm_ (a' := ?_) ?_ ?_
   rotate_left
   ·show Act.put _ (some 17) _ = _
    simp only [Act.put, List.setIfInBounds_toArray, List.set_cons_zero, List.set_cons_succ, i64_w, i32_w]
    rfl
   refine pl_ [17, 18, 19] ?_
   iterate 3 refine qP rfl rfl ?_ (hc := any_of HT_.out (by kernel_rfl))
   refine pl0 ?_
   refine done_ (done_of HT_.out (by kernel_rfl)) ?_
   try go_wp2
   go_ret
   exact ⟨by first | rfl | (simp [errW_none, errW_some] <;> rfl) | (simp [*, errW_none, errW_some] <;> rfl), by repeat (first | (with_reducible first | exact HB.out | apply below_alloc | apply pw_below_drewN | apply below_drew1 | refine below_set ?_ GE204.out) | exact HB.out)⟩
  ·rw [if_neg c3] at H
   have c3b0 : decide (a0_0 ≤ 128) = false := decide_eq_false c3
   clear c3
   obtain rfl := Option.some.inj H
   go_enter Try.func20, Try.ntmps20
   try go_wp2_with (first | ((with_reducible refine gate_dst (N := 1) rfl ?_); refine box_event ?hg (N := 1) ?hd (cs := #[.int .i64 a0_0, .int .u64 a0_1, .int .u64 a0_2]) (t := 32) ?hr ?_; (case hd => rfl); (case hg => rfl); (case hr => first | (go_simp; done) | (go_simp; rfl)); intro gb204 hg w10 hbox hb; have BK204 := Aside0.mk (hbox); have GW204 := Aside0.mk ((by rw [hg]; exact (below_size (by repeat (first | (with_reducible first | exact HB.out | apply below_alloc | apply pw_below_drewN | apply below_drew1) | exact HB.out))) : w.heap.size ≤ gb204)); have GE204 := GW204; replace HB := Aside0.mk (below_step (by repeat (first | (with_reducible first | exact HB.out | apply below_alloc | apply pw_below_drewN | apply below_drew1) | exact HB.out)) hb); clear hb hbox hg))
   replace BK204 := Aside0.mk (blk_drew BK204.out)
   replace HB := Aside0.mk (below_drew1 HB.out)
   refine start_ (n := 20) (S := fun w' => w'.cell? ⟨gb204, 0, none⟩ = some (.int .i64 a0_0) ∧ w'.cell? ⟨gb204, 1, none⟩ = some (.int .u64 a0_1) ∧ w'.cell? ⟨gb204, 2, none⟩ = some (.int .u64 a0_2)) (ds := []) #[false, false, false, false, false, false, false, false, false, false, false, false, false, false, false, false, false, false, false, false] (by kernel_rfl) rfl rfl ⟨(blk_cell BK204.out 0).trans rfl, (blk_cell BK204.out 1).trans rfl, (blk_cell BK204.out 2).trans rfl⟩ (fun hHeld => ?_); refine with_tabW shunterref02_May.tab1 shunterref02_May.bits1 (fun HT_ HW_ => ?_)
   generalize w10.drew = w11 at BK204 HB hHeld ⊢
   refine pl_ [0, 1, 2, 3, 4, 5, 6, 7, 8, 9, 10, 11, 12, 13, 14, 15, 16, 17, 18, 19] ?_
   refine qP rfl rfl ?_ (hc := any_of HT_.out (by kernel_rfl))
   refine yT hHeld rfl rfl ?_ (by rintro w' ⟨s0, s1, s2⟩; go_simp; with_reducible rfl) (hc := take_ofW HT_.out HW_.out (by kernel_rfl))
   iterate 3 refine qP rfl rfl ?_ (hc := any_of HT_.out (by kernel_rfl))
   refine yT hHeld rfl rfl ?_ (by rintro w' ⟨s0, s1, s2⟩; go_simp; with_reducible rfl) (hc := take_ofW HT_.out HW_.out (by kernel_rfl))
   iterate 3 refine qP rfl rfl ?_ (hc := any_of HT_.out (by kernel_rfl))
   iterate 9 refine qU rfl rfl ?_ (hc := any_of HT_.out (by kernel_rfl))
   iterate 2 refine qP rfl rfl ?_ (hc := any_of HT_.out (by kernel_rfl))
   refine pl0 ?_
   refine done_ (done_of HT_.out (by kernel_rfl)) ?_
   try go_wp2
   go_ret
   exact ⟨by first | rfl | (simp [errW_none, errW_some] <;> rfl) | (simp [*, errW_none, errW_some] <;> rfl), by repeat (first | (with_reducible first | exact HB.out | apply below_alloc | apply pw_below_drewN | apply below_drew1 | refine below_set ?_ GE204.out) | exact HB.out)⟩
 ·rw [if_neg c2] at H
  have c2b0 : decide (1 ≤ a0_0) = false := decide_eq_false c2
  clear c2
  obtain rfl := Option.some.inj H
  go_enter Try.func20, Try.ntmps20
  try go_wp2_with (first | ((with_reducible refine gate_dst (N := 1) rfl ?_); refine box_event ?hg (N := 1) ?hd (cs := #[.int .i64 a0_0, .int .u64 a0_1, .int .u64 a0_2]) (t := 32) ?hr ?_; (case hd => rfl); (case hg => rfl); (case hr => first | (go_simp; done) | (go_simp; rfl)); intro gb204 hg w12 hbox hb; have BK204 := Aside0.mk (hbox); have GW204 := Aside0.mk ((by rw [hg]; exact (below_size (by repeat (first | (with_reducible first | exact HB.out | apply below_alloc | apply pw_below_drewN | apply below_drew1) | exact HB.out))) : w.heap.size ≤ gb204)); have GE204 := GW204; replace HB := Aside0.mk (below_step (by repeat (first | (with_reducible first | exact HB.out | apply below_alloc | apply pw_below_drewN | apply below_drew1) | exact HB.out)) hb); clear hb hbox hg))
  replace BK204 := Aside0.mk (blk_drew BK204.out)
  replace HB := Aside0.mk (below_drew1 HB.out)
  refine start_ (n := 20) (S := fun w' => w'.cell? ⟨gb204, 0, none⟩ = some (.int .i64 a0_0) ∧ w'.cell? ⟨gb204, 1, none⟩ = some (.int .u64 a0_1) ∧ w'.cell? ⟨gb204, 2, none⟩ = some (.int .u64 a0_2)) (ds := []) #[false, false, false, false, false, false, false, false, false, false, false, false, false, false, false, false, false, false, false, false] (by kernel_rfl) rfl rfl ⟨(blk_cell BK204.out 0).trans rfl, (blk_cell BK204.out 1).trans rfl, (blk_cell BK204.out 2).trans rfl⟩ (fun hHeld => ?_); refine with_tabW shunterref02_May.tab1 shunterref02_May.bits1 (fun HT_ HW_ => ?_)
  generalize w12.drew = w13 at BK204 HB hHeld ⊢
  refine pl_ [0, 1, 2, 3, 4, 5, 6, 7, 8, 9, 10, 11, 12, 13, 14, 15, 16, 17, 18, 19] ?_
  refine qP rfl rfl ?_ (hc := any_of HT_.out (by kernel_rfl))
  refine yT hHeld rfl rfl ?_ (by rintro w' ⟨s0, s1, s2⟩; go_simp; with_reducible rfl) (hc := take_ofW HT_.out HW_.out (by kernel_rfl))
  iterate 2 refine qP rfl rfl ?_ (hc := any_of HT_.out (by kernel_rfl))
  iterate 3 refine qU rfl rfl ?_ (hc := any_of HT_.out (by kernel_rfl))
  iterate 2 refine qP rfl rfl ?_ (hc := any_of HT_.out (by kernel_rfl))
  iterate 9 refine qU rfl rfl ?_ (hc := any_of HT_.out (by kernel_rfl))
  iterate 2 refine qP rfl rfl ?_ (hc := any_of HT_.out (by kernel_rfl))
  refine pl0 ?_
  refine done_ (done_of HT_.out (by kernel_rfl)) ?_
  try go_wp2
  go_ret
  exact ⟨by first | rfl | (simp [errW_none, errW_some] <;> rfl) | (simp [*, errW_none, errW_some] <;> rfl), by repeat (first | (with_reducible first | exact HB.out | apply below_alloc | apply pw_below_drewN | apply below_drew1 | refine below_set ?_ GE204.out) | exact HB.out)⟩
end Go.Proofs.Ytfdbcnbakchcgaa.XQ
