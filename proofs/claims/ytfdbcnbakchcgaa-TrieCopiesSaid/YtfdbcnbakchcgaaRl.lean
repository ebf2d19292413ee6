import Derived.Test.YtfdbcnbakchcgaaSr
import Derived.Test.YtfdbcnbakchcgaaRk
namespace Go.Proofs.Ytfdbcnbakchcgaa.XR
open Go.RowKit Go.Proofs.YtfdbcnbakchcgaaW.PrintWords Go.Proofs.YtfdbcnbakchcgaaW.PrintLast Go.Proofs.YtfdbcnbakchcgaaW.PrintMore
attribute [local go_sem] max2_int min2_int max_two min_two max_three min_three max_four min_four   -- for this text's walks alone
set_option linter.unusedVariables false
set_option linter.unusedSimpArgs false
structure S34 where
 f0 : Int
 f1 : Int
 f2 : Int
 f3 : S32
def z34 : S34 := ⟨0, 0, 0, z32⟩
def k34 : Kd S34 := Kd.iso (Kd.pair (Kd.int .i64) (Kd.pair (Kd.int .i64) (Kd.pair (Kd.int .i64) k32))) (fun x : S34 => (x.f0, x.f1, x.f2, x.f3))
theorem k34_open {w : World} {x : S34} {cs : List Value} (h : k34.K w x cs) : cs = [.int .i64 x.f0, .int .i64 x.f1, .int .i64 x.f2, .int .i64 x.f3.f0, .int .u64 x.f3.f1, .int .u64 x.f3.f2] := by
 obtain ⟨_, _, rfl, rfl, ⟨_, _, rfl, rfl, ⟨_, _, rfl, rfl, s0⟩⟩⟩ := h
 obtain rfl := k32_open s0
 exact rfl
theorem k34_mk (w : World) (x : S34) : k34.K w x [.int .i64 x.f0, .int .i64 x.f1, .int .i64 x.f2, .int .i64 x.f3.f0, .int .u64 x.f3.f1, .int .u64 x.f3.f2] :=
 ⟨[.int .i64 x.f0], _, rfl, rfl, ⟨[.int .i64 x.f1], _, rfl, rfl, ⟨[.int .i64 x.f2], _, rfl, rfl, k32_mk w x.f3⟩⟩⟩
def rd_T34 (xs : List S34) (i : Int) : S34 := xs.getD i.toNat z34
theorem at_T34 {w : World} {A : Option Addr} {n : Nat} {xs : List S34} (h : Kd.C k34 w A n xs) (i : Int) (h0 : 0 ≤ i) (h1 : i < n) : ∃ ad , A = some ad ∧ w.cell? (ad.add (i.toNat * 6)) = some (.int .i64 (rd_T34 xs i).f0) ∧ w.cell? ⟨(ad.add (i.toNat * 6)).block, (ad.add (i.toNat * 6)).off + 1, none⟩ = some (.int .i64 (rd_T34 xs i).f1) ∧ w.cell? ⟨(ad.add (i.toNat * 6)).block, (ad.add (i.toNat * 6)).off + 2, none⟩ = some (.int .i64 (rd_T34 xs i).f2) ∧ w.cell? ⟨(ad.add (i.toNat * 6)).block, (ad.add (i.toNat * 6)).off + 3, none⟩ = some (.int .i64 (rd_T34 xs i).f3.f0) ∧ w.cell? ⟨(ad.add (i.toNat * 6)).block, (ad.add (i.toNat * 6)).off + 4, none⟩ = some (.int .u64 (rd_T34 xs i).f3.f1) ∧ w.cell? ⟨(ad.add (i.toNat * 6)).block, (ad.add (i.toNat * 6)).off + 5, none⟩ = some (.int .u64 (rd_T34 xs i).f3.f2) := by
 obtain ⟨ad, c, e, _, hK, hc0⟩ := Kd.C_get h z34 i h0 h1
 have hc : ∀ j u, c[j]? = some u → w.cell? (ad.add (i.toNat * 6 + j)) = some u := hc0
 obtain rfl := k34_open hK
 exact ⟨ad, e, hc 0 _ rfl, by rw [← add_field _ _ 1 (by omega)]; exact hc 1 _ rfl, by rw [← add_field _ _ 2 (by omega)]; exact hc 2 _ rfl, by rw [← add_field _ _ 3 (by omega)]; exact hc 3 _ rfl, by rw [← add_field _ _ 4 (by omega)]; exact hc 4 _ rfl, by rw [← add_field _ _ 5 (by omega)]; exact hc 5 _ rfl⟩
/-- The prefix of an operation. -/
def opQ (y : S34) : S45 := ⟨y.f3, y.f1, y.f2⟩
/-- The prefixes behind some operations. -/
def runQ (W : Nat) (m : Int) (x : List S45) (ops : List S34) : List S45 := ops.foldl (fun x y => stepQ W m x y.f0 (opQ y)) x
theorem runQ_take (W : Nat) (m : Int) (x : List S45) (ops : List S34) (i : Nat) (hi : i < ops.length) : runQ W m x (ops.take (i + 1)) = stepQ W m (runQ W m x (ops.take i)) (ops[i]).f0 (opQ ops[i]) := by
 unfold runQ
 rw [List.take_succ_eq_append_getElem hi, List.foldl_append]; rfl
theorem runQ_ok (W : Nat) (m : Int) (x : List S45) (hx : SIt W x m) (ops : List S34) (hok : ∀ y ∈ ops, okV y.f3) : ∀ i, i ≤ ops.length → SIt W (runQ W m x (ops.take i)) m
 | 0, _ => by simpa [runQ] using hx
 | i + 1, h => by
  have h1 := runQ_ok W m x hx ops hok i (by omega)
  rw [runQ_take W m x ops i (by omega)]
  exact h1.step _ _ (hok _ (List.getElem_mem _))
theorem SIt_nil (W : Nat) (m : Int) (h : 0 ≤ m) : SIt W [] m := ⟨List.Pairwise.nil, fun y hy => by simp at hy, by simpa using h⟩
theorem tNew_kt (W m : Int) (w : World) (h1 : 1 ≤ W) (h2 : W ≤ 128) (h3 : 1 ≤ m) (h4 : m ≤ 256) :
 Calls Try.prog 16 #[.int .i64 W, .int .i64 m] w fun e w' => e = .returned (.pointer (some ⟨w.heap.size + 1, 0, none⟩)) ∧ KT w w' (w.heap.size + 1) (newM w.heap.size) W m 0 := by
 refine (tNew_ok W m w h1 h2 h3 h4).mono ?_
 rintro e w' ⟨rfl, rfl⟩
 exact ⟨rfl, KT_new w W m⟩
theorem STt_new {w w1 : World} {g b : Nat} {W : Nat} {m : Int} (h : KT w w1 g (newM b) (W : Int) m 0) : STt w w1 g (newM b) (.slice none 0 0) [] [] W m := ⟨h, SH_new b, Kd.R_nil _ _ _ _ _⟩
end Go.Proofs.Ytfdbcnbakchcgaa.XR
