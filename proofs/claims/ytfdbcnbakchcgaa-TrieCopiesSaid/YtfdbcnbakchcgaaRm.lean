import Derived.Test.YtfdbcnbakchcgaaRp
import Derived.Test.YtfdbcnbakchcgaaSr
namespace Go.Proofs.Ytfdbcnbakchcgaa.XR
open Go.RowKit Go.Proofs.YtfdbcnbakchcgaaW.PrintWords Go.Proofs.YtfdbcnbakchcgaaW.PrintLast Go.Proofs.YtfdbcnbakchcgaaW.PrintMore
attribute [local go_sem] max2_int min2_int max_two min_two max_three min_three max_four min_four   -- for this text's walks alone
set_option linter.unusedVariables false
set_option linter.unusedSimpArgs false
abbrev NM := Nat → Nat → Option (Nat × Bool × Int)
def ptrN (o : Option (Nat × Bool × Int)) : Value := .pointer (o.map fun t => ⟨t.1, 0, none⟩)
def sonP (M : NM) (i k : Nat) : Value := ptrN (M i k)
def setM (M : NM) (i k : Nat) (t : Option (Nat × Bool × Int)) : NM := fun a b => if a = i ∧ b = k then t else M a b
theorem setM_at (M : NM) (i k : Nat) (t : Option (Nat × Bool × Int)) : setM M i k t i k = t := if_pos ⟨rfl, rfl⟩
theorem setM_off (M : NM) (i k : Nat) (t : Option (Nat × Bool × Int)) {a b : Nat} (h : ¬ (a = i ∧ b = k)) : setM M i k t a b = M a b := if_neg h
def nodeO (M : NM) (i k : Nat) (h : Bool) (n : Int) : Obj := .cells #[sonP M (i + 1) (2 * k), sonP M (i + 1) (2 * k + 1), .bool h, .int .i64 n] 116 (0, 0)
structure NT (w : World) (base : Nat) (M : NM) : Prop where
  cell : ∀ i k b h n, M i k = some (b, h, n) → w.heap[b]? = some (nodeO M i k h n)
  inj : ∀ i k i' k' t t', M i k = some t → M i' k' = some t' → t.1 = t'.1 → i = i' ∧ k = k'
  ge : ∀ i k t, M i k = some t → base ≤ t.1
/-- Is a block a node's. -/
def isN (M : NM) (g : Nat) : Prop := ∃ i k t, M i k = some t ∧ t.1 = g
theorem NT.lt {w : World} {base : Nat} {M : NM} (h : NT w base M) {g : Nat} (hg : isN M g) : g < w.heap.size := by
  obtain ⟨i, k, ⟨b, h1, n⟩, hm, rfl⟩ := hg
  exact blk_lt (h.cell i k b h1 n hm)
theorem NT.move {w w1 : World} {base : Nat} {M : NM} (h : NT w base M) (hk : ∀ g, isN M g → w1.heap[g]? = w.heap[g]?) : NT w1 base M :=
  ⟨fun i k b h1 n hm => (hk b ⟨i, k, _, hm, rfl⟩).trans (h.cell i k b h1 n hm), h.inj, h.ge⟩
theorem NT.step {w w1 : World} {base : Nat} {M : NM} (h : NT w base M) (hb : Below w.heap.size w w1) : NT w1 base M := h.move (fun g hg => hb.block g (h.lt hg))
theorem NT.kept {w w1 : World} {base : Nat} {M : NM} {S : Nat → Prop} (h : NT w base M) (hk : Kept w w1 S) (hs : ∀ g, isN M g → ¬ S g) : NT w1 base M := h.move (fun g hg => hk.2 g (h.lt hg) (hs g hg))
/-- Another mark and number at a node. -/
theorem NT.mark {w w1 : World} {base : Nat} {M : NM} (h : NT w base M) {i k b : Nat} {h0 : Bool} {n0 : Int} (hm : M i k = some (b, h0, n0)) (h1 : Bool) (n1 : Int)
    (hb : w1.heap[b]? = some (nodeO M i k h1 n1)) (ho : ∀ g, g ≠ b → g < w.heap.size → w1.heap[g]? = w.heap[g]?) : NT w1 base (setM M i k (some (b, h1, n1))) := by
  have hp : ∀ a c, sonP (setM M i k (some (b, h1, n1))) a c = sonP M a c := by
    intro a c
    unfold sonP
    by_cases e : a = i ∧ c = k
    · obtain ⟨rfl, rfl⟩ := e; rw [setM_at, hm]; rfl
    · rw [setM_off _ _ _ _ e]
  have hn : ∀ a c x y, nodeO (setM M i k (some (b, h1, n1))) a c x y = nodeO M a c x y := fun a c x y => by unfold nodeO; rw [hp, hp]
  have hold : ∀ a c t, setM M i k (some (b, h1, n1)) a c = some t → ∃ t0, M a c = some t0 ∧ t0.1 = t.1 := by
    intro a c t ht
    by_cases e : a = i ∧ c = k
    · obtain ⟨rfl, rfl⟩ := e; rw [setM_at] at ht; injection ht with ht; subst ht; exact ⟨_, hm, rfl⟩
    · rw [setM_off _ _ _ _ e] at ht; exact ⟨t, ht, rfl⟩
  refine ⟨fun a c g x y ht => ?_, fun a c a' c' t t' ht ht' e => ?_, fun a c t ht => ?_⟩
  · rw [hn]
    by_cases e : a = i ∧ c = k
    · obtain ⟨rfl, rfl⟩ := e; rw [setM_at] at ht; injection ht with ht; injection ht with e1 e2; injection e2 with e2 e3; subst e1 e2 e3; exact hb
    · rw [setM_off _ _ _ _ e] at ht
      have hc := h.cell a c g x y ht
      exact (ho g (fun hg => e (h.inj a c i k _ _ ht hm hg)) (blk_lt hc)).trans hc
  · obtain ⟨s, hs, e1⟩ := hold a c t ht
    obtain ⟨s', hs', e2⟩ := hold a' c' t' ht'
    exact h.inj a c a' c' s s' hs hs' (by rw [e1, e2, e])
  · obtain ⟨s, hs, e1⟩ := hold a c t ht
    rw [← e1]; exact h.ge a c s hs
/-- A new son. -/
theorem NT.son {w w1 : World} {base : Nat} {M : NM} (h : NT w base M) {i k b s c : Nat} {h0 : Bool} {n0 : Int} (hm : M i k = some (b, h0, n0)) (hs : s < 2) (hno : M (i + 1) (2 * k + s) = none)
    (hc : w.heap.size ≤ c) (hbase : base ≤ w.heap.size) (h1 : M (i + 2) (2 * (2 * k + s)) = none) (h2 : M (i + 2) (2 * (2 * k + s) + 1) = none)
    (hb : w1.heap[b]? = some (nodeO (setM M (i + 1) (2 * k + s) (some (c, false, 0))) i k h0 n0)) (hnew : w1.heap[c]? = some (.cells #[.pointer none, .pointer none, .bool false, .int .i64 0] 116 (0, 0)))
    (ho : ∀ g, g ≠ b → g < w.heap.size → w1.heap[g]? = w.heap[g]?) : NT w1 base (setM M (i + 1) (2 * k + s) (some (c, false, 0))) := by
  have hlt : ∀ a d t, M a d = some t → t.1 < w.heap.size := fun a d t ht => h.lt ⟨a, d, t, ht, rfl⟩
  refine ⟨fun a d g x y ht => ?_, fun a d a' d' t t' ht ht' e => ?_, fun a d t ht => ?_⟩
  · by_cases e : a = i + 1 ∧ d = 2 * k + s
    · obtain ⟨rfl, rfl⟩ := e
      rw [setM_at] at ht; injection ht with ht; injection ht with e1 e2; injection e2 with e2 e3; subst e1 e2 e3
      rw [hnew]
      unfold nodeO sonP
      rw [setM_off _ _ _ _ (by omega), setM_off _ _ _ _ (by omega), show i + 1 + 1 = i + 2 from rfl, h1, h2]
      rfl
    · rw [setM_off _ _ _ _ e] at ht
      by_cases e2 : a = i ∧ d = k
      · obtain ⟨rfl, rfl⟩ := e2
        rw [hm] at ht; injection ht with ht; injection ht with e1 e2; injection e2 with e2 e3; subst e1 e2 e3
        exact hb
      · have hcl := h.cell a d g x y ht
        have hsame : nodeO (setM M (i + 1) (2 * k + s) (some (c, false, 0))) a d x y = nodeO M a d x y := by
          unfold nodeO sonP
          rw [setM_off _ _ _ _ (by omega), setM_off _ _ _ _ (by omega)]
        rw [hsame]
        exact (ho g (fun hg => e2 (h.inj a d i k _ _ ht hm hg)) (blk_lt hcl)).trans hcl
  · by_cases e1 : a = i + 1 ∧ d = 2 * k + s
    · by_cases e2 : a' = i + 1 ∧ d' = 2 * k + s
      · omega
      · obtain ⟨rfl, rfl⟩ := e1
        rw [setM_at] at ht; rw [setM_off _ _ _ _ e2] at ht'; injection ht with ht; subst ht
        have := hlt a' d' t' ht'
        simp only at e; omega
    · by_cases e2 : a' = i + 1 ∧ d' = 2 * k + s
      · obtain ⟨rfl, rfl⟩ := e2
        rw [setM_at] at ht'; rw [setM_off _ _ _ _ e1] at ht; injection ht' with ht'; subst ht'
        have := hlt a d t ht
        simp only at e; omega
      · rw [setM_off _ _ _ _ e1] at ht; rw [setM_off _ _ _ _ e2] at ht'
        exact h.inj a d a' d' t t' ht ht' e
  · by_cases e1 : a = i + 1 ∧ d = 2 * k + s
    · obtain ⟨rfl, rfl⟩ := e1
      rw [setM_at] at ht; injection ht with ht; subst ht; simp only; omega
    · rw [setM_off _ _ _ _ e1] at ht; exact h.ge a d t ht
/-- A son cut off. -/
theorem NT.cut {w w1 : World} {base : Nat} {M : NM} (h : NT w base M) {i k b s : Nat} {h0 : Bool} {n0 : Int} (hm : M i k = some (b, h0, n0)) (hs : s < 2)
    (hb : w1.heap[b]? = some (nodeO (setM M (i + 1) (2 * k + s) none) i k h0 n0)) (ho : ∀ g, g ≠ b → g < w.heap.size → w1.heap[g]? = w.heap[g]?) : NT w1 base (setM M (i + 1) (2 * k + s) none) := by
  have hold : ∀ a c t, setM M (i + 1) (2 * k + s) none a c = some t → M a c = some t := by
    intro a c t ht
    by_cases e : a = i + 1 ∧ c = 2 * k + s
    · obtain ⟨rfl, rfl⟩ := e; rw [setM_at] at ht; cases ht
    · rwa [setM_off _ _ _ _ e] at ht
  refine ⟨fun a d g x y ht => ?_, fun a c a' c' t t' ht ht' e => h.inj a c a' c' t t' (hold _ _ _ ht) (hold _ _ _ ht') e, fun a c t ht => h.ge a c t (hold _ _ _ ht)⟩
  have ht2 := hold _ _ _ ht
  by_cases e2 : a = i ∧ d = k
  · obtain ⟨rfl, rfl⟩ := e2
    rw [hm] at ht2; injection ht2 with ht2; injection ht2 with e1 e2; injection e2 with e2 e3; subst e1 e2 e3
    exact hb
  · have hcl := h.cell a d g x y ht2
    have hsame : nodeO (setM M (i + 1) (2 * k + s) none) a d x y = nodeO M a d x y := by
      unfold nodeO sonP
      rw [setM_off _ _ _ _ (by omega), setM_off _ _ _ _ (by omega)]
    rw [hsame]
    exact (ho g (fun hg => e2 (h.inj a d i k _ _ ht2 hm hg)) (blk_lt hcl)).trans hcl
/-- A trie in memory. -/
structure KT (w0 w : World) (g : Nat) (M : NM) (W m N : Int) : Prop where
  blk : w.heap[g]? = some (.cells #[sonP M 0 0, .int .i64 W, .int .i64 m, .int .i64 N] 118 (0, 0))
  nt : NT w w0.heap.size M
  ge : w0.heap.size ≤ g
  below : Below w0.heap.size w0 w
theorem KT.step {w0 w w1 : World} {g : Nat} {M : NM} {W m N : Int} (h : KT w0 w g M W m N) (hb : Below w.heap.size w w1) : KT w0 w1 g M W m N :=
  ⟨blk_below h.blk hb, h.nt.step hb, h.ge, h.below.trans ⟨hb.os, hb.tape, hb.output, hb.size, fun i hi => hb.block i (Nat.lt_of_lt_of_le hi h.below.size)⟩⟩
theorem KT.ne {w0 w : World} {g : Nat} {M : NM} {W m N : Int} (h : KT w0 w g M W m N) : ¬ isN M g := by
  rintro ⟨i, k, ⟨b, h1, n⟩, hm, rfl⟩
  exact blk_ne h.blk (h.nt.cell i k b h1 n hm) (by decide) rfl
/-- What the nodes are: the prefixes' beginnings. -/
def SH (M : NM) (l : List TI) : Prop := ∀ i k, (M i k).map (·.2) = nodeAt l i k
theorem SH.no {M : NM} {l : List TI} (h : SH M l) (i k : Nat) : M i k = none ↔ nodeAt l i k = none := by
  rw [← h i k, Option.map_eq_none_iff]
theorem SH.yes {M : NM} {l : List TI} (h : SH M l) {i k b : Nat} {x : Bool} {n : Int} (hm : M i k = some (b, x, n)) : (x, n) = lookT l i k := by
  have := h i k
  rw [hm] at this
  exact nodeAt_some this.symm
theorem SH.up {M : NM} {l : List TI} (h : SH M l) {i k : Nat} (hm : M i (k / 2) = none) : M (i + 1) k = none := (h.no _ _).2 (nodeAt_none_up ((h.no _ _).1 hm))
/-- The number of the beginning of a row. -/
def preN (W X i : Nat) : Nat := X / 2 ^ (W - i)
theorem preN_half (W X i : Nat) (h : i + 1 ≤ W) : preN W X i = preN W X (i + 1) / 2 := by unfold preN; exact div_step X W i h
def bitN (W X i : Nat) : Nat := X / 2 ^ (W - (i + 1)) % 2
theorem preN_succ (W X i : Nat) (h : i + 1 ≤ W) : preN W X (i + 1) = 2 * preN W X i + bitN W X i := by
  rw [preN_half W X i h]; unfold preN bitN; omega
theorem bitN_lt (W X i : Nat) : bitN W X i < 2 := Nat.mod_lt _ (by decide)
theorem SH.down {M : NM} {l : List TI} (h : SH M l) (W X : Nat) {i : Nat} (hm : M i (preN W X i) = none) : ∀ j, i ≤ j → j ≤ W → M j (preN W X j) = none := by
  intro j
  induction j with
  | zero => intro h1 _; rw [show i = 0 by omega] at hm; exact hm
  | succ j ih =>
    intro h1 h2
    by_cases e : i = j + 1
    · subst e; exact hm
    · have := ih (by omega) (by omega)
      rw [preN_half W X j h2] at this
      exact h.up this
end Go.Proofs.Ytfdbcnbakchcgaa.XR
