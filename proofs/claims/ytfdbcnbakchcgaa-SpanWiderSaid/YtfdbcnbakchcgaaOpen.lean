import Derived.Test.YtfdbcnbakchcgaaWMore
import Derived.Test.YtfdbcnbakchcgaaWArr
import Derived.WalkKit
import Derived.ProofKit
import Derived.OpenShut
import Derived.ShutString
import Derived.ChangeOld
import Derived.Below
import Derived.SizedLaws
namespace Go.Proofs.Ytfdbcnbakchcgaa.Open
open Go.ChangeShapes Go.WideShapes Go.ChangeAt Go.RowKit
open Go.Proofs.YtfdbcnbakchcgaaW.PrintWords Go.Proofs.YtfdbcnbakchcgaaW.PrintLast Go.Proofs.YtfdbcnbakchcgaaW.PrintMore
def Opens {α : Type} (P : Program) (W : World) (d : Kd α) (t : TypeId) (ok : α → Prop) : Prop :=
  ∀ (H : Type) (enc : TypeId × Value → H) (fuel : Nat) (cs : List Value) (x : DataW H × List MemPlace),
    DataW.trod enc P W 0 (fun _ => true) true fuel t cs = some x → ∃ a : α, d.K W a cs ∧ ok a
set_option linter.unusedVariables false
variable {P : Program} {W : World} {α : Type}
theorem Opens.mono {d : Kd α} {t : TypeId} {ok ok' : α → Prop} (h : Opens P W d t ok) (hh : ∀ a, ok a → ok' a) : Opens P W d t ok' :=
  fun H enc fuel cs x hx => by
    obtain ⟨a, h1, h2⟩ := h H enc fuel cs x hx
    exact ⟨a, h1, hh a h2⟩
theorem Opens.int {t : TypeId} {k : IntKind} (ht : P.underlying t = some (.int k)) : Opens P W (Kd.int k) t (fun n => (Lit.int k n).wf = true) :=
  fun H enc fuel cs x hx => by
    obtain ⟨n, rfl, _, hw⟩ := DataW.trod_int ht hx
    exact ⟨n, rfl, hw⟩
theorem Opens.bool {t : TypeId} (ht : P.underlying t = some .bool) : Opens P W Kd.bool t (fun _ => True) :=
  fun H enc fuel cs x hx => by
    obtain ⟨n, rfl, _⟩ := DataW.trod_bool ht hx
    exact ⟨n, rfl, trivial⟩
theorem Opens.string {t : TypeId} (ht : P.underlying t = some .string) : Opens P W Kd.string t (fun s => s.size ≤ maxLen) :=
  fun H enc fuel cs x hx => by
    obtain ⟨n, rfl, _, hs⟩ := DataW.trod_string ht hx
    exact ⟨n, rfl, hs⟩
theorem listed {β : Type} {n : Nat} {Q : Nat → β → Prop} (h : ∀ i, i < n → ∃ b, Q i b) : ∃ l : List β, l.length = n ∧ ∀ i b, l[i]? = some b → Q i b := by
  induction n with
  | zero => exact ⟨[], rfl, fun i b hb => by simp at hb⟩
  | succ n ih =>
    obtain ⟨l, hl, hq⟩ := ih (fun i hi => h i (by omega))
    obtain ⟨b, hb⟩ := h n (by omega)
    refine ⟨l ++ [b], by simp [hl], fun i c hc => ?_⟩
    rcases Nat.lt_or_ge i n with hi | hi
    · rw [List.getElem?_append_left (by omega)] at hc
      exact hq i c hc
    · rw [List.getElem?_append_right (by omega)] at hc
      have hi0 : i - l.length = 0 := by
        rcases Nat.eq_zero_or_pos (i - l.length) with h0 | h0
        · exact h0
        · rw [List.getElem?_eq_none (by simp; omega)] at hc; cases hc
      rw [hi0] at hc
      obtain rfl : b = c := by simpa using hc
      obtain rfl : i = n := by omega
      exact hb
theorem Opens.slice {d : Kd α} {t e : TypeId} {ok : α → Prop} (ht : P.underlying t = some (.slice e)) (hs : P.cellsOf e = d.sz) (h : Opens P W d e ok) :
    Opens P W (Kd.slice e d) t (fun l => l.length ≤ maxLen ∧ ∀ a ∈ l, ok a) :=
  fun H enc fuel cs x hx => by
    rcases DataW.trod_slice ht hx with ⟨rfl, _⟩ | ⟨a, len, cap, elems, rest, n, _, rfl, _, _, hlc, hcap, hel, hget, _⟩
    · refine ⟨[], ⟨none, 0, rfl, Nat.le_refl _, ?_⟩, by simp [maxLen], fun a ha => by simp at ha⟩
      exact ⟨rfl, by simp, fun h => absurd h (by simp)⟩
    · obtain ⟨l, hl, hq⟩ := listed (n := len) (Q := fun i b => ok b ∧ ∃ c, W.cells? 0 (a.add (i * P.cellsOf e)) (P.cellsOf e) = some c ∧ d.K W b c) (by
        intro i hi
        have h1 := hget i hi
        have h2 : elems[i]? = some (elems[i]'(by omega)) := List.getElem?_eq_getElem (by omega)
        rw [h2] at h1
        obtain ⟨c, hc, ht'⟩ := Option.bind_eq_some_iff.1 h1
        obtain ⟨b, hb, hok⟩ := h H enc n c _ ht'
        exact ⟨b, hok, c, hc, hb⟩)
      refine ⟨l, ⟨some a, cap, by rw [hl], by omega, ?_⟩, by rw [hl]; exact Nat.le_trans hlc hcap, fun b hb => ?_⟩
      · refine ⟨rfl, by have : maxLen = 9223372036854775807 := rfl; omega, fun _ => ⟨a, rfl, fun j p hp => ?_⟩⟩
        obtain ⟨_, c, hc, hk⟩ := hq j p hp
        obtain ⟨_, hcl, hat⟩ := World.cells?_some hc
        refine ⟨c, d.K_len hk, hk, fun i u hu => ?_⟩
        have hi : i < P.cellsOf e := by
          have := (List.getElem?_eq_some_iff.1 hu).1
          omega
        have h3 := hat i hi
        rw [Addr.add_add, hs] at h3
        rw [h3, ← hu]
      · obtain ⟨i, hi⟩ := List.mem_iff_getElem?.1 hb
        exact (hq i b hi).1
theorem field {d : Kd α} {fs : Array Field} {ok : α → Prop} {H : Type} {enc : TypeId × Value → H} {cs : List Value} {xs : List (DataW H × List MemPlace)} {n : Nat}
    (hlen : xs.length = fs.size) (hf : ∀ (i : Nat) (f : Field), fs[i]? = some f → DataW.trod enc P W 0 (fun _ => true) true n f.type ((cs.drop f.offset).take (P.cellsOf f.type)) = xs[i]?)
    (i : Nat) (f : Field) (hi : fs[i]? = some f) (h : Opens P W d f.type ok) : ∃ a : α, d.K W a ((cs.drop f.offset).take (P.cellsOf f.type)) ∧ ok a := by
  have h1 := hf i f hi
  have h2 : i < xs.length := by rw [hlen]; exact (Array.getElem?_eq_some_iff.1 hi).1
  rw [List.getElem?_eq_getElem h2] at h1
  exact h H enc n _ _ h1
theorem open_slice {d : Kd α} {t e : TypeId} {ok : α → Prop} {H : Type} {enc : TypeId × Value → H} {v : Value} {x : DataW H} {p : List MemPlace} {r : Reach} {b0 : Nat}
    (ht : P.underlying t = some (.slice e)) (hv : Value.okWide P W r b0 t v) (hs : P.cellsOf e = d.sz) (h : Opens P W d e ok) (hh : DataW.Trod enc P W 0 (fun _ => true) true t v x p) :
    ∃ (A : Option Addr) (c : Nat) (l : List α), v = .slice A l.length c ∧ l.length ≤ c ∧ d.C W A l.length l ∧ l.length ≤ maxLen ∧ ∀ a ∈ l, ok a := by
  obtain ⟨a, len, cap, rfl⟩ := okWide_slice ht hv
  obtain ⟨fuel, hf⟩ := hh
  obtain ⟨l, ⟨A, c, hcs, hl, hc⟩, hm, hok⟩ := Opens.slice ht hs h H enc fuel _ _ hf
  refine ⟨A, c, l, ?_, hl, hc, hm, hok⟩
  simpa [Value.cells] using hcs
theorem list3 {l : List Value} (h : l.length = 3) : ∃ c0 c1 c2, l = [c0, c1, c2] := by
  match l, h with
  | [c0, c1, c2], _ => exact ⟨c0, c1, c2, rfl⟩
theorem list5 {l : List Value} (h : l.length = 5) : ∃ c0 c1 c2 c3 c4, l = [c0, c1, c2, c3, c4] := by
  match l, h with
  | [c0, c1, c2, c3, c4], _ => exact ⟨c0, c1, c2, c3, c4, rfl⟩
end Go.Proofs.Ytfdbcnbakchcgaa.Open
