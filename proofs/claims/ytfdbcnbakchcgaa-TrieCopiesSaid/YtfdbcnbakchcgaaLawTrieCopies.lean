import Derived.Test.YtfdbcnbakchcgaaRows
import Derived.Test.YtfdbcnbakchcgaaRz
import Derived.Test.YtfdbcnbakchcgaaOpen
import Derived.WalkKit
import Derived.ProofKit
import Derived.OpenShut
import Derived.ShutString
import Derived.ChangeOld
import Derived.Below
import Derived.SizedLaws
namespace Go.Proofs.Ytfdbcnbakchcgaa.trieCopies
open Go.ChangeShapes Go.WideShapes Go.ChangeAt Go.RowKit
open Go.ChangeMaps (open_string shut_string)
open Go.Proofs.YtfdbcnbakchcgaaW.PrintWords Go.Proofs.YtfdbcnbakchcgaaW.PrintLast Go.Proofs.YtfdbcnbakchcgaaW.PrintMore
set_option linter.unusedVariables false
theorem own : ownKnob Try.prog.godebug = none := by kernel_rfl
theorem laidOut : laidOutB Try.prog = true := by kernel_rfl
theorem Open.list6 {α : Type} : ∀ {l : List α}, l.length = 6 → ∃ a b c d e f, l = [a, b, c, d, e, f]
  | [a, b, c, d, e, f], _ => ⟨a, b, c, d, e, f, rfl⟩
theorem wf_u64 {x : Int} (h : (Lit.int .u64 x).wf = true) : 0 ≤ x ∧ x < 2 ^ 64 := by
  simp only [Lit.wf, Bool.and_eq_true, decide_eq_true_eq] at h
  have e1 : IntKind.u64.min = 0 := by decide
  have e2 : IntKind.u64.max = 18446744073709551615 := by decide
  omega
theorem wf_vec {x y : Int} (h : (Lit.int .u64 x).wf = true) (h2 : (Lit.int .u64 y).wf = true) : 0 ≤ x ∧ x < 2 ^ 64 ∧ 0 ≤ y ∧ y < 2 ^ 64 := ⟨(wf_u64 h).1, (wf_u64 h).2, (wf_u64 h2).1, (wf_u64 h2).2⟩
set_option maxRecDepth 100000 in
theorem opens_k32 {W : World} : Open.Opens Try.prog W XR.k32 32 (fun x => (Lit.int .i64 x.f0).wf = true ∧ (Lit.int .u64 x.f1).wf = true ∧ (Lit.int .u64 x.f2).wf = true) := fun H enc fuel cs x hx => by
  obtain ⟨xs, nn, _, _, hcl, hxl, hfl⟩ := DataW.trod_struct Try.underlying32 hx
  obtain ⟨a0, k0, w0⟩ := Open.field hxl hfl 0 _ rfl (Open.Opens.int Try.underlying3)
  obtain ⟨a1, k1, w1⟩ := Open.field hxl hfl 1 _ rfl (Open.Opens.int Try.underlying30)
  obtain ⟨a2, k2, w2⟩ := Open.field hxl hfl 2 _ rfl (Open.Opens.int Try.underlying30)
  obtain ⟨u0, u1, u2, rfl⟩ := Open.list3 (hcl.trans (by kernel_rfl))
  obtain rfl : u0 = .int .i64 a0 := List.head_eq_of_cons_eq k0
  obtain rfl : u1 = .int .u64 a1 := List.head_eq_of_cons_eq k1
  obtain rfl : u2 = .int .u64 a2 := List.head_eq_of_cons_eq k2
  exact ⟨⟨a0, a1, a2⟩, XR.k32_mk W ⟨a0, a1, a2⟩, w0, w1, w2⟩
set_option maxRecDepth 100000 in
theorem opens_k34 {W : World} : Open.Opens Try.prog W XR.k34 34 (fun x => (Lit.int .i64 x.f0).wf = true ∧ (Lit.int .i64 x.f1).wf = true ∧ (Lit.int .i64 x.f2).wf = true ∧ ((Lit.int .i64 x.f3.f0).wf = true ∧ (Lit.int .u64 x.f3.f1).wf = true ∧ (Lit.int .u64 x.f3.f2).wf = true)) := fun H enc fuel cs x hx => by
  obtain ⟨xs, nn, _, _, hcl, hxl, hfl⟩ := DataW.trod_struct Try.underlying34 hx
  obtain ⟨a0, k0, w0⟩ := Open.field hxl hfl 0 _ rfl (Open.Opens.int Try.underlying3)
  obtain ⟨a1, k1, w1⟩ := Open.field hxl hfl 1 _ rfl (Open.Opens.int Try.underlying3)
  obtain ⟨a2, k2, w2⟩ := Open.field hxl hfl 2 _ rfl (Open.Opens.int Try.underlying3)
  obtain ⟨a3, k3, w3⟩ := Open.field hxl hfl 3 _ rfl opens_k32
  obtain ⟨u0, u1, u2, u3, u4, u5, rfl⟩ := Open.list6 (hcl.trans (by kernel_rfl))
  obtain rfl : u0 = .int .i64 a0 := List.head_eq_of_cons_eq k0
  obtain rfl : u1 = .int .i64 a1 := List.head_eq_of_cons_eq k1
  obtain rfl : u2 = .int .i64 a2 := List.head_eq_of_cons_eq k2
  have e3 : [u3, u4, u5] = _ := XR.k32_open k3
  simp only [List.cons.injEq, and_true] at e3
  obtain ⟨rfl, rfl, rfl⟩ := e3
  exact ⟨⟨a0, a1, a2, a3⟩, XR.k34_mk W ⟨a0, a1, a2, a3⟩, w0, w1, w2, w3⟩
set_option maxRecDepth 100000 in
theorem lifted (os : Os) (started : os.Started) (H : Type) (enc : TypeId × Value → H) :
    ReturnsInHanded {} Try.checked os 7 .any (Rows.trieCopiesSpec.pre6 enc Try.prog Try.f7 Rows.trieCopiesRow.domain false) (Rows.trieCopiesSpec.post enc Try.prog Try.f7 false true false false) := by
  refine returnsInHanded_of_change_sized (C := Try.checked) own started (by kernel_rfl) Try.func7
    (ChangeSpec.witness6 (enc := enc) (C := Try.checked) false ⟨#[], #[.slice none 0 0, .slice none 0 0], []⟩ 8 (by kernel_rfl) (by kernel_rfl) (by kernel_rfl) (by kernel_rfl)) ?_
  intro W base args ds gs before hval0 hW hcnd hsz0 _
  have hval : ∀ (j : Nat) t v, Try.f7.params[j]? = some t → args[j]? = some v → Value.okWide Try.prog W .any base t v := hval0
  have hW' := hW
  obtain ⟨p, q, hA0, hV, rfl, hfz, hnd⟩ := hW
  have hA : DataW.TrodAll enc Try.prog W 0 (fun _ => true) true Try.f7.params.toList args.toList ds p := hA0
  rw [Try.params7] at hA hval
  obtain ⟨v0, vs0, d0, ds0, p0, q0, hargs, rfl, rfl, h0, r0⟩ := trodAll_cons hA
  obtain ⟨v1, vs1, d1, ds1, p1, q1, rfl, rfl, rfl, h1, r1⟩ := trodAll_cons r0
  obtain ⟨rfl, rfl, rfl⟩ := trodAll_nil r1
  obtain rfl : args = #[v0, v1] := by cases args; simp_all
  obtain ⟨rfl, rfl⟩ := trodVars_none hV
  have kk0 := h0
  have lt0 : ∀ x ∈ p0, x.block < W.heap.size := by obtain ⟨m, hm⟩ := kk0; exact DataW.trod_lt m _ _ _ hm
  obtain ⟨A0, c0, l0, rfl, hl0, hC0, hm0, hk0⟩ := Open.open_slice Try.underlying23 (hval 0 23 v0 rfl rfl) (by kernel_rfl) opens_k34 h0
  have kk1 := h1
  have lt1 : ∀ x ∈ p1, x.block < W.heap.size := by obtain ⟨m, hm⟩ := kk1; exact DataW.trod_lt m _ _ _ hm
  obtain ⟨A1, c1, l1, rfl, hl1, hC1, hm1, hk1⟩ := Open.open_slice Try.underlying23 (hval 1 23 v1 rfl rfl) (by kernel_rfl) opens_k34 h1
  have hok : ∀ y ∈ l0, XR.okV y.f3 := fun y hy => wf_vec (hk0 y hy).2.2.2.2.1 (hk0 y hy).2.2.2.2.2
  have hok2 : ∀ y ∈ l1, XR.okV y.f3 := fun y hy => wf_vec (hk1 y hy).2.2.2.2.1 (hk1 y hy).2.2.2.2.2
  refine (XR.TrieCopies_true A0 A1 c0 c1 l0 l1 W hC0 hC1 hok hok2).mono fun e W' ⟨he, bel⟩ => ?_
  subst he
  exact ⟨_, rfl, _, _, _, [], _, [], hW', trodAll_mk1 (shut_bool Try.underlying4 _), (trodAll_cons_mk (Below.trod laidOut (by kernel_rfl) (of_decide_eq_true (by kernel_rfl)) kk0 bel lt0) (trodAll_cons_mk (Below.trod laidOut (by kernel_rfl) (of_decide_eq_true (by kernel_rfl)) kk1 bel lt1) trodAll_mk0)), rfl, bel.frame _, fun h => by cases h⟩
theorem over : Rows.trieCopiesRow.holds Try.pinned (OpenSpec.ofChange Rows.trieCopiesSpec) :=
  OpenClaim.holds_of_wide 7 Try.f7 rfl rfl rfl rfl rfl rfl rfl ⟨rfl, rfl, rfl, rfl, rfl⟩ rfl rfl rfl rfl rfl (by kernel_rfl) Try.func7 (by kernel_rfl)
    (of_decide_eq_true (by kernel_rfl)) (by unfold Func.isWrapper; first | (rw [if_pos (by decide +kernel)]; kernel_rfl) | (rw [if_neg (by decide +kernel)]; exact ⟨rfl, rfl⟩))
    (fun os started H enc _ => lifted os started H enc)
theorem proved : Rows.TrieCopiesSaid := over
#print axioms proved
end Go.Proofs.Ytfdbcnbakchcgaa.trieCopies
namespace Go.Proofs.Ytfdbcnbakchcgaa
/-- The row, under a short name, for the claim. -/
theorem trieCopies_holds : Rows.TrieCopiesSaid := trieCopies.proved
end Go.Proofs.Ytfdbcnbakchcgaa
