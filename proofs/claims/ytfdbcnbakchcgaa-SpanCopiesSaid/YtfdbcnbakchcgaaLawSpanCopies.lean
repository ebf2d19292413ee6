import Derived.Test.YtfdbcnbakchcgaaRows
import Derived.Test.YtfdbcnbakchcgaaQp
import Derived.Test.YtfdbcnbakchcgaaOpen
import Derived.WalkKit
import Derived.ProofKit
import Derived.OpenShut
import Derived.ShutString
import Derived.ChangeOld
import Derived.Below
import Derived.SizedLaws
namespace Go.Proofs.Ytfdbcnbakchcgaa.spanCopies
open Go.ChangeShapes Go.WideShapes Go.ChangeAt Go.RowKit
open Go.ChangeMaps (open_string shut_string)
open Go.Proofs.YtfdbcnbakchcgaaW.PrintWords Go.Proofs.YtfdbcnbakchcgaaW.PrintLast Go.Proofs.YtfdbcnbakchcgaaW.PrintMore
set_option linter.unusedVariables false
theorem own : ownKnob Try.prog.godebug = none := by kernel_rfl
theorem laidOut : laidOutB Try.prog = true := by kernel_rfl
theorem Open.list3 {α : Type} : ∀ {l : List α}, l.length = 3 → ∃ a b c, l = [a, b, c]
  | [a, b, c], _ => ⟨a, b, c, rfl⟩
theorem Open.list5 {α : Type} : ∀ {l : List α}, l.length = 5 → ∃ a b c d e, l = [a, b, c, d, e]
  | [a, b, c, d, e], _ => ⟨a, b, c, d, e, rfl⟩
theorem wf_u64 {x : Int} (h : (Lit.int .u64 x).wf = true) : 0 ≤ x ∧ x < 2 ^ 64 := by
  simp only [Lit.wf, Bool.and_eq_true, decide_eq_true_eq] at h
  have e1 : IntKind.u64.min = 0 := by decide
  have e2 : IntKind.u64.max = 18446744073709551615 := by decide
  omega
theorem wf_vec {x y : Int} (h : (Lit.int .u64 x).wf = true) (h2 : (Lit.int .u64 y).wf = true) : 0 ≤ x ∧ x < 2 ^ 64 ∧ 0 ≤ y ∧ y < 2 ^ 64 := ⟨(wf_u64 h).1, (wf_u64 h).2, (wf_u64 h2).1, (wf_u64 h2).2⟩
set_option maxRecDepth 100000 in
theorem opens_k32 {W : World} : Open.Opens Try.prog W XQ.k32 32 (fun x => (Lit.int .i64 x.f0).wf = true ∧ (Lit.int .u64 x.f1).wf = true ∧ (Lit.int .u64 x.f2).wf = true) := fun H enc fuel cs x hx => by
  obtain ⟨xs, nn, _, _, hcl, hxl, hfl⟩ := DataW.trod_struct Try.underlying32 hx
  obtain ⟨a0, k0, w0⟩ := Open.field hxl hfl 0 _ rfl (Open.Opens.int Try.underlying3)
  obtain ⟨a1, k1, w1⟩ := Open.field hxl hfl 1 _ rfl (Open.Opens.int Try.underlying30)
  obtain ⟨a2, k2, w2⟩ := Open.field hxl hfl 2 _ rfl (Open.Opens.int Try.underlying30)
  obtain ⟨u0, u1, u2, rfl⟩ := Open.list3 (hcl.trans (by kernel_rfl))
  obtain rfl : u0 = .int .i64 a0 := List.head_eq_of_cons_eq k0
  obtain rfl : u1 = .int .u64 a1 := List.head_eq_of_cons_eq k1
  obtain rfl : u2 = .int .u64 a2 := List.head_eq_of_cons_eq k2
  exact ⟨⟨a0, a1, a2⟩, XQ.k32_mk W ⟨a0, a1, a2⟩, w0, w1, w2⟩
set_option maxRecDepth 100000 in
theorem opens_k87 {W : World} : Open.Opens Try.prog W XQ.k87 87 (fun x => (Lit.int .i64 x.f0).wf = true ∧ (Lit.int .i64 x.f1).wf = true ∧ (Lit.int .i64 x.f2).wf = true ∧ (x.f3.length ≤ maxLen ∧ ∀ a ∈ x.f3, ((Lit.int .i64 a.f0).wf = true ∧ (Lit.int .u64 a.f1).wf = true ∧ (Lit.int .u64 a.f2).wf = true)) ∧ (x.f4.length ≤ maxLen ∧ ∀ a ∈ x.f4, ((Lit.int .i64 a.f0).wf = true ∧ (Lit.int .u64 a.f1).wf = true ∧ (Lit.int .u64 a.f2).wf = true))) := fun H enc fuel cs x hx => by
  obtain ⟨xs, nn, _, _, hcl, hxl, hfl⟩ := DataW.trod_struct Try.underlying87 hx
  obtain ⟨a0, k0, w0⟩ := Open.field hxl hfl 0 _ rfl (Open.Opens.int Try.underlying3)
  obtain ⟨a1, k1, w1⟩ := Open.field hxl hfl 1 _ rfl (Open.Opens.int Try.underlying3)
  obtain ⟨a2, k2, w2⟩ := Open.field hxl hfl 2 _ rfl (Open.Opens.int Try.underlying3)
  obtain ⟨a3, k3, w3⟩ := Open.field hxl hfl 3 _ rfl (Open.Opens.slice Try.underlying85 (by kernel_rfl) opens_k32)
  obtain ⟨a4, k4, w4⟩ := Open.field hxl hfl 4 _ rfl (Open.Opens.slice Try.underlying85 (by kernel_rfl) opens_k32)
  obtain ⟨u0, u1, u2, u3, u4, rfl⟩ := Open.list5 (hcl.trans (by kernel_rfl))
  obtain rfl : u0 = .int .i64 a0 := List.head_eq_of_cons_eq k0
  obtain rfl : u1 = .int .i64 a1 := List.head_eq_of_cons_eq k1
  obtain rfl : u2 = .int .i64 a2 := List.head_eq_of_cons_eq k2
  obtain ⟨A3, c3, e3, l3, g3⟩ := k3
  obtain rfl : u3 = .slice A3 a3.length c3 := List.head_eq_of_cons_eq e3
  obtain ⟨A4, c4, e4, l4, g4⟩ := k4
  obtain rfl : u4 = .slice A4 a4.length c4 := List.head_eq_of_cons_eq e4
  exact ⟨⟨a0, a1, a2, a3, a4⟩, XQ.k87_mk W ⟨a0, a1, a2, a3, a4⟩ l3 g3 l4 g4, w0, w1, w2, w3, w4⟩
set_option maxRecDepth 100000 in
theorem lifted (os : Os) (started : os.Started) (H : Type) (enc : TypeId × Value → H) :
    ReturnsInHanded {} Try.checked os 15 .any (Rows.spanCopiesSpec.pre6 enc Try.prog Try.f15 Rows.spanCopiesRow.domain false) (Rows.spanCopiesSpec.post enc Try.prog Try.f15 false true false false) := by
  refine returnsInHanded_of_change_sized (C := Try.checked) own started (by kernel_rfl) Try.func15
    (ChangeSpec.witness6 (enc := enc) (C := Try.checked) false ⟨#[], #[.slice none 0 0, .slice none 0 0, .slice none 0 0], []⟩ 8 (by kernel_rfl) (by kernel_rfl) (by kernel_rfl) (by kernel_rfl)) ?_
  intro W base args ds gs before hval0 hW hcnd hsz0 _
  have hval : ∀ (j : Nat) t v, Try.f15.params[j]? = some t → args[j]? = some v → Value.okWide Try.prog W .any base t v := hval0
  have hW' := hW
  obtain ⟨p, q, hA0, hV, rfl, hfz, hnd⟩ := hW
  have hA : DataW.TrodAll enc Try.prog W 0 (fun _ => true) true Try.f15.params.toList args.toList ds p := hA0
  rw [Try.params15] at hA hval
  obtain ⟨v0, vs0, d0, ds0, p0, q0, hargs, rfl, rfl, h0, r0⟩ := trodAll_cons hA
  obtain ⟨v1, vs1, d1, ds1, p1, q1, rfl, rfl, rfl, h1, r1⟩ := trodAll_cons r0
  obtain ⟨v2, vs2, d2, ds2, p2, q2, rfl, rfl, rfl, h2, r2⟩ := trodAll_cons r1
  obtain ⟨rfl, rfl, rfl⟩ := trodAll_nil r2
  obtain rfl : args = #[v0, v1, v2] := by cases args; simp_all
  obtain ⟨rfl, rfl⟩ := trodVars_none hV
  have kk0 := h0
  have lt0 : ∀ x ∈ p0, x.block < W.heap.size := by obtain ⟨m, hm⟩ := kk0; exact DataW.trod_lt m _ _ _ hm
  obtain ⟨A0, c0, l0, rfl, hl0, hC0, hm0, hk0⟩ := Open.open_slice Try.underlying84 (hval 0 84 v0 rfl rfl) (by kernel_rfl) (Open.Opens.int Try.underlying3) h0
  have kk1 := h1
  have lt1 : ∀ x ∈ p1, x.block < W.heap.size := by obtain ⟨m, hm⟩ := kk1; exact DataW.trod_lt m _ _ _ hm
  obtain ⟨A1, c1, l1, rfl, hl1, hC1, hm1, hk1⟩ := Open.open_slice Try.underlying89 (hval 1 89 v1 rfl rfl) (by kernel_rfl) opens_k87 h1
  have kk2 := h2
  have lt2 : ∀ x ∈ p2, x.block < W.heap.size := by obtain ⟨m, hm⟩ := kk2; exact DataW.trod_lt m _ _ _ hm
  obtain ⟨A2, c2, l2, rfl, hl2, hC2, hm2, hk2⟩ := Open.open_slice Try.underlying89 (hval 2 89 v2 rfl rfl) (by kernel_rfl) opens_k87 h2
  have hv : ∀ y ∈ l1, (∀ z ∈ y.f3, XQ.okV z) ∧ (∀ z ∈ y.f4, XQ.okV z) := fun y hy => ⟨fun z hz => wf_vec ((hk1 y hy).2.2.2.1.2 z hz).2.1 ((hk1 y hy).2.2.2.1.2 z hz).2.2, fun z hz => wf_vec ((hk1 y hy).2.2.2.2.2 z hz).2.1 ((hk1 y hy).2.2.2.2.2 z hz).2.2⟩
  have hvm : ∀ y ∈ l2, (∀ z ∈ y.f3, XQ.okV z) ∧ (∀ z ∈ y.f4, XQ.okV z) := fun y hy => ⟨fun z hz => wf_vec ((hk2 y hy).2.2.2.1.2 z hz).2.1 ((hk2 y hy).2.2.2.1.2 z hz).2.2, fun z hz => wf_vec ((hk2 y hy).2.2.2.2.2 z hz).2.1 ((hk2 y hy).2.2.2.2.2 z hz).2.2⟩
  refine (XQ.SpanCopies_true A0 c0 l0 A1 c1 l1 A2 c2 l2 W hC0 hl0 hC1 hl1 hC2 hl2 hv hvm).mono fun e W' ⟨he, bel⟩ => ?_
  subst he
  exact ⟨_, rfl, _, _, _, [], _, [], hW', trodAll_mk1 (shut_bool Try.underlying4 _), (trodAll_cons_mk (Below.trod laidOut (by kernel_rfl) (of_decide_eq_true (by kernel_rfl)) kk0 bel lt0) (trodAll_cons_mk (Below.trod laidOut (by kernel_rfl) (of_decide_eq_true (by kernel_rfl)) kk1 bel lt1) (trodAll_cons_mk (Below.trod laidOut (by kernel_rfl) (of_decide_eq_true (by kernel_rfl)) kk2 bel lt2) trodAll_mk0))), rfl, bel.frame _, fun h => by cases h⟩
theorem over : Rows.spanCopiesRow.holds Try.pinned (OpenSpec.ofChange Rows.spanCopiesSpec) :=
  OpenClaim.holds_of_wide 15 Try.f15 rfl rfl rfl rfl rfl rfl rfl ⟨rfl, rfl, rfl, rfl, rfl⟩ rfl rfl rfl rfl rfl (by kernel_rfl) Try.func15 (by kernel_rfl)
    (of_decide_eq_true (by kernel_rfl)) (by unfold Func.isWrapper; first | (rw [if_pos (by decide +kernel)]; kernel_rfl) | (rw [if_neg (by decide +kernel)]; exact ⟨rfl, rfl⟩))
    (fun os started H enc _ => lifted os started H enc)
theorem proved : Rows.SpanCopiesSaid := over
#print axioms proved
end Go.Proofs.Ytfdbcnbakchcgaa.spanCopies
namespace Go.Proofs.Ytfdbcnbakchcgaa
theorem spanCopies_holds : Rows.SpanCopiesSaid := spanCopies.proved
end Go.Proofs.Ytfdbcnbakchcgaa
