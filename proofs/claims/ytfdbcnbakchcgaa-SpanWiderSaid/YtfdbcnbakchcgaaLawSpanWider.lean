import Derived.Test.YtfdbcnbakchcgaaRows
import Derived.Test.YtfdbcnbakchcgaaQw
import Derived.Test.YtfdbcnbakchcgaaOpen
import Derived.WalkKit
import Derived.ProofKit
import Derived.OpenShut
import Derived.ShutString
import Derived.ChangeOld
import Derived.Below
import Derived.SizedLaws
namespace Go.Proofs.Ytfdbcnbakchcgaa.spanWider
open Go.ChangeShapes Go.WideShapes Go.ChangeAt Go.RowKit
open Go.ChangeMaps (open_string shut_string)
open Go.Proofs.YtfdbcnbakchcgaaW.PrintWords Go.Proofs.YtfdbcnbakchcgaaW.PrintLast Go.Proofs.YtfdbcnbakchcgaaW.PrintMore
set_option linter.unusedVariables false
theorem own : ownKnob Try.prog.godebug = none := by kernel_rfl
theorem laidOut : laidOutB Try.prog = true := by kernel_rfl
theorem Open.list3 {α : Type} : ∀ {l : List α}, l.length = 3 → ∃ a b c, l = [a, b, c]
  | [a, b, c], _ => ⟨a, b, c, rfl⟩
theorem Open.list5 {α : Type} : ∀ {l : List α}, l.length = 5 → ∃ a b c d e, l = [a, b, c, d, e]
  | [a, b, c, d, e], _ => ⟨a, b, c, d, e, rfl⟩
theorem wf_u64 {x : Int} (h : (Lit.int .u64 x).wf = true) : 0 ≤ x ∧ x < 2 ^ 64 := by
  simp only [Lit.wf, Bool.and_eq_true, decide_eq_true_eq] at h
  have e1 : IntKind.u64.min = 0 := by decide
  have e2 : IntKind.u64.max = 18446744073709551615 := by decide
  omega
theorem wf_vec {x y : Int} (h : (Lit.int .u64 x).wf = true) (h2 : (Lit.int .u64 y).wf = true) : 0 ≤ x ∧ x < 2 ^ 64 ∧ 0 ≤ y ∧ y < 2 ^ 64 := ⟨(wf_u64 h).1, (wf_u64 h).2, (wf_u64 h2).1, (wf_u64 h2).2⟩
set_option maxRecDepth 100000 in
theorem opens_k32 {W : World} : Open.Opens Try.prog W XQ.k32 32 (fun x => (Lit.int .i64 x.f0).wf = true ∧ (Lit.int .u64 x.f1).wf = true ∧ (Lit.int .u64 x.f2).wf = true) := fun H enc fuel cs x hx => by
  obtain ⟨xs, nn, _, _, hcl, hxl, hfl⟩ := DataW.trod_struct Try.underlying32 hx
  obtain ⟨a0, k0, w0⟩ := Open.field hxl hfl 0 _ rfl (Open.Opens.int Try.underlying3)
  obtain ⟨a1, k1, w1⟩ := Open.field hxl hfl 1 _ rfl (Open.Opens.int Try.underlying30)
  obtain ⟨a2, k2, w2⟩ := Open.field hxl hfl 2 _ rfl (Open.Opens.int Try.underlying30)
  obtain ⟨u0, u1, u2, rfl⟩ := Open.list3 (hcl.trans (by kernel_rfl))
  obtain rfl : u0 = .int .i64 a0 := List.head_eq_of_cons_eq k0
  obtain rfl : u1 = .int .u64 a1 := List.head_eq_of_cons_eq k1
  obtain rfl : u2 = .int .u64 a2 := List.head_eq_of_cons_eq k2
  exact ⟨⟨a0, a1, a2⟩, XQ.k32_mk W ⟨a0, a1, a2⟩, w0, w1, w2⟩
set_option maxRecDepth 100000 in
theorem lifted (os : Os) (started : os.Started) (H : Type) (enc : TypeId × Value → H) :
    ReturnsInHanded {} Try.checked os 12 .any (Rows.spanWiderSpec.pre6 enc Try.prog Try.f12 Rows.spanWiderRow.domain false) (Rows.spanWiderSpec.post enc Try.prog Try.f12 false true false false) := by
  refine returnsInHanded_of_change_sized (C := Try.checked) own started (by kernel_rfl) Try.func12
    (ChangeSpec.witness6 (enc := enc) (C := Try.checked) false ⟨#[], #[.slice none 0 0, .agg #[.int .i64 0, .int .i64 0, .int .i64 0, .slice none 0 0, .slice none 0 0], .agg #[.int .i64 0, .int .i64 0, .int .i64 0, .slice none 0 0, .slice none 0 0]], []⟩ 8 (by kernel_rfl) (by kernel_rfl) (by kernel_rfl) (by kernel_rfl)) ?_
  intro W base args ds gs before hval0 hW hcnd hsz0 _
  have hval : ∀ (j : Nat) t v, Try.f12.params[j]? = some t → args[j]? = some v → Value.okWide Try.prog W .any base t v := hval0
  have hW' := hW
  obtain ⟨p, q, hA0, hV, rfl, hfz, hnd⟩ := hW
  have hA : DataW.TrodAll enc Try.prog W 0 (fun _ => true) true Try.f12.params.toList args.toList ds p := hA0
  rw [Try.params12] at hA hval
  obtain ⟨v0, vs0, d0, ds0, p0, q0, hargs, rfl, rfl, h0, r0⟩ := trodAll_cons hA
  obtain ⟨v1, vs1, d1, ds1, p1, q1, rfl, rfl, rfl, h1, r1⟩ := trodAll_cons r0
  obtain ⟨v2, vs2, d2, ds2, p2, q2, rfl, rfl, rfl, h2, r2⟩ := trodAll_cons r1
  obtain ⟨rfl, rfl, rfl⟩ := trodAll_nil r2
  obtain rfl : args = #[v0, v1, v2] := by cases args; simp_all
  obtain ⟨rfl, rfl⟩ := trodVars_none hV
  have kk0 := h0
  have lt0 : ∀ x ∈ p0, x.block < W.heap.size := by obtain ⟨m, hm⟩ := kk0; exact DataW.trod_lt m _ _ _ hm
  obtain ⟨A0, c0, l0, rfl, hl0, hC0, hm0, hk0⟩ := Open.open_slice Try.underlying84 (hval 0 84 v0 rfl rfl) (by kernel_rfl) (Open.Opens.int Try.underlying3) h0
  have kk1 := h1
  have lt1 : ∀ x ∈ p1, x.block < W.heap.size := by obtain ⟨m, hm⟩ := kk1; exact DataW.trod_lt m _ _ _ hm
  obtain ⟨cs1, rfl, hz1⟩ := okWide_struct Try.underlying87 (hval 1 87 v1 rfl rfl)
  obtain ⟨fu1, hf1⟩ := h1
  obtain ⟨xs1, nn1, _, _, hcl1, hxl1, hfl1⟩ := DataW.trod_struct Try.underlying87 hf1
  obtain ⟨a1_0, k1_0, w1_0⟩ := Open.field hxl1 hfl1 0 _ rfl (Open.Opens.int Try.underlying3)
  obtain ⟨a1_1, k1_1, w1_1⟩ := Open.field hxl1 hfl1 1 _ rfl (Open.Opens.int Try.underlying3)
  obtain ⟨a1_2, k1_2, w1_2⟩ := Open.field hxl1 hfl1 2 _ rfl (Open.Opens.int Try.underlying3)
  obtain ⟨a1_3, k1_3, w1_3⟩ := Open.field hxl1 hfl1 3 _ rfl (Open.Opens.slice Try.underlying85 (by kernel_rfl) opens_k32)
  obtain ⟨a1_4, k1_4, w1_4⟩ := Open.field hxl1 hfl1 4 _ rfl (Open.Opens.slice Try.underlying85 (by kernel_rfl) opens_k32)
  obtain ⟨l1⟩ := cs1
  have hz1' : l1.length = 5 := hz1.trans (by kernel_rfl)
  obtain ⟨u1_0, u1_1, u1_2, u1_3, u1_4, rfl⟩ := Open.list5 hz1'
  obtain rfl : u1_0 = .int .i64 a1_0 := List.head_eq_of_cons_eq k1_0
  obtain rfl : u1_1 = .int .i64 a1_1 := List.head_eq_of_cons_eq k1_1
  obtain rfl : u1_2 = .int .i64 a1_2 := List.head_eq_of_cons_eq k1_2
  have kk2 := h2
  have lt2 : ∀ x ∈ p2, x.block < W.heap.size := by obtain ⟨m, hm⟩ := kk2; exact DataW.trod_lt m _ _ _ hm
  obtain ⟨cs2, rfl, hz2⟩ := okWide_struct Try.underlying87 (hval 2 87 v2 rfl rfl)
  obtain ⟨fu2, hf2⟩ := h2
  obtain ⟨xs2, nn2, _, _, hcl2, hxl2, hfl2⟩ := DataW.trod_struct Try.underlying87 hf2
  obtain ⟨a2_0, k2_0, w2_0⟩ := Open.field hxl2 hfl2 0 _ rfl (Open.Opens.int Try.underlying3)
  obtain ⟨a2_1, k2_1, w2_1⟩ := Open.field hxl2 hfl2 1 _ rfl (Open.Opens.int Try.underlying3)
  obtain ⟨a2_2, k2_2, w2_2⟩ := Open.field hxl2 hfl2 2 _ rfl (Open.Opens.int Try.underlying3)
  obtain ⟨a2_3, k2_3, w2_3⟩ := Open.field hxl2 hfl2 3 _ rfl (Open.Opens.slice Try.underlying85 (by kernel_rfl) opens_k32)
  obtain ⟨a2_4, k2_4, w2_4⟩ := Open.field hxl2 hfl2 4 _ rfl (Open.Opens.slice Try.underlying85 (by kernel_rfl) opens_k32)
  obtain ⟨l2⟩ := cs2
  have hz2' : l2.length = 5 := hz2.trans (by kernel_rfl)
  obtain ⟨u2_0, u2_1, u2_2, u2_3, u2_4, rfl⟩ := Open.list5 hz2'
  obtain rfl : u2_0 = .int .i64 a2_0 := List.head_eq_of_cons_eq k2_0
  obtain rfl : u2_1 = .int .i64 a2_1 := List.head_eq_of_cons_eq k2_1
  obtain rfl : u2_2 = .int .i64 a2_2 := List.head_eq_of_cons_eq k2_2
  obtain ⟨B1_3, d1_3, e1_3, m1_3, g1_3⟩ := k1_3
  obtain rfl : u1_3 = .slice B1_3 a1_3.length d1_3 := List.head_eq_of_cons_eq e1_3
  obtain ⟨B1_4, d1_4, e1_4, m1_4, g1_4⟩ := k1_4
  obtain rfl : u1_4 = .slice B1_4 a1_4.length d1_4 := List.head_eq_of_cons_eq e1_4
  obtain ⟨B2_3, d2_3, e2_3, m2_3, g2_3⟩ := k2_3
  obtain rfl : u2_3 = .slice B2_3 a2_3.length d2_3 := List.head_eq_of_cons_eq e2_3
  obtain ⟨B2_4, d2_4, e2_4, m2_4, g2_4⟩ := k2_4
  obtain rfl : u2_4 = .slice B2_4 a2_4.length d2_4 := List.head_eq_of_cons_eq e2_4
  refine (XQ.SpanWider_true A0 c0 l0 a1_0 (⟨a1_3, a1_4, a1_1, a1_2⟩ : XQ.S94) B1_3 d1_3 B1_4 d1_4 a2_0 (⟨a2_3, a2_4, a2_1, a2_2⟩ : XQ.S94) B2_3 d2_3 B2_4 d2_4 W hC0 hl0 g1_3 m1_3 g1_4 m1_4 g2_3 m2_3 g2_4 m2_4 (fun z hz => wf_vec (w1_3.2 z hz).2.1 (w1_3.2 z hz).2.2) (fun z hz => wf_vec (w1_4.2 z hz).2.1 (w1_4.2 z hz).2.2) (fun z hz => wf_vec (w2_3.2 z hz).2.1 (w2_3.2 z hz).2.2) (fun z hz => wf_vec (w2_4.2 z hz).2.1 (w2_4.2 z hz).2.2)).mono fun e W' ⟨he, bel⟩ => ?_
  subst he
  exact ⟨_, rfl, _, _, _, [], _, [], hW', trodAll_mk1 (shut_bool Try.underlying4 _), (trodAll_cons_mk (Below.trod laidOut (by kernel_rfl) (of_decide_eq_true (by kernel_rfl)) kk0 bel lt0) (trodAll_cons_mk (Below.trod laidOut (by kernel_rfl) (of_decide_eq_true (by kernel_rfl)) kk1 bel lt1) (trodAll_cons_mk (Below.trod laidOut (by kernel_rfl) (of_decide_eq_true (by kernel_rfl)) kk2 bel lt2) trodAll_mk0))), rfl, bel.frame _, fun h => by cases h⟩
theorem over : Rows.spanWiderRow.holds Try.pinned (OpenSpec.ofChange Rows.spanWiderSpec) :=
  OpenClaim.holds_of_wide 12 Try.f12 rfl rfl rfl rfl rfl rfl rfl ⟨rfl, rfl, rfl, rfl, rfl⟩ rfl rfl rfl rfl rfl (by kernel_rfl) Try.func12 (by kernel_rfl)
    (of_decide_eq_true (by kernel_rfl)) (by unfold Func.isWrapper; first | (rw [if_pos (by decide +kernel)]; kernel_rfl) | (rw [if_neg (by decide +kernel)]; exact ⟨rfl, rfl⟩))
    (fun os started H enc _ => lifted os started H enc)
theorem proved : Rows.SpanWiderSaid := over
#print axioms proved
end Go.Proofs.Ytfdbcnbakchcgaa.spanWider
namespace Go.Proofs.Ytfdbcnbakchcgaa
theorem spanWider_holds : Rows.SpanWiderSaid := spanWider.proved
end Go.Proofs.Ytfdbcnbakchcgaa
