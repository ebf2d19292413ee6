/- The row of the law ShapeInsts: what the statement asks, out of the pure law and the machine's walk; no condition. -/
import Derived.Test.YtpdjiiikfjjfjaaRows
import Derived.Test.YtpdjiiikfjjfjaaIj
import Derived.Test.YtpdjiiikfjjfjaaOpen
import Derived.WalkKit
import Derived.ProofKit
import Derived.OpenShut
import Derived.ShutString
import Derived.ChangeOld
import Derived.Below
import Derived.SizedLaws
namespace Go.Proofs.Ytpdjiiikfjjfjaa.shapeInsts
open Go.ChangeShapes Go.WideShapes Go.ChangeAt Go.RowKit
open Go.ChangeMaps (open_string shut_string)
open Go.Proofs.YtpdjiiikfjjfjaaW.PrintWords Go.Proofs.YtpdjiiikfjjfjaaW.PrintLast Go.Proofs.YtpdjiiikfjjfjaaW.PrintMore
set_option linter.unusedVariables false
theorem own : ownKnob Try.prog.godebug = none := by kernel_rfl
theorem laidOut : laidOutB Try.prog = true := by kernel_rfl

set_option maxRecDepth 100000 in
theorem opens_k32 {W : World} : Open.Opens Try.prog W XI.k32 32 (fun x => x.f0.size ≤ maxLen ∧ (Lit.int .i64 x.f1).wf = true) := fun H enc fuel cs x hx => by
  obtain ⟨xs, nn, _, _, hcl, hxl, hfl⟩ := DataW.trod_struct Try.underlying32 hx
  obtain ⟨a0, k0, w0⟩ := Open.field hxl hfl 0 _ rfl (Open.Opens.string Try.underlying9)
  obtain ⟨a1, k1, w1⟩ := Open.field hxl hfl 1 _ rfl (Open.Opens.int Try.underlying3)
  obtain ⟨u0, u1, rfl⟩ := Open.list2 (hcl.trans (by kernel_rfl))
  obtain rfl : u0 = .string a0 := List.head_eq_of_cons_eq k0
  obtain rfl : u1 = .int .i64 a1 := List.head_eq_of_cons_eq k1
  exact ⟨⟨a0, a1⟩, XI.k32_mk W ⟨a0, a1⟩, w0, w1⟩
set_option maxRecDepth 100000 in
theorem opens_k24 {W : World} : Open.Opens Try.prog W XI.k24 24 (fun x => x.f0.size ≤ maxLen ∧ (x.f1.length ≤ maxLen ∧ ∀ a ∈ x.f1, (a.f0.size ≤ maxLen ∧ (Lit.int .i64 a.f1).wf = true)) ∧ (Lit.int .i64 x.f2).wf = true ∧ (Lit.int .i64 x.f3).wf = true ∧ (Lit.int .i64 x.f4).wf = true ∧ (Lit.int .i64 x.f5).wf = true) := fun H enc fuel cs x hx => by
  obtain ⟨xs, nn, _, _, hcl, hxl, hfl⟩ := DataW.trod_struct Try.underlying24 hx
  obtain ⟨a0, k0, w0⟩ := Open.field hxl hfl 0 _ rfl (Open.Opens.string Try.underlying9)
  obtain ⟨a1, k1, w1⟩ := Open.field hxl hfl 1 _ rfl (Open.Opens.slice Try.underlying22 (by kernel_rfl) opens_k32)
  obtain ⟨a2, k2, w2⟩ := Open.field hxl hfl 2 _ rfl (Open.Opens.int Try.underlying3)
  obtain ⟨a3, k3, w3⟩ := Open.field hxl hfl 3 _ rfl (Open.Opens.int Try.underlying3)
  obtain ⟨a4, k4, w4⟩ := Open.field hxl hfl 4 _ rfl (Open.Opens.int Try.underlying3)
  obtain ⟨a5, k5, w5⟩ := Open.field hxl hfl 5 _ rfl (Open.Opens.int Try.underlying3)
  obtain ⟨u0, u1, u2, u3, u4, u5, rfl⟩ := Open.list6 (hcl.trans (by kernel_rfl))
  obtain rfl : u0 = .string a0 := List.head_eq_of_cons_eq k0
  obtain ⟨A1, c1, e1, l1, g1⟩ := k1
  obtain rfl : u1 = .slice A1 a1.length c1 := List.head_eq_of_cons_eq e1
  obtain rfl : u2 = .int .i64 a2 := List.head_eq_of_cons_eq k2
  obtain rfl : u3 = .int .i64 a3 := List.head_eq_of_cons_eq k3
  obtain rfl : u4 = .int .i64 a4 := List.head_eq_of_cons_eq k4
  obtain rfl : u5 = .int .i64 a5 := List.head_eq_of_cons_eq k5
  exact ⟨⟨a0, a1, a2, a3, a4, a5⟩, XI.k24_mk W ⟨a0, a1, a2, a3, a4, a5⟩ l1 g1, w0, w1, w2, w3, w4, w5⟩
set_option maxRecDepth 100000 in
theorem opens_k42 {W : World} : Open.Opens Try.prog W XI.k42 42 (fun x => x.f0.size ≤ maxLen ∧ (Lit.int .i64 x.f1).wf = true ∧ (Lit.int .i64 x.f2).wf = true) := fun H enc fuel cs x hx => by
  obtain ⟨xs, nn, _, _, hcl, hxl, hfl⟩ := DataW.trod_struct Try.underlying42 hx
  obtain ⟨a0, k0, w0⟩ := Open.field hxl hfl 0 _ rfl (Open.Opens.string Try.underlying9)
  obtain ⟨a1, k1, w1⟩ := Open.field hxl hfl 1 _ rfl (Open.Opens.int Try.underlying3)
  obtain ⟨a2, k2, w2⟩ := Open.field hxl hfl 2 _ rfl (Open.Opens.int Try.underlying3)
  obtain ⟨u0, u1, u2, rfl⟩ := Open.list3 (hcl.trans (by kernel_rfl))
  obtain rfl : u0 = .string a0 := List.head_eq_of_cons_eq k0
  obtain rfl : u1 = .int .i64 a1 := List.head_eq_of_cons_eq k1
  obtain rfl : u2 = .int .i64 a2 := List.head_eq_of_cons_eq k2
  exact ⟨⟨a0, a1, a2⟩, XI.k42_mk W ⟨a0, a1, a2⟩, w0, w1, w2⟩
set_option maxRecDepth 100000 in
theorem lifted (os : Os) (started : os.Started) (H : Type) (enc : TypeId × Value → H) :
    ReturnsInHanded {} Try.checked os 7 .any (Rows.shapeInstsSpec.pre6 enc Try.prog Try.f7 Rows.shapeInstsRow.domain false) (Rows.shapeInstsSpec.post enc Try.prog Try.f7 false true false false) := by
  refine returnsInHanded_of_change_sized (C := Try.checked) own started (by kernel_rfl) Try.func7
    (ChangeSpec.witness6 (enc := enc) (C := Try.checked) false ⟨#[], #[.slice none 0 0, .slice none 0 0, .string ByteArray.empty], []⟩ 8 (by kernel_rfl) (by kernel_rfl) (by kernel_rfl) (by kernel_rfl)) ?_
  intro W base args ds gs before hval0 hW hcnd hsz0 _
  have hval : ∀ (j : Nat) t v, Try.f7.params[j]? = some t → args[j]? = some v → Value.okWide Try.prog W .any base t v := hval0
  have hW' := hW
  obtain ⟨p, q, hA0, hV, rfl, hfz, hnd⟩ := hW
  have hA : DataW.TrodAll enc Try.prog W 0 (fun _ => true) true Try.f7.params.toList args.toList ds p := hA0
  rw [Try.params7] at hA hval
  obtain ⟨v0, vs0, d0, ds0, p0, q0, hargs, rfl, rfl, h0, r0⟩ := trodAll_cons hA
  obtain ⟨v1, vs1, d1, ds1, p1, q1, rfl, rfl, rfl, h1, r1⟩ := trodAll_cons r0
  obtain ⟨v2, vs2, d2, ds2, p2, q2, rfl, rfl, rfl, h2, r2⟩ := trodAll_cons r1
  obtain ⟨rfl, rfl, rfl⟩ := trodAll_nil r2
  obtain rfl : args = #[v0, v1, v2] := by cases args; simp_all
  obtain ⟨rfl, rfl⟩ := trodVars_none hV
  have kk0 := h0
  have lt0 : ∀ x ∈ p0, x.block < W.heap.size := by obtain ⟨m, hm⟩ := kk0; exact DataW.trod_lt m _ _ _ hm
  obtain ⟨A0, c0, l0, rfl, hl0, hC0, hm0, hk0⟩ := Open.open_slice Try.underlying47 (hval 0 47 v0 rfl rfl) (by kernel_rfl) opens_k24 h0
  have kk1 := h1
  have lt1 : ∀ x ∈ p1, x.block < W.heap.size := by obtain ⟨m, hm⟩ := kk1; exact DataW.trod_lt m _ _ _ hm
  obtain ⟨A1, c1, l1, rfl, hl1, hC1, hm1, hk1⟩ := Open.open_slice Try.underlying38 (hval 1 38 v1 rfl rfl) (by kernel_rfl) opens_k42 h1
  have kk2 := h2
  have lt2 : ∀ x ∈ p2, x.block < W.heap.size := by obtain ⟨m, hm⟩ := kk2; exact DataW.trod_lt m _ _ _ hm
  obtain ⟨a2, rfl, rfl, rfl, y2⟩ := open_string Try.underlying9 (hval 2 9 v2 rfl rfl) h2
  refine (XI.Insts_all A0 c0 l0 A1 c1 l1 a2 W hC0 hl0 hC1 hl1).mono fun e W' ⟨he, bel⟩ => ?_
  subst he
  exact ⟨_, rfl, _, _, _, [], _, [], hW', trodAll_mk1 (shut_bool Try.underlying4 _), (trodAll_cons_mk (Below.trod laidOut (by kernel_rfl) (of_decide_eq_true (by kernel_rfl)) kk0 bel lt0) (trodAll_cons_mk (Below.trod laidOut (by kernel_rfl) (of_decide_eq_true (by kernel_rfl)) kk1 bel lt1) (trodAll_cons_mk (shut_string Try.underlying9 y2) trodAll_mk0))), rfl, bel.frame _, fun h => by cases h⟩
theorem over : Rows.shapeInstsRow.holds Try.pinned (OpenSpec.ofChange Rows.shapeInstsSpec) :=
  OpenClaim.holds_of_wide 7 Try.f7 rfl rfl rfl rfl rfl rfl rfl ⟨rfl, rfl, rfl, rfl, rfl⟩ rfl rfl rfl rfl rfl (by kernel_rfl) Try.func7 (by kernel_rfl)
    (of_decide_eq_true (by kernel_rfl)) (by unfold Func.isWrapper; first | (rw [if_pos (by decide +kernel)]; kernel_rfl) | (rw [if_neg (by decide +kernel)]; exact ⟨rfl, rfl⟩))
    (fun os started H enc _ => lifted os started H enc)
theorem proved : Rows.ShapeInstsSaid := over
#print axioms proved
end Go.Proofs.Ytpdjiiikfjjfjaa.shapeInsts
namespace Go.Proofs.Ytpdjiiikfjjfjaa
/-- The row, under a short name, for the claim. -/
theorem shapeInsts_holds : Rows.ShapeInstsSaid := shapeInsts.proved
end Go.Proofs.Ytpdjiiikfjjfjaa
