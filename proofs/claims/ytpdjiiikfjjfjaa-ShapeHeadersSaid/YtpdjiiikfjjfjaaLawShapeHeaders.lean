/- The row of the law ShapeHeaders: what the statement asks, out of the pure law and the machine's walk; no condition. -/
import Derived.Test.YtpdjiiikfjjfjaaRows
import Derived.Test.YtpdjiiikfjjfjaaHw
import Derived.Test.YtpdjiiikfjjfjaaOpen
import Derived.WalkKit
import Derived.ProofKit
import Derived.OpenShut
import Derived.ShutString
import Derived.ChangeOld
import Derived.Below
import Derived.SizedLaws
namespace Go.Proofs.Ytpdjiiikfjjfjaa.shapeHeaders
open Go.ChangeShapes Go.WideShapes Go.ChangeAt Go.RowKit
open Go.ChangeMaps (open_string shut_string)
open Go.Proofs.YtpdjiiikfjjfjaaW.PrintWords Go.Proofs.YtpdjiiikfjjfjaaW.PrintLast Go.Proofs.YtpdjiiikfjjfjaaW.PrintMore
set_option linter.unusedVariables false
theorem own : ownKnob Try.prog.godebug = none := by kernel_rfl
theorem laidOut : laidOutB Try.prog = true := by kernel_rfl

set_option maxRecDepth 100000 in
theorem opens_k32 {W : World} : Open.Opens Try.prog W XH.k32 32 (fun x => x.f0.size ≤ maxLen ∧ (Lit.int .i64 x.f1).wf = true) := fun H enc fuel cs x hx => by
  obtain ⟨xs, nn, _, _, hcl, hxl, hfl⟩ := DataW.trod_struct Try.underlying32 hx
  obtain ⟨a0, k0, w0⟩ := Open.field hxl hfl 0 _ rfl (Open.Opens.string Try.underlying9)
  obtain ⟨a1, k1, w1⟩ := Open.field hxl hfl 1 _ rfl (Open.Opens.int Try.underlying3)
  obtain ⟨u0, u1, rfl⟩ := Open.list2 (hcl.trans (by kernel_rfl))
  obtain rfl : u0 = .string a0 := List.head_eq_of_cons_eq k0
  obtain rfl : u1 = .int .i64 a1 := List.head_eq_of_cons_eq k1
  exact ⟨⟨a0, a1⟩, XH.k32_mk W ⟨a0, a1⟩, w0, w1⟩
set_option maxRecDepth 100000 in
theorem lifted (os : Os) (started : os.Started) (H : Type) (enc : TypeId × Value → H) :
    ReturnsInHanded {} Try.checked os 4 .any (Rows.shapeHeadersSpec.pre6 enc Try.prog Try.f4 Rows.shapeHeadersRow.domain false) (Rows.shapeHeadersSpec.post enc Try.prog Try.f4 false true false false) := by
  refine returnsInHanded_of_change_sized (C := Try.checked) own started (by kernel_rfl) Try.func4
    (ChangeSpec.witness6 (enc := enc) (C := Try.checked) false ⟨#[], #[.agg #[.string ByteArray.empty, .slice none 0 0, .int .i64 0, .int .i64 0, .int .i64 0, .int .i64 0], .int .i64 0, .string ByteArray.empty], []⟩ 8 (by kernel_rfl) (by kernel_rfl) (by kernel_rfl) (by kernel_rfl)) ?_
  intro W base args ds gs before hval0 hW hcnd hsz0 _
  have hval : ∀ (j : Nat) t v, Try.f4.params[j]? = some t → args[j]? = some v → Value.okWide Try.prog W .any base t v := hval0
  have hW' := hW
  obtain ⟨p, q, hA0, hV, rfl, hfz, hnd⟩ := hW
  have hA : DataW.TrodAll enc Try.prog W 0 (fun _ => true) true Try.f4.params.toList args.toList ds p := hA0
  rw [Try.params4] at hA hval
  obtain ⟨v0, vs0, d0, ds0, p0, q0, hargs, rfl, rfl, h0, r0⟩ := trodAll_cons hA
  obtain ⟨v1, vs1, d1, ds1, p1, q1, rfl, rfl, rfl, h1, r1⟩ := trodAll_cons r0
  obtain ⟨v2, vs2, d2, ds2, p2, q2, rfl, rfl, rfl, h2, r2⟩ := trodAll_cons r1
  obtain ⟨rfl, rfl, rfl⟩ := trodAll_nil r2
  obtain rfl : args = #[v0, v1, v2] := by cases args; simp_all
  obtain ⟨rfl, rfl⟩ := trodVars_none hV
  have kk0 := h0
  have lt0 : ∀ x ∈ p0, x.block < W.heap.size := by obtain ⟨m, hm⟩ := kk0; exact DataW.trod_lt m _ _ _ hm
  obtain ⟨cs0, rfl, hz0⟩ := okWide_struct Try.underlying24 (hval 0 24 v0 rfl rfl)
  obtain ⟨fu0, hf0⟩ := h0
  obtain ⟨xs0, nn0, _, _, hcl0, hxl0, hfl0⟩ := DataW.trod_struct Try.underlying24 hf0
  obtain ⟨a0_0, k0_0, w0_0⟩ := Open.field hxl0 hfl0 0 _ rfl (Open.Opens.string Try.underlying9)
  obtain ⟨a0_1, k0_1, w0_1⟩ := Open.field hxl0 hfl0 1 _ rfl (Open.Opens.slice Try.underlying22 (by kernel_rfl) opens_k32)
  obtain ⟨a0_2, k0_2, w0_2⟩ := Open.field hxl0 hfl0 2 _ rfl (Open.Opens.int Try.underlying3)
  obtain ⟨a0_3, k0_3, w0_3⟩ := Open.field hxl0 hfl0 3 _ rfl (Open.Opens.int Try.underlying3)
  obtain ⟨a0_4, k0_4, w0_4⟩ := Open.field hxl0 hfl0 4 _ rfl (Open.Opens.int Try.underlying3)
  obtain ⟨a0_5, k0_5, w0_5⟩ := Open.field hxl0 hfl0 5 _ rfl (Open.Opens.int Try.underlying3)
  obtain ⟨l0⟩ := cs0
  have hz0' : l0.length = 6 := hz0.trans (by kernel_rfl)
  obtain ⟨u0_0, u0_1, u0_2, u0_3, u0_4, u0_5, rfl⟩ := Open.list6 hz0'
  obtain rfl : u0_0 = .string a0_0 := List.head_eq_of_cons_eq k0_0
  obtain rfl : u0_2 = .int .i64 a0_2 := List.head_eq_of_cons_eq k0_2
  obtain rfl : u0_3 = .int .i64 a0_3 := List.head_eq_of_cons_eq k0_3
  obtain rfl : u0_4 = .int .i64 a0_4 := List.head_eq_of_cons_eq k0_4
  obtain rfl : u0_5 = .int .i64 a0_5 := List.head_eq_of_cons_eq k0_5
  have kk1 := h1
  have lt1 : ∀ x ∈ p1, x.block < W.heap.size := by obtain ⟨m, hm⟩ := kk1; exact DataW.trod_lt m _ _ _ hm
  obtain ⟨a1, rfl, rfl, rfl, w1⟩ := open_int Try.underlying3 (hval 1 3 v1 rfl rfl) h1
  have kk2 := h2
  have lt2 : ∀ x ∈ p2, x.block < W.heap.size := by obtain ⟨m, hm⟩ := kk2; exact DataW.trod_lt m _ _ _ hm
  obtain ⟨a2, rfl, rfl, rfl, y2⟩ := open_string Try.underlying9 (hval 2 9 v2 rfl rfl) h2
  obtain ⟨A5, c5, e5, l5, g5⟩ := k0_1
  obtain rfl : u0_1 = .slice A5 a0_1.length c5 := List.head_eq_of_cons_eq e5
  refine (XH.Headers_all a0_0 A5 c5 a0_1 a0_2 a0_3 a0_4 a0_5 a1 a2 W g5 l5).mono fun e W' ⟨he, bel⟩ => ?_
  subst he
  exact ⟨_, rfl, _, _, _, [], _, [], hW', trodAll_mk1 (shut_bool Try.underlying4 _), (trodAll_cons_mk (Below.trod laidOut (by kernel_rfl) (of_decide_eq_true (by kernel_rfl)) kk0 bel lt0) (trodAll_cons_mk (shut_int Try.underlying3 w1) (trodAll_cons_mk (shut_string Try.underlying9 y2) trodAll_mk0))), rfl, bel.frame _, fun h => by cases h⟩
theorem over : Rows.shapeHeadersRow.holds Try.pinned (OpenSpec.ofChange Rows.shapeHeadersSpec) :=
  OpenClaim.holds_of_wide 4 Try.f4 rfl rfl rfl rfl rfl rfl rfl ⟨rfl, rfl, rfl, rfl, rfl⟩ rfl rfl rfl rfl rfl (by kernel_rfl) Try.func4 (by kernel_rfl)
    (of_decide_eq_true (by kernel_rfl)) (by unfold Func.isWrapper; first | (rw [if_pos (by decide +kernel)]; kernel_rfl) | (rw [if_neg (by decide +kernel)]; exact ⟨rfl, rfl⟩))
    (fun os started H enc _ => lifted os started H enc)
theorem proved : Rows.ShapeHeadersSaid := over
#print axioms proved
end Go.Proofs.Ytpdjiiikfjjfjaa.shapeHeaders
namespace Go.Proofs.Ytpdjiiikfjjfjaa
/-- The row, under a short name, for the claim. -/
theorem shapeHeaders_holds : Rows.ShapeHeadersSaid := shapeHeaders.proved
end Go.Proofs.Ytpdjiiikfjjfjaa
