/- The pure law of BitsGets: for any bytes (at most 200), any place and any width, what bits.Get answers is what the document's Get answers; no condition. -/
import Derived.Test.YtjbpianofkblbaaLemB
namespace Go.Proofs.Ytjbpianofkblbaa.Pure
open Go.RowKit Go.Proofs.Ytjbpianofkblbaa.XB Go.Proofs.YtjbpianofkblbaaW.PrintWords Go.Proofs.YtjbpianofkblbaaW.PrintLast

theorem wf_u8 {x : Int} (h : (Lit.int .u8 x).wf = true) : 0 ≤ x ∧ x < 256 := by
  simp only [Lit.wf, Bool.and_eq_true, decide_eq_true_eq] at h
  have e1 : IntKind.u8.min = 0 := by decide
  have e2 : IntKind.u8.max = 255 := by decide
  omega
theorem wf_i64 {x : Int} (h : (Lit.int .i64 x).wf = true) : -9223372036854775808 ≤ x ∧ x ≤ 9223372036854775807 := by
  simp only [Lit.wf, Bool.and_eq_true, decide_eq_true_eq] at h
  have e1 : IntKind.i64.min = -9223372036854775808 := by decide
  have e2 : IntKind.i64.max = 9223372036854775807 := by decide
  omega
theorem lives03 : shunterlaw03_lives.f = some true := by decide
theorem BitsGets : shunterlaw03_BitsGets.Pure := by
  intro l a1 a2 hm hl hb h1 h2
  obtain ⟨h1, h1'⟩ := wf_i64 h1
  obtain ⟨h2, h2'⟩ := wf_i64 h2
  refine ⟨200, ?_⟩
  unfold shunterlaw03_BitsGets.f
  rw [lives03]
  split
  · rfl
  · have hok : okBytes l := ⟨fun b hb' => wf_u8 (hb b hb'), by omega⟩
    rw [ref03_Get_eq l hok a1 a2 200 (by omega) h1 h1' h2 h2']
    have : ∃ t, bits_Get.f l a1 a2 = some t := by
      unfold bits_Get.f
      rw [if_pos hok]
      split
      · split <;> exact ⟨_, rfl⟩
      · exact ⟨_, rfl⟩
    obtain ⟨t, ht⟩ := this
    rw [ht]
    simp
end Go.Proofs.Ytjbpianofkblbaa.Pure
