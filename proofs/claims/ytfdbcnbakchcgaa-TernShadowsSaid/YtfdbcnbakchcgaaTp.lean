import Derived.Test.YtfdbcnbakchcgaaTs
namespace Go.Proofs.Ytfdbcnbakchcgaa.XT
open Go.RowKit Go.Proofs.YtfdbcnbakchcgaaW.PrintWords Go.Proofs.YtfdbcnbakchcgaaW.PrintLast Go.Proofs.YtfdbcnbakchcgaaW.PrintMore
attribute [local go_sem] max2_int min2_int max_two min_two max_three min_three max_four min_four   -- for this text's walks alone
set_option linter.unusedVariables false
set_option linter.unusedSimpArgs false
theorem bits_eqN (w : Int) (X : Nat) (hX : X < 2 ^ 128) (h : w ≤ 128) : shunterref02_Bits.f w (hiW X) (loW X) = some (bitsN X w.toNat) := by
  rw [ref02_Bits_eq w X hX, Nat.min_eq_left (by omega)]; rfl
theorem free_eq (A B P Q n : Nat) (hn : n ≤ 128) : shunterref02_Of.f (freeN A B P Q n n) = some ((n : Int), hiW (ofB (freeB A B P Q) n), loW (ofB (freeB A B P Q) n)) := by
  rw [ref02_Of_eq _ (by rw [freeN_length]; exact hn), freeN_length]
  rw [ofB_congr (fun i hi => show (freeN A B P Q n n)[i]?.getD false = freeB A B P Q i from by unfold freeN; rw [List.getElem?_map, List.getElem?_range hi]; simp [hi])]
theorem TernShadows_nat (a0 a1 a2 p0 m0 b0 b1 b2 q0 n0 k0 : Int) (P Q MA MB K : Nat) (w : World) (hP : P < 2 ^ 128) (hQ : Q < 2 ^ 128) (hA : MA < 2 ^ 128) (hB : MB < 2 ^ 128) (hK : K < 2 ^ 128) :
    Calls Try.prog 8 #[.agg #[.int .i64 a0, .int .i64 a1, .int .i64 a2, .int .i64 p0, .int .u64 (hiW P), .int .u64 (loW P), .int .i64 m0, .int .u64 (hiW MA), .int .u64 (loW MA)], .agg #[.int .i64 b0, .int .i64 b1, .int .i64 b2, .int .i64 q0, .int .u64 (hiW Q), .int .u64 (loW Q), .int .i64 n0, .int .u64 (hiW MB), .int .u64 (loW MB)], .agg #[.int .i64 k0, .int .u64 (hiW K), .int .u64 (loW K)]] w fun e w' => e = .returned (.bool true) ∧ Below w.heap.size w w' := by
  have key := fun o0 o1 o2 KA KB n => TernShadows_walk a0 a1 a2 p0 (hiW P) (loW P) m0 (hiW MA) (loW MA) b0 b1 b2 q0 (hiW Q) (loW Q) n0 (hiW MB) (loW MB) k0 (hiW K) (loW K) o0 o1 o2 w (inV p0 P m0 MA) (inV q0 Q n0 MB) (shV p0 P m0 MA q0 Q n0 MB) KA KB P Q MA MB n (shadowed_eq 0 p0 m0 q0 n0 P MA Q MB hP hA hQ hB a1 a2 b1 b2) (ref21_Inside_eq p0 m0 P MA hP hA) (ref21_Inside_eq q0 n0 Q MB hQ hB)
  cases h1 : inV p0 P m0 MA with
  | false =>
    rw [h1] at key
    exact key 0 0 0 false false 0 (.inl ⟨by unfold shV; rw [h1]; rfl, .inl rfl⟩)
  | true =>
    rw [h1] at key
    cases h2 : inV q0 Q n0 MB with
    | false =>
      rw [h2] at key
      exact key 0 0 0 false false 0 (.inl ⟨by unfold shV; rw [h1, h2]; rfl, .inr (.inl ⟨rfl, rfl⟩)⟩)
    | true =>
      rw [h2] at key
      have g1 := inV_may h1
      have g2 := inV_may h2
      by_cases e : p0 = q0
      · obtain rfl := e
        obtain rfl := g1.2.2.1
        obtain rfl := g2.2.2.1
        have l := vmay_lt g1.1
        have ho : ofB (freeB MA MB P Q) p0.toNat < 2 ^ 128 := Nat.lt_of_lt_of_le (ofB_lt _ _) (Nat.pow_le_pow_right (by decide) (by omega))
        have hf := free_eq MA MB P Q p0.toNat (by omega)
        rw [show ((p0.toNat : Nat) : Int) = p0 by omega] at hf
        refine key p0 _ _ (meV k0 K p0 P p0 MA) (meV k0 K p0 Q p0 MB) p0.toNat (.inr ⟨rfl, rfl, by simp, want_eq h1 h2, by omega, by omega, bits_eqN _ _ hP l.2.1, bits_eqN _ _ hQ l.2.1, bits_eqN _ _ hA l.2.1, bits_eqN _ _ hB l.2.1, hf, fun hG => ⟨?_, ?_⟩, ref02_Meets_eq 130 (by decide) k0 p0 p0 K Q MB hK hQ hB, ref02_Meets_eq 130 (by decide) k0 p0 p0 K P MA hK hP hA, fun hG hk => ?_⟩)
        · rw [ref02_Meets_eq 130 (by decide) p0 p0 p0 _ Q MB ho hQ hB, own_b h1 h2]
        · rw [ref02_Meets_eq 130 (by decide) p0 p0 p0 _ P MA ho hP hA, own_a h1 h2 (by rw [← want_eq h1 h2]; exact hG)]
        · exact key_a h1 h2 (by rw [← want_eq h1 h2]; exact hG) hk
      · refine key 0 0 0 false false 0 (.inl ⟨?_, .inr (.inr ⟨rfl, rfl, by simpa using e⟩)⟩)
        unfold shV
        have : (m0 == n0) = false := by
          rw [beq_eq_false_iff_ne, ← g1.2.2.1, ← g2.2.2.1]; exact e
        rw [h1, h2, this]; rfl
theorem word_of {h l : Int} (hh : 0 ≤ h) (hh2 : h < 2 ^ 64) (hl : 0 ≤ l) (hl2 : l < 2 ^ 64) : ∃ X : Nat, X < 2 ^ 128 ∧ hiW X = h ∧ loW X = l :=
  ⟨valW h l, valW_lt hh hh2 hl hl2, hiW_valW hh hh2 hl hl2, loW_valW hl hl2⟩
/-- Law 8, of any arguments. -/
theorem TernShadows_true (a0 a1 a2 p0 p1 p2 m0 m1 m2 b0 b1 b2 q0 q1 q2 n0 n1 n2 k0 k1 k2 : Int) (w : World) (hp : 0 ≤ p1 ∧ p1 < 2 ^ 64 ∧ 0 ≤ p2 ∧ p2 < 2 ^ 64) (hm : 0 ≤ m1 ∧ m1 < 2 ^ 64 ∧ 0 ≤ m2 ∧ m2 < 2 ^ 64) (hq : 0 ≤ q1 ∧ q1 < 2 ^ 64 ∧ 0 ≤ q2 ∧ q2 < 2 ^ 64) (hn : 0 ≤ n1 ∧ n1 < 2 ^ 64 ∧ 0 ≤ n2 ∧ n2 < 2 ^ 64) (hk : 0 ≤ k1 ∧ k1 < 2 ^ 64 ∧ 0 ≤ k2 ∧ k2 < 2 ^ 64) :
    Calls Try.prog 8 #[.agg #[.int .i64 a0, .int .i64 a1, .int .i64 a2, .int .i64 p0, .int .u64 p1, .int .u64 p2, .int .i64 m0, .int .u64 m1, .int .u64 m2], .agg #[.int .i64 b0, .int .i64 b1, .int .i64 b2, .int .i64 q0, .int .u64 q1, .int .u64 q2, .int .i64 n0, .int .u64 n1, .int .u64 n2], .agg #[.int .i64 k0, .int .u64 k1, .int .u64 k2]] w fun e w' => e = .returned (.bool true) ∧ Below w.heap.size w w' := by
  obtain ⟨P, hP, rfl, rfl⟩ := word_of hp.1 hp.2.1 hp.2.2.1 hp.2.2.2
  obtain ⟨MA, hA, rfl, rfl⟩ := word_of hm.1 hm.2.1 hm.2.2.1 hm.2.2.2
  obtain ⟨Q, hQ, rfl, rfl⟩ := word_of hq.1 hq.2.1 hq.2.2.1 hq.2.2.2
  obtain ⟨MB, hB, rfl, rfl⟩ := word_of hn.1 hn.2.1 hn.2.2.1 hn.2.2.2
  obtain ⟨K, hK, rfl, rfl⟩ := word_of hk.1 hk.2.1 hk.2.2.1 hk.2.2.2
  exact TernShadows_nat a0 a1 a2 p0 m0 b0 b1 b2 q0 n0 k0 P Q MA MB K w hP hQ hA hB hK
end Go.Proofs.Ytfdbcnbakchcgaa.XT
