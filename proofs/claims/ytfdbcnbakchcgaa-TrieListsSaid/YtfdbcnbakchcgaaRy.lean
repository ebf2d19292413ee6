import Derived.Test.YtfdbcnbakchcgaaRw
import Derived.Test.YtfdbcnbakchcgaaXRx13
namespace Go.Proofs.Ytfdbcnbakchcgaa.XR
open Go.RowKit Go.Proofs.YtfdbcnbakchcgaaW.PrintWords Go.Proofs.YtfdbcnbakchcgaaW.PrintLast Go.Proofs.YtfdbcnbakchcgaaW.PrintMore
attribute [local go_sem] max2_int min2_int max_two min_two max_three min_three max_four min_four   -- for this text's walks alone
set_option linter.unusedVariables false
set_option linter.unusedSimpArgs false
/-- The bits of a prefix, the highest first. -/
def bitK : Nat → Nat → List UInt8
  | 0, _ => []
  | n + 1, k => bitK n (k / 2) ++ [if k % 2 = 1 then 49 else 48]
theorem bitK_succ (n k : Nat) : bitK (n + 1) k = bitK n (k / 2) ++ [if k % 2 = 1 then 49 else 48] := rfl
theorem bitK_length : ∀ n k, (bitK n k).length = n
  | 0, _ => rfl
  | n + 1, k => by unfold bitK; rw [List.length_append, bitK_length n, List.length_singleton]
theorem bitK_split (i : Nat) : ∀ (d k : Nat), ∃ r, bitK (i + d) k = bitK i (k / 2 ^ d) ++ r
  | 0, k => ⟨[], by rw [Nat.pow_zero, Nat.div_one, List.append_nil]; rfl⟩
  | d + 1, k => by
    obtain ⟨r, hr⟩ := bitK_split i d (k / 2)
    refine ⟨r ++ [if k % 2 = 1 then 49 else 48], ?_⟩
    show bitK (i + d) (k / 2) ++ _ = _
    rw [hr, Nat.div_div_eq_div_mul, ← Nat.pow_succ', List.append_assoc]
theorem bitK_split2 {i len : Nat} (h : i ≤ len) (k : Nat) : ∃ r, bitK len k = bitK i (k / 2 ^ (len - i)) ++ r := by
  have := bitK_split i (len - i) k
  rwa [Nat.add_sub_cancel' h] at this
theorem bitK_take {i len : Nat} (h : i ≤ len) (k : Nat) : (bitK len k).take i = bitK i (k / 2 ^ (len - i)) := by
  obtain ⟨r, hr⟩ := bitK_split2 h k
  rw [hr, List.take_append_of_le_length (by rw [bitK_length]; exact Nat.le_refl _), List.take_of_length_le (by rw [bitK_length]; exact Nat.le_refl _)]
theorem bitK_inj : ∀ {n k k1 : Nat}, bitK n k = bitK n k1 → k < 2 ^ n → k1 < 2 ^ n → k = k1
  | 0, k, k1, _, h1, h2 => by rw [Nat.pow_zero] at h1 h2; omega
  | n + 1, k, k1, h, h1, h2 => by
    unfold bitK at h
    obtain ⟨e1, e2⟩ := List.append_inj h (by rw [bitK_length, bitK_length])
    rw [Nat.pow_succ] at h1 h2
    have e3 := bitK_inj e1 (by omega) (by omega)
    injection e2 with e2 _
    have e4 : k % 2 = k1 % 2 := by
      rcases Nat.mod_two_eq_zero_or_one k with c | c <;> rcases Nat.mod_two_eq_zero_or_one k1 with c1 | c1 <;> rw [c, c1] at e2 ⊢ <;> (exact absurd e2 (by decide))
    omega
theorem bitK_inj2 {n n1 k k1 : Nat} (h : bitK n k = bitK n1 k1) (h1 : k < 2 ^ n) (h2 : k1 < 2 ^ n1) : n = n1 ∧ k = k1 := by
  have e : n = n1 := by have := congrArg List.length h; rwa [bitK_length, bitK_length] at this
  subst e
  exact ⟨rfl, bitK_inj h h1 h2⟩
theorem less_prefix : ∀ (p : List UInt8) (r : List UInt8), r ≠ [] → Op.bytesLess p (p ++ r) = true
  | [], [], h => absurd rfl h
  | [], b :: r, _ => rfl
  | a :: p, r, h => by
    rw [List.cons_append]
    unfold Op.bytesLess
    rw [less_prefix p r h]
    simp
theorem less_branch : ∀ (p r1 r2 : List UInt8), Op.bytesLess (p ++ 48 :: r1) (p ++ 49 :: r2) = true
  | [], r1, r2 => by
    rw [List.nil_append, List.nil_append]
    unfold Op.bytesLess
    rw [show decide ((48 : UInt8) < 49) = true from by decide]
    rfl
  | a :: p, r1, r2 => by
    rw [List.cons_append, List.cons_append]
    unfold Op.bytesLess
    rw [less_branch p r1 r2]
    simp
theorem less_of {a b : TI} (h : ltT a b) : Op.bytesLess (bitK a.len a.key) (bitK b.len b.key) = true := by
  rcases h with ⟨h1, h2⟩ | ⟨i, c, h1, h2, h3, h4⟩
  · obtain ⟨r, hr⟩ := bitK_split2 (Nat.le_of_lt h1) b.key
    rw [h2] at hr
    rw [hr]
    refine less_prefix _ _ (fun e => ?_)
    have := congrArg List.length hr
    rw [e, List.append_nil, bitK_length, bitK_length] at this
    omega
  · obtain ⟨r1, hr1⟩ := bitK_split2 (show i + 1 ≤ a.len from h1) a.key
    obtain ⟨r2, hr2⟩ := bitK_split2 (show i + 1 ≤ b.len from h2) b.key
    rw [h3] at hr1
    rw [h4] at hr2
    rw [bitK_succ] at hr1 hr2
    rw [show 2 * c / 2 = c by omega, show 2 * c % 2 = 0 by omega, if_neg (by decide), List.append_assoc] at hr1
    rw [show (2 * c + 1) / 2 = c by omega, show (2 * c + 1) % 2 = 1 by omega, if_pos rfl, List.append_assoc] at hr2
    rw [hr1, hr2]
    exact less_branch _ _ _
theorem toList_push (s : ByteArray) (b : UInt8) : (s ++ (⟨#[b]⟩ : ByteArray)).toList = s.toList ++ [b] := by
  rw [ByteArray.toList_eq, ByteArray.toList_eq, ByteArray.data_append, Array.toList_append]
theorem toList_size (s : ByteArray) : s.toList.length = s.size := by rw [ByteArray.toList_eq]; rfl
theorem toList_cut (s : ByteArray) (n : Nat) : (s.extract 0 n).toList = s.toList.take n := by
  rw [ByteArray.toList_eq, ByteArray.toList_eq, ByteArray.data_extract, Array.toList_extract]
  simp [List.extract_eq_take_drop]
theorem rdOf_at {α : Type} (d : α) (l : List α) (i : Nat) (h : i < l.length) : rdOf d l (i : Int) = l[i] := by
  unfold rdOf
  rw [Int.toNat_natCast, List.getD_eq_getElem?_getD, List.getElem?_eq_getElem h]; rfl
theorem ref20_bits_loop (W X len : Nat) (hW : W ≤ 128) (hl : len ≤ W) (hi lo nn : Int) (L : List Bool) (hL : L = (List.range W).map X.testBit) : ∀ (n k i : Nat) (s : ByteArray), i + n = len → n < k → s.toList = bitK i (X / 2 ^ (W - i)) →
    ∃ s1, shunterref20_bits.l0 k L s (i : Int) (W : Int) hi lo (len : Int) nn = some s1 ∧ s1.toList = bitK len (X / 2 ^ (W - len))
  | 0, 0, i, s, _, h, _ => by omega
  | 0, k + 1, i, s, h1, _, h3 => by
    rw [Nat.add_zero] at h1
    subst h1
    refine ⟨s, ?_, h3⟩
    unfold shunterref20_bits.l0
    rw [if_neg (by omega)]
  | n + 1, 0, i, s, _, h, _ => by omega
  | n + 1, k + 1, i, s, h1, h2, h3 => by
    have hLl : L.length = W := by rw [hL, List.length_map, List.length_range]
    have hsz : s.size = i := by rw [← toList_size, h3, bitK_length]
    have hidx : wrap64 (wrap64 ((L.length : Int) - 1) - (i : Int)) = ((W - (i + 1) : Nat) : Int) := by
      rw [hLl, wrap64_id ((W : Int) - 1) (by omega) (by omega), wrap64_id _ (by omega) (by omega)]; omega
    have hw : wrap64 ((i : Int) + 1) = ((i + 1 : Nat) : Int) := by rw [wrap64_id _ (by omega) (by omega)]; rfl
    have hrd : rdOf false L ((W - (i + 1) : Nat) : Int) = X.testBit (W - (i + 1)) := by
      rw [rdOf_at _ _ _ (by rw [hLl]; omega)]
      simp [hL]
    have hb : X.testBit (W - (i + 1)) = decide (X / 2 ^ (W - (i + 1)) % 2 = 1) := Nat.testBit_eq_decide_div_mod_eq
    have hK : bitK (i + 1) (X / 2 ^ (W - (i + 1))) = s.toList ++ [if X / 2 ^ (W - (i + 1)) % 2 = 1 then 49 else 48] := by
      rw [h3, div_step X W i (by omega)]; rfl
    unfold shunterref20_bits.l0
    rw [if_pos (by omega), hidx, if_pos (by omega), if_pos (by omega), hrd, hb, hw]
    by_cases c : X / 2 ^ (W - (i + 1)) % 2 = 1
    · rw [if_pos (decide_eq_true c), if_pos (by omega)]
      rw [if_pos c] at hK
      exact ref20_bits_loop W X len hW hl hi lo nn L hL n k (i + 1) _ (by omega) (by omega) (by rw [toList_push, hK])
    · rw [if_neg (by rw [decide_eq_true_eq]; exact c), if_pos (by omega)]
      rw [if_neg c] at hK
      exact ref20_bits_loop W X len hW hl hi lo nn L hL n k (i + 1) _ (by omega) (by omega) (by rw [toList_push, hK])
theorem ref20_bits_eq (W : Nat) (hW : W ≤ 128) (y : S45) (hy : okP W y) (k : Nat) (hk : 140 ≤ k) : ∃ s, shunterref20_bits.f k y.f0.f0 y.f0.f1 y.f0.f2 y.f1 y.f2 = some s ∧ s.toList = bitK (toTI W y).len (toTI W y).key := by
  obtain ⟨e1, e2, j, e3, e4, e5⟩ := okP_key hy
  have hb := ref02_Bits_eq (W : Int) (vV y.f0) (vV_lt hy.1)
  rw [vV_hi hy.1, vV_lo hy.1, Int.toNat_natCast, Nat.min_eq_left hW] at hb
  unfold shunterref20_bits.f
  rw [e1, hb, Option.bind_some, e3]
  have := ref20_bits_loop W (vV y.f0) j hW e4 y.f0.f1 y.f0.f2 y.f2 _ rfl j k 0 (⟨#[]⟩ : ByteArray) (by omega) (by omega) (by rw [ByteArray.toList_eq]; rfl)
  unfold toTI
  simp only
  rw [e3, Int.toNat_natCast]
  exact this
theorem ref20_Less_eq (W : Nat) (hW : W ≤ 128) (a b : S45) (ha : okP W a) (hb : okP W b) (h : ltT (toTI W a) (toTI W b)) (k : Nat) (hk : 140 ≤ k) : shunterref20_Less.f k a.f0.f0 a.f0.f1 a.f0.f2 a.f1 a.f2 b.f0.f0 b.f0.f1 b.f0.f2 b.f1 b.f2 = some true := by
  obtain ⟨s, h1, h2⟩ := ref20_bits_eq W hW a ha k hk
  obtain ⟨t, h3, h4⟩ := ref20_bits_eq W hW b hb k hk
  unfold shunterref20_Less.f
  rw [h1, Option.bind_some, h3, Option.bind_some, h2, h4, less_of h]
/-- What has been seen. -/
structure SN (l : List TI) (S : List (Nat × Nat)) (seen : List ByteArray) : Prop where
  eq : seen.map (·.toList) = S.map fun p => bitK p.1 p.2
  nd : S.Nodup
  is : ∀ p ∈ S, ¬ nodeAt l p.1 p.2 = none
theorem SN.length {l : List TI} {S : List (Nat × Nat)} {seen : List ByteArray} (h : SN l S seen) : seen.length = S.length := by
  have := congrArg List.length h.eq
  rwa [List.length_map, List.length_map] at this
theorem SN.any {l : List TI} {W : Nat} (hf : fitT W l) {S : List (Nat × Nat)} {seen : List ByteArray} (h : SN l S seen) (a b : Nat) (hb : b < 2 ^ a) : seen.any (fun s => s.toList == bitK a b) = true ↔ (a, b) ∈ S := by
  rw [show seen.any (fun s => s.toList == bitK a b) = (seen.map (·.toList)).any (fun t => t == bitK a b) from by rw [List.any_map]; rfl, h.eq, List.any_map, List.any_eq_true]
  constructor
  · rintro ⟨⟨c, d⟩, hp, e⟩
    simp only [Function.comp, beq_iff_eq] at e
    obtain ⟨e1, e2⟩ := bitK_inj2 e (nodeAt_key hf (h.is _ hp)) hb
    subst e1 e2
    exact hp
  · intro hp
    exact ⟨(a, b), hp, by simp⟩
theorem SN.add {l : List TI} {S : List (Nat × Nat)} {seen : List ByteArray} (h : SN l S seen) {a b : Nat} (hn : (a, b) ∉ S) (hi : ¬ nodeAt l a b = none) {s : ByteArray} (hs : s.toList = bitK a b) : SN l (S ++ [(a, b)]) (seen ++ [s]) := by
  refine ⟨by rw [List.map_append, List.map_append, h.eq]; simp [hs], ?_, fun p hp => ?_⟩
  · rw [List.nodup_append]
    refine ⟨h.nd, by simp, fun x hx y hy e => ?_⟩
    rw [List.mem_singleton] at hy
    subst e hy
    exact hn hx
  · rcases List.mem_append.1 hp with hp | hp
    · exact h.is p hp
    · rw [List.mem_singleton] at hp
      subst hp; exact hi
theorem ref20_Nodes_l2 (x : List S45) (seen : List ByteArray) (x4 : Int) (s : ByteArray) (t : Nat) (ht : t ≤ s.size) (ht2 : t < 1000000) (hl : seen.length < 1000000) (r : Int) : ∀ (n j : Nat) (b : Bool), j + n = seen.length →
    (∃ k, (if (b || (seen.drop j).any (fun q => q.toList == (s.extract 0 t).toList)) = true then shunterref20_Nodes.l1 k x seen x4 s ((t + 1 : Nat) : Int) else shunterref20_Nodes.l1 k x (seen ++ [s.extract 0 t]) x4 s ((t + 1 : Nat) : Int)) = some r) →
    ∃ k, shunterref20_Nodes.l2 k x seen x4 s (t : Int) b (j : Int) = some r
  | 0, j, b, h1, ⟨k, hk⟩ => by
    have hw : wrap64 ((t : Int) + 1) = ((t + 1 : Nat) : Int) := by rw [wrap64_id _ (by omega) (by omega)]; rfl
    refine ⟨k + 1, ?_⟩
    unfold shunterref20_Nodes.l2
    rw [show j = seen.length by omega, List.drop_length, List.any_nil, Bool.or_false] at hk
    rw [if_neg (by omega), hw]
    by_cases c : b = true
    · rw [if_pos c] at hk ⊢; exact hk
    · rw [if_neg c] at hk ⊢
      rw [if_pos (by omega), if_pos (by omega), if_pos (by omega), Int.toNat_natCast]
      exact hk
  | n + 1, j, b, h1, hk => by
    have hw : wrap64 ((j : Int) + 1) = ((j + 1 : Nat) : Int) := by rw [wrap64_id _ (by omega) (by omega)]; rfl
    have hj : j < seen.length := by omega
    have hd : seen.drop j = seen[j] :: seen.drop (j + 1) := List.drop_eq_getElem_cons hj
    rw [hd, List.any_cons] at hk
    by_cases c : b = true
    · subst c
      obtain ⟨k, e⟩ := ref20_Nodes_l2 x seen x4 s t ht ht2 hl r n (j + 1) true (by omega) (by simpa using hk)
      refine ⟨k + 1, ?_⟩
      unfold shunterref20_Nodes.l2
      rw [if_pos (by omega), if_pos rfl, hw]
      exact e
    · have c1 : b = false := by simpa using c
      subst c1
      rw [Bool.false_or] at hk
      obtain ⟨k, e⟩ := ref20_Nodes_l2 x seen x4 s t ht ht2 hl r n (j + 1) (seen[j].toList == (s.extract 0 t).toList) (by omega) hk
      refine ⟨k + 1, ?_⟩
      unfold shunterref20_Nodes.l2
      rw [if_pos (by omega), if_neg (by decide), if_pos (by omega), if_pos (by omega), if_pos (by omega), hw, rdOf_at _ _ _ hj, Int.toNat_natCast]
      exact e
/-- A place on the way to a prefix. -/
def onT (y : TI) (a b : Nat) : Prop := a ≤ y.len ∧ y.key / 2 ^ (y.len - a) = b
theorem nodeAt_on {l : List TI} {y : TI} (hy : y ∈ l) {a b : Nat} (h : onT y a b) : ¬ nodeAt l a b = none := by
  unfold nodeAt
  rw [if_pos (.inr ((nodeIn_iff l a b).2 ⟨y, hy, h.1, h.2⟩))]
  simp
theorem ref20_Nodes_l1 (W : Nat) (l : List TI) (hf : fitT W l) (hW : W ≤ 128) (hl : l.length ≤ 1000) (y : TI) (hy : y ∈ l) (x : List S45) (x4 : Int) (s : ByteArray) (hs : s.toList = bitK y.len y.key) (B : Nat → Nat → Prop) (r : Int)
    (hr : ∀ S seen, SN l S seen → (∀ a b, (a, b) ∈ S ↔ B a b ∨ onT y a b) → ∃ k, shunterref20_Nodes.l0 k x seen (wrap64 (x4 + 1)) = some r) : ∀ (d t : Nat) (S : List (Nat × Nat)) (seen : List ByteArray), t + d = y.len + 1 → SN l S seen → (∀ a b, (a, b) ∈ S ↔ B a b ∨ (a < t ∧ onT y a b)) →
    ∃ k, shunterref20_Nodes.l1 k x seen x4 s (t : Int) = some r
  | 0, t, S, seen, h1, h2, h3 => by
    have hsz : s.size = y.len := by rw [← toList_size, hs, bitK_length]
    obtain ⟨k, e⟩ := hr S seen h2 (fun a b => by
      rw [h3]
      constructor
      · rintro (h | ⟨_, h⟩)
        · exact .inl h
        · exact .inr h
      · rintro (h | h)
        · exact .inl h
        · exact .inr ⟨by have := h.1; omega, h⟩)
    refine ⟨k + 1, ?_⟩
    unfold shunterref20_Nodes.l1
    rw [if_neg (by omega)]
    exact e
  | d + 1, t, S, seen, h1, h2, h3 => by
    have hsz : s.size = y.len := by rw [← toList_size, hs, bitK_length]
    have hyf := hf y hy
    have ht : t ≤ y.len := by omega
    have hon : onT y t (y.key / 2 ^ (y.len - t)) := ⟨ht, rfl⟩
    have hin := nodeAt_on hy hon
    have hkey := nodeAt_key hf hin
    have hcut : (s.extract 0 t).toList = bitK t (y.key / 2 ^ (y.len - t)) := by rw [toList_cut, hs, bitK_take ht]
    have hSl : S.length ≤ 1 + 1000 * 129 := by
      refine Nat.le_trans (List.Nodup.length_le_of_subset h2.nd (fun p hp => ?_)) (Nat.le_trans (begins_length W l hf) (by have := Nat.mul_le_mul hl (show W + 1 ≤ 129 by omega); omega))
      obtain ⟨a, b⟩ := p
      exact mem_begins (h2.is _ hp)
    have hlen := h2.length
    have hany := h2.any hf t (y.key / 2 ^ (y.len - t)) hkey
    rw [← hcut] at hany
    obtain ⟨k, e⟩ := ref20_Nodes_l2 x seen x4 s t (by omega) (by omega) (by omega) r seen.length 0 false (by omega) (by
      rw [List.drop_zero, Bool.false_or]
      by_cases c : (t, y.key / 2 ^ (y.len - t)) ∈ S
      · obtain ⟨k, e⟩ := ref20_Nodes_l1 W l hf hW hl y hy x x4 s hs B r hr d (t + 1) S seen (by omega) h2 (fun a b => by
          rw [h3]
          constructor
          · rintro (h | ⟨h, h4⟩)
            · exact .inl h
            · exact .inr ⟨by omega, h4⟩
          · rintro (h | ⟨h, h4⟩)
            · exact .inl h
            · by_cases e : a = t
              · subst e
                have e2 : b = y.key / 2 ^ (y.len - a) := h4.2.symm
                subst e2
                exact (h3 _ _).1 c
              · exact .inr ⟨by omega, h4⟩)
        exact ⟨k, by rw [if_pos (hany.2 c)]; exact e⟩
      · obtain ⟨k, e⟩ := ref20_Nodes_l1 W l hf hW hl y hy x x4 s hs B r hr d (t + 1) _ _ (by omega) (h2.add c hin hcut) (fun a b => by
          rw [List.mem_append, List.mem_singleton, h3]
          constructor
          · rintro ((h | ⟨h, h4⟩) | h)
            · exact .inl h
            · exact .inr ⟨by omega, h4⟩
            · injection h with e1 e2
              subst e1 e2
              exact .inr ⟨by omega, hon⟩
          · rintro (h | ⟨h, h4⟩)
            · exact .inl (.inl h)
            · by_cases e : a = t
              · subst e
                have e2 : b = y.key / 2 ^ (y.len - a) := h4.2.symm
                subst e2
                exact .inr rfl
              · exact .inl (.inr ⟨by omega, h4⟩))
        exact ⟨k, by rw [if_neg (fun h => c (hany.1 h))]; exact e⟩)
    refine ⟨k + 1, ?_⟩
    unfold shunterref20_Nodes.l1
    rw [if_pos (by omega)]
    exact e
theorem nodeAt_snoc_on (l : List TI) (y : TI) (a b : Nat) : ¬ nodeAt (l ++ [y]) a b = none ↔ ¬ nodeAt l a b = none ∨ onT y a b := by
  have h : ∀ l : List TI, ¬ nodeAt l a b = none ↔ (a = 0 ∧ b = 0) ∨ nodeIn l a b = true := by
    intro l
    unfold nodeAt
    split
    case isTrue c => simp [c]
    case isFalse c => simp [c]
  rw [h, h, nodeIn_snoc]
  unfold onT
  rw [Bool.or_eq_true, Bool.and_eq_true, decide_eq_true_eq, beq_iff_eq]
  constructor
  · rintro (h | h | h)
    · exact .inl (.inl h)
    · exact .inl (.inr h)
    · exact .inr h
  · rintro ((h | h) | h)
    · exact .inl h
    · exact .inr (.inl h)
    · exact .inr (.inr h)
theorem LeO_up {α : Type} (f : Nat → Option α) (h : ∀ k, LeO (f k) (f (k + 1))) (a : Nat) : ∀ d, LeO (f a) (f (a + d))
  | 0 => LeO.refl _
  | d + 1 => (LeO_up f h a d).trans (h (a + d))
theorem ref20_Nodes_l0 (W : Nat) (x : List S45) (hok : ∀ y ∈ x, okP W y) (hW : W ≤ 128) (hx : x.length ≤ 1000) : ∀ (n i : Nat) (S : List (Nat × Nat)) (seen : List ByteArray), i + n = x.length → SN (x.map (toTI W)) S seen → (∀ a b, (a, b) ∈ S ↔ ¬ nodeAt ((x.map (toTI W)).take i) a b = none) →
    ∃ k, shunterref20_Nodes.l0 k x seen (i : Int) = some ((countT (x.map (toTI W)) (W + 1) 0 0 : Nat) : Int)
  | 0, i, S, seen, h1, h2, h3 => by
    refine ⟨1, ?_⟩
    unfold shunterref20_Nodes.l0
    rw [if_neg (by omega)]
    have hf := toTI_fit hok
    have hp : S.Perm (nodesT (x.map (toTI W)) (W + 1) 0 0) := by
      refine (List.perm_ext_iff_of_nodup h2.nd (nodes_nodup _ _ _ _)).2 (fun p => ?_)
      obtain ⟨a, b⟩ := p
      rw [h3, mem_nodes, List.take_of_length_le (by rw [List.length_map]; omega)]
      constructor
      · intro h
        refine ⟨Nat.zero_le _, ?_, by rw [Nat.sub_zero]; exact Nat.div_eq_of_lt (nodeAt_key hf h), h⟩
        rcases Nat.lt_or_ge a (0 + (W + 1)) with c | c
        · exact c
        · exact absurd (nodeAt_deep hf (by omega)) h
      · rintro ⟨_, _, _, h⟩; exact h
    rw [h2.length, hp.length_eq, nodes_length]
  | n + 1, i, S, seen, h1, h2, h3 => by
    have hi : i < x.length := by omega
    have hf := toTI_fit hok
    have hw : wrap64 ((i : Int) + 1) = ((i + 1 : Nat) : Int) := by rw [wrap64_id _ (by omega) (by omega)]; rfl
    have hil : i < (x.map (toTI W)).length := by rw [List.length_map]; exact hi
    have htk : (x.map (toTI W)).take (i + 1) = (x.map (toTI W)).take i ++ [toTI W x[i]] := by rw [List.take_succ_eq_append_getElem hil, List.getElem_map]
    obtain ⟨s, hs0, hs1⟩ := ref20_bits_eq W hW x[i] (hok _ (List.getElem_mem hi)) 140 (Nat.le_refl _)
    have hmem : toTI W x[i] ∈ x.map (toTI W) := List.mem_map.2 ⟨_, List.getElem_mem hi, rfl⟩
    obtain ⟨k, e⟩ := ref20_Nodes_l1 W (x.map (toTI W)) hf hW (by rw [List.length_map]; exact hx) (toTI W x[i]) hmem x (i : Int) s hs1 (fun a b => ¬ nodeAt ((x.map (toTI W)).take i) a b = none) _
      (fun S1 seen1 g1 g2 => by
        rw [hw]
        exact ref20_Nodes_l0 W x hok hW hx n (i + 1) S1 seen1 (by omega) g1 (fun a b => by rw [g2, htk, nodeAt_snoc_on])) (toTI W x[i]).len 1 S seen (by omega) h2 (fun a b => by
        rw [h3]
        constructor
        · exact .inl
        · rintro (h | ⟨h, h4⟩)
          · exact h
          · have ea : a = 0 := by omega
            subst ea
            have eb : b = 0 := by
              rw [← h4.2, Nat.sub_zero]
              exact Nat.div_eq_of_lt (hf _ hmem).2
            subst eb
            unfold nodeAt
            rw [if_pos (.inl ⟨rfl, rfl⟩)]
            simp)
    refine ⟨k + 140 + 1, ?_⟩
    unfold shunterref20_Nodes.l0
    rw [if_pos (by omega), if_pos (by omega), rd45 x i hi]
    have h5 : shunterref20_bits.f (140 + k) x[i].f0.f0 x[i].f0.f1 x[i].f0.f2 x[i].f1 x[i].f2 = some s := LeO_up (fun k => shunterref20_bits.f k x[i].f0.f0 x[i].f0.f1 x[i].f0.f2 x[i].f1 x[i].f2) (fun k => shunterref20_bits.mono _ _ _ _ _ k) 140 k _ hs0
    rw [Nat.add_comm] at h5
    rw [h5, Option.bind_some]
    exact LeO_up (fun k => shunterref20_Nodes.l1 k x seen (i : Int) s 1) (fun k => (shunterref20_Nodes.mono_l k).2.1 _ _ _ _ _) k 140 _ e
theorem ref20_Nodes_eq (W : Nat) (x : List S45) (hok : ∀ y ∈ x, okP W y) (hW : W ≤ 128) (hx : x.length ≤ 1000) : ∃ k, shunterref20_Nodes.f k x = some ((countT (x.map (toTI W)) (W + 1) 0 0 : Nat) : Int) := by
  unfold shunterref20_Nodes.f
  refine ref20_Nodes_l0 W x hok hW hx x.length 0 [(0, 0)] _ (by omega) ⟨by simp [ByteArray.toList_eq, bitK], by simp, fun p hp => ?_⟩ (fun a b => ?_)
  · rw [List.mem_singleton] at hp
    subst hp
    unfold nodeAt
    rw [if_pos (.inl ⟨rfl, rfl⟩)]
    simp
  · rw [List.take_zero, List.mem_singleton]
    unfold nodeAt
    constructor
    · intro h
      injection h with h1 h2
      rw [if_pos (.inl ⟨h1, h2⟩)]
      simp
    · intro h
      split at h
      case isTrue c =>
        rcases c with ⟨c1, c2⟩ | c
        · rw [c1, c2]
        · cases c
      case isFalse => exact absurd rfl h
end Go.Proofs.Ytfdbcnbakchcgaa.XR
