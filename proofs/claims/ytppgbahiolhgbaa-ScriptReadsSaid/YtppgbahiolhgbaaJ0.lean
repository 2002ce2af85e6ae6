/- Contracts and plain laws over the seat, laid together (group 0 of what the claim needs). -/
import Derived.WalkKit
namespace Go.Proofs.YtppgbahiolhgbaaW.PrintLast
end Go.Proofs.YtppgbahiolhgbaaW.PrintLast
namespace Go.Proofs.YtppgbahiolhgbaaW.PrintWords
end Go.Proofs.YtppgbahiolhgbaaW.PrintWords
namespace Kd
end Kd
namespace Go.Proofs.Ytppgbahiolhgbaa
end Go.Proofs.Ytppgbahiolhgbaa
set_option linter.unusedVariables false
set_option linter.unusedSimpArgs false
namespace Go.Proofs.Ytppgbahiolhgbaa.Sp
abbrev Bytes := List UInt8
theorem snocInd {α : Type} {P : List α → Prop} (nil : P []) (snoc : ∀ l b, P l → P (l ++ [b])) (l : List α) : P l := by
  have h : ∀ m : List α, P m.reverse := by
    intro m
    induction m with
    | nil => exact nil
    | cons a t ih => rw [List.reverse_cons]; exact snoc _ _ ih
  have := h l.reverse
  rwa [List.reverse_reverse] at this
def val (l : Bytes) : Nat := l.foldl (fun v b => v * 256 + b.toNat) 0
theorem val_nil : val [] = 0 := rfl
theorem val_snoc (l : Bytes) (b : UInt8) : val (l ++ [b]) = val l * 256 + b.toNat := by simp [val, List.foldl_append]
theorem u8_lt (b : UInt8) : b.toNat < 256 := b.toNat_lt
theorem val_lt (l : Bytes) : val l < 256 ^ l.length := by
  induction l using snocInd with
  | nil => simp [val]
  | snoc l b ih =>
    rw [val_snoc, List.length_append, List.length_singleton, Nat.pow_succ]
    have := u8_lt b
    omega
def digs (v : Nat) : Bytes := if h : v = 0 then [] else digs (v / 256) ++ [UInt8.ofNat (v % 256)]
termination_by v
decreasing_by omega
theorem digs_zero : digs 0 = [] := by rw [digs]; simp
theorem digs_pos {v : Nat} (h : v ≠ 0) : digs v = digs (v / 256) ++ [UInt8.ofNat (v % 256)] := by rw [digs]; simp [h]
theorem ofNat_toNat_mod (v : Nat) : (UInt8.ofNat (v % 256)).toNat = v % 256 := by
  simp [UInt8.toNat_ofNat']
theorem val_digs (v : Nat) : val (digs v) = v := by
  induction v using Nat.strongRecOn with
  | _ v ih =>
    by_cases h : v = 0
    · subst h; rw [digs_zero]; rfl
    · rw [digs_pos h, val_snoc, ih (v / 256) (by omega), ofNat_toNat_mod]; omega
theorem digs_len_le (k : Nat) : ∀ v, v < 256 ^ k → (digs v).length ≤ k := by
  induction k with
  | zero => intro v h; have : v = 0 := by simpa using h
            subst this; simp [digs_zero]
  | succ k ih =>
    intro v h
    by_cases h0 : v = 0
    · subst h0; simp [digs_zero]
    · rw [digs_pos h0, List.length_append, List.length_singleton]
      have := ih (v / 256) (by rw [Nat.pow_succ] at h; omega)
      omega
theorem digs_ne {v : Nat} (h : v ≠ 0) : digs v ≠ [] := by rw [digs_pos h]; simp
theorem digs_head (v : Nat) : (digs v).head? ≠ some 0 := by
  induction v using Nat.strongRecOn with
  | _ v ih =>
    by_cases h : v = 0
    · subst h; simp [digs_zero]
    · rw [digs_pos h]
      by_cases h2 : v / 256 = 0
      · rw [h2, digs_zero]
        simp only [List.nil_append, List.head?_cons, ne_eq, Option.some.injEq]
        intro e
        have := congrArg UInt8.toNat e
        rw [ofNat_toNat_mod] at this
        simp at this
        omega
      · have hne := digs_ne h2
        rw [List.head?_append]
        have := ih (v / 256) (by omega)
        cases hd : digs (v / 256) with
        | nil => exact absurd hd hne
        | cons a t => rw [hd] at this; simpa using this
theorem val_cons_pos (b : UInt8) (l : Bytes) (hb : b ≠ 0) : 0 < val (b :: l) := by
  induction l using snocInd with
  | nil =>
    simp [val]
    have : b.toNat ≠ 0 := fun h => hb (by apply UInt8.toNat_inj.1; simpa using h)
    omega
  | snoc l c ih =>
    have : b :: (l ++ [c]) = (b :: l) ++ [c] := rfl
    rw [this, val_snoc]; omega
theorem digs_val (l : Bytes) (h : l.head? ≠ some 0) : digs (val l) = l := by
  induction l using snocInd with
  | nil => simp [val, digs_zero]
  | snoc l b ih =>
    have hb := u8_lt b
    rw [val_snoc]
    cases l with
    | nil =>
      have hb0 : b ≠ 0 := by simpa using h
      have : b.toNat ≠ 0 := fun h => hb0 (by apply UInt8.toNat_inj.1; simpa using h)
      rw [val_nil, digs_pos (by omega), show (0 * 256 + b.toNat) / 256 = 0 from by omega, digs_zero, show (0 * 256 + b.toNat) % 256 = b.toNat from by omega]
      simp
    | cons a t =>
      have ha : a ≠ 0 := by simpa using h
      have hp := val_cons_pos a t ha
      rw [digs_pos (by omega), show (val (a :: t) * 256 + b.toNat) / 256 = val (a :: t) from by omega, show (val (a :: t) * 256 + b.toNat) % 256 = b.toNat from by omega, ih (by simpa using ha)]
      simp
def numB (v : Nat) : Bytes := if v < 248 then [UInt8.ofNat v] else UInt8.ofNat (247 + (digs v).length) :: digs v
def rdNum : Bytes → Nat × Nat × Nat
  | [] => (0, 0, 6)
  | b :: t =>
    if b.toNat ≤ 247 then (b.toNat, 1, 0)
    else if t.length < b.toNat - 247 then (0, 0, 6)
    else if (t.take (b.toNat - 247)).head? = some 0 ∨ val (t.take (b.toNat - 247)) ≤ 247 then (0, 0, 7)
    else (val (t.take (b.toNat - 247)), b.toNat - 247 + 1, 0)
theorem rdNum_small {b : UInt8} (t : Bytes) (h : b.toNat ≤ 247) : rdNum (b :: t) = (b.toNat, 1, 0) := by unfold rdNum; simp only; rw [if_pos h]
theorem rdNum_short {b : UInt8} {t : Bytes} (h : 247 < b.toNat) (h2 : t.length < b.toNat - 247) : rdNum (b :: t) = (0, 0, 6) := by
  unfold rdNum; simp only; rw [if_neg (by omega), if_pos h2]
theorem rdNum_form {b : UInt8} {t : Bytes} (h : 247 < b.toNat) (h2 : b.toNat - 247 ≤ t.length) (h3 : (t.take (b.toNat - 247)).head? = some 0 ∨ val (t.take (b.toNat - 247)) ≤ 247) : rdNum (b :: t) = (0, 0, 7) := by
  unfold rdNum; simp only; rw [if_neg (by omega), if_neg (by omega), if_pos h3]
theorem rdNum_fine {b : UInt8} {t : Bytes} (h : 247 < b.toNat) (h2 : b.toNat - 247 ≤ t.length) (h3 : ¬((t.take (b.toNat - 247)).head? = some 0 ∨ val (t.take (b.toNat - 247)) ≤ 247)) : rdNum (b :: t) = (val (t.take (b.toNat - 247)), b.toNat - 247 + 1, 0) := by
  unfold rdNum; simp only; rw [if_neg (by omega), if_neg (by omega), if_neg h3]
theorem pow8 : (256 : Nat) ^ 8 = 18446744073709551616 := by rfl
theorem val_take_lt (t : Bytes) (n : Nat) (hn : n ≤ 8) : val (t.take n) < 18446744073709551616 := by
  have h := val_lt (t.take n)
  have h1 : (t.take n).length ≤ 8 := by rw [List.length_take]; omega
  have h2 := Nat.pow_le_pow_right (n := 256) (by omega) h1
  have h3 := pow8
  exact Nat.lt_of_lt_of_le h (h3 ▸ h2)
theorem rdNum_lt (l : Bytes) : (rdNum l).1 < 18446744073709551616 := by
  unfold rdNum
  split
  · decide
  · rename_i b t
    have hb := u8_lt b
    split
    · simp only; omega
    · split
      · decide
      · split
        · decide
        · have h := val_take_lt t (b.toNat - 247) (by omega)
          dsimp only
          exact h
theorem digs_len_pos {v : Nat} (h : 248 ≤ v) : 1 ≤ (digs v).length := by
  have := digs_ne (v := v) (by omega)
  cases hd : digs v with
  | nil => exact absurd hd this
  | cons a t => simp
theorem rdNum_numB (v : Nat) (hv : v < 18446744073709551616) (t : Bytes) : rdNum (numB v ++ t) = (v, (numB v).length, 0) := by
  unfold numB
  split
  · rename_i h
    simp only [List.cons_append, List.nil_append, rdNum, List.length_singleton]
    have e : (UInt8.ofNat v).toNat = v := by rw [UInt8.toNat_ofNat']; omega
    rw [e, if_pos (by omega)]
  · rename_i h
    have hl := digs_len_le 8 v (by rw [pow8]; exact hv)
    have hl1 := digs_len_pos (v := v) (by omega)
    have e : (UInt8.ofNat (247 + (digs v).length)).toNat = 247 + (digs v).length := by rw [UInt8.toNat_ofNat']; omega
    have et : List.take (247 + (digs v).length - 247) (digs v ++ t) = digs v := by
      rw [show 247 + (digs v).length - 247 = (digs v).length from by omega]; simp
    simp only [List.cons_append, rdNum, e]
    rw [if_neg (by omega), if_neg (by rw [List.length_append]; omega), et, val_digs, if_neg (by
      intro h; rcases h with h | h
      · exact digs_head v h
      · omega)]
    simp only [List.length_cons, Prod.mk.injEq, and_true, true_and]
    omega
theorem rdNum_ok {l : Bytes} {v n : Nat} (h : rdNum l = (v, n, 0)) : n ≤ l.length ∧ l.take n = numB v ∧ n = (numB v).length ∧ 1 ≤ n := by
  unfold rdNum at h
  split at h
  · simp at h
  · rename_i b t
    have hb := u8_lt b
    split at h
    · rename_i h1
      simp only [Prod.mk.injEq, and_true] at h
      obtain ⟨rfl, rfl⟩ := h
      refine ⟨by simp, ?_, ?_, by omega⟩
      · unfold numB; rw [if_pos (by omega)]; simp
      · unfold numB; rw [if_pos (by omega)]; simp
    · rename_i h1
      split at h
      · simp at h
      · rename_i h2
        split at h
        · simp at h
        · rename_i h3
          simp only [Prod.mk.injEq, and_true] at h
          obtain ⟨rfl, rfl⟩ := h
          have h30 : (t.take (b.toNat - 247)).head? ≠ some 0 := fun e => h3 (Or.inl e)
          have h31 : ¬ val (t.take (b.toNat - 247)) ≤ 247 := fun e => h3 (Or.inr e)
          have e := digs_val _ h30
          have hlen : (t.take (b.toNat - 247)).length = b.toNat - 247 := by rw [List.length_take]; omega
          have hn : numB (val (t.take (b.toNat - 247))) = b :: t.take (b.toNat - 247) := by
            unfold numB
            rw [if_neg (by omega), e, hlen, show 247 + (b.toNat - 247) = b.toNat from by omega]
            simp
          refine ⟨by simp; omega, ?_, ?_, by omega⟩
          · rw [hn, List.take_succ_cons]
          · rw [hn, List.length_cons, hlen]
theorem numB_len (v : Nat) (hv : v < 18446744073709551616) : 1 ≤ (numB v).length ∧ (numB v).length ≤ 9 := by
  unfold numB
  split
  · simp
  · have := digs_len_le 8 v (by rw [pow8]; exact hv)
    simp; omega
def textB (s : Bytes) : Bytes := numB s.length ++ s
def rdText (l : Bytes) (most : Nat) : Bytes × Nat × Nat :=
  if (rdNum l).2.2 ≠ 0 then ([], 0, (rdNum l).2.2)
  else if most < (rdNum l).1 then ([], 0, 5)
  else if l.length - (rdNum l).2.1 < (rdNum l).1 then ([], 0, 6)
  else ((l.drop (rdNum l).2.1).take (rdNum l).1, (rdNum l).2.1 + (rdNum l).1, 0)
theorem rdText_textB (s : Bytes) (most : Nat) (hm : s.length ≤ most) (hs : s.length < 18446744073709551616) (t : Bytes) : rdText (textB s ++ t) most = (s, (textB s).length, 0) := by
  have e := rdNum_numB s.length hs (s ++ t)
  unfold rdText textB
  rw [List.append_assoc, e]
  simp only [ne_eq, not_true_eq_false, if_false]
  rw [if_neg (by omega), if_neg (by simp [List.length_append])]
  simp [List.length_append]
theorem rdText_ok {l s : Bytes} {most n : Nat} (h : rdText l most = (s, n, 0)) : n ≤ l.length ∧ l.take n = textB s ∧ n = (textB s).length ∧ s.length ≤ most ∧ 1 ≤ n := by
  unfold rdText at h
  generalize hr : rdNum l = r at h
  obtain ⟨v, k, e⟩ := r
  simp only at h
  split at h
  · rename_i he; simp only [Prod.mk.injEq] at h; exact absurd h.2.2 he
  · rename_i he
    have he' : e = 0 := by simpa using he
    subst he'
    split at h
    · simp at h
    · rename_i h1
      split at h
      · simp at h
      · rename_i h2
        simp only [Prod.mk.injEq, and_true] at h
        obtain ⟨rfl, rfl⟩ := h
        obtain ⟨a1, a2, a3, a4⟩ := rdNum_ok hr
        have hl : ((l.drop k).take v).length = v := by rw [List.length_take, List.length_drop]; omega
        refine ⟨by omega, ?_, ?_, by omega, by omega⟩
        · unfold textB
          rw [hl, ← a2, List.take_add]
        · unfold textB
          rw [List.length_append, hl, ← a3]
end Go.Proofs.Ytppgbahiolhgbaa.Sp
