/- Contracts and plain laws over the seat, laid together (group 25 of what the claim needs). -/
import Derived.Shelf.Small.Utf8
import Derived.Shelf.Small.Strs
import Derived.Shelf.Strings.Search1
import Derived.Shelf.Strings.Runes
import Derived.Test.YtppgbahiolhgbaaProg
import Derived.WalkKit
import Derived.Test.YtppgbahiolhgbaaH15
import Derived.Laws.BitsAllLaws
import Derived.Lib.Strings
import Derived.WalkLawsBesides
import Derived.WalkSpells
import Derived.Deep.LoopGhost
import Derived.Lib.Hide
import Derived.Deep.QuietTactic
import Derived.Tactics
import Derived.Below
import Derived.Deep.Draws
import Derived.Deep.OwnRows
import Derived.OwnWalk
import Derived.Laws.AppendOwn
import Derived.ChangeSame
import Derived.ProofKit
import Derived.Laws.Runes
import Derived.Laws.RangeAny
import Derived.Laws.RangeString
import Derived.BigQuiet
import Derived.Lib.IndexLaws
import Derived.ScopeJumps
import Derived.Test.YtppgbahiolhgbaaH14
import Derived.Lib.ConvBytes
import Derived.Test.YtppgbahiolhgbaaH24
import Derived.Lib.OthersKept
section
namespace Go.Proofs
open Go.Shelf
def Try.lays119_ren : Go.Shelf.Ren := ⟨fun | 119 => 78 | n => n, fun | 21 => 21 | 4 => 4 | n => n, fun | n => n⟩
theorem Try.lays119 : Go.Proofs.Lays.n119 Try.prog Try.lays119_ren := {
  mixed := by kernel_rfl
  f119 := Try.func78.trans (congrArg some (by kernel_rfl))
  t4 := Try.underlying4
  a4 := Try.isAgg4
  z4 := Try.sizeOf4
  v4 := Try.zeroValue4
  t21 := Try.underlying21
  a21 := Try.isAgg21
  z21 := Try.sizeOf21
  v21 := Try.zeroValue21 }
theorem Try.utf8_ValidRune (r : Int) (w : World) :
    Calls Try.prog 78 #[.int .i32 r] w fun e w' => e = .returned (.bool (Lib.validRune r)) ∧ w' = w := Any.utf8_ValidRune Try.lays119 r w
def Try.lays137_ren : Go.Shelf.Ren := ⟨fun | 137 => 77 | 217 => 81 | 266 => 82 | n => n, fun | 9 => 9 | 5 => 5 | 3 => 3 | n => n, fun | n => n⟩
theorem Try.lays137 : Go.Proofs.Lays.n137 Try.prog Try.lays137_ren := {
  mixed := by kernel_rfl
  f137 := Try.func77.trans (congrArg some (by kernel_rfl))
  f217 := Try.func81.trans (congrArg some (by kernel_rfl))
  f266 := Try.func82.trans (congrArg some (by kernel_rfl))
  t3 := Try.underlying3
  a3 := Try.isAgg3
  z3 := Try.sizeOf3
  v3 := Try.zeroValue3
  t5 := Try.underlying5
  a5 := Try.isAgg5
  z5 := Try.sizeOf5
  v5 := Try.zeroValue5
  t9 := Try.underlying9
  a9 := Try.isAgg9
  z9 := Try.sizeOf9
  v9 := Try.zeroValue9 }
open Go.RowKit in
theorem Try.strings_IndexByte (s : ByteArray) (c : Int) (w : World) :
    Calls Try.prog 77 #[.string s, .int .u8 c] w fun e w' => e = .returned (.int .i64 (Lib.indexByte s.data.toList c.toNat.toUInt8)) ∧ w' = w := Any.strings_IndexByte Try.lays137 s c w
def Try.lays151_ren : Go.Shelf.Ren := ⟨fun | 151 => 74 | 152 => 76 | 137 => 77 | 119 => 78 | 224 => 79 | 225 => 80 | 217 => 81 | 266 => 82 | n => n, fun | 9 => 9 | 21 => 21 | 4 => 4 | 3 => 3 | 5 => 5 | 0 => 0 | 46 => 122 | n => n, fun | n => n⟩
theorem Try.lays151 : Go.Proofs.Lays.n151 Try.prog Try.lays151_ren := {
  mixed := by kernel_rfl
  f119 := Try.func78.trans (congrArg some (by kernel_rfl))
  f137 := Try.func77.trans (congrArg some (by kernel_rfl))
  f151 := Try.func74.trans (congrArg some (by kernel_rfl))
  f152 := Try.func76.trans (congrArg some (by kernel_rfl))
  f217 := Try.func81.trans (congrArg some (by kernel_rfl))
  f224 := Try.func79.trans (congrArg some (by kernel_rfl))
  f225 := Try.func80.trans (congrArg some (by kernel_rfl))
  f266 := Try.func82.trans (congrArg some (by kernel_rfl))
  t0 := Try.underlying0
  a0 := Try.isAgg0
  z0 := Try.sizeOf0
  v0 := Try.zeroValue0
  t3 := Try.underlying3
  a3 := Try.isAgg3
  z3 := Try.sizeOf3
  v3 := Try.zeroValue3
  t4 := Try.underlying4
  a4 := Try.isAgg4
  z4 := Try.sizeOf4
  v4 := Try.zeroValue4
  t5 := Try.underlying5
  a5 := Try.isAgg5
  z5 := Try.sizeOf5
  v5 := Try.zeroValue5
  t9 := Try.underlying9
  a9 := Try.isAgg9
  z9 := Try.sizeOf9
  v9 := Try.zeroValue9
  t21 := Try.underlying21
  a21 := Try.isAgg21
  z21 := Try.sizeOf21
  v21 := Try.zeroValue21
  t46 := Try.underlying122
  a46 := Try.isAgg122
  z46 := Try.sizeOf122
  v46 := Try.zeroValue122 }
open Go.RowKit Go.Lib in
theorem Try.strings_ContainsRune_ascii (s : ByteArray) (r : Int) (w : World) (h0 : 0 ≤ r) (h1 : r < 128) :
    Calls Try.prog 74 #[.string s, .int .i32 r] w fun e w' => e = .returned (.bool (decide (0 ≤ Lib.indexByte s.data.toList r.toNat.toUInt8))) ∧ w' = w := Any.strings_ContainsRune_ascii Try.lays151 s r w h0 h1
end Go.Proofs
end
section
set_option linter.unusedVariables false
set_option linter.unusedSimpArgs false
namespace Go.Proofs.Ytppgbahiolhgbaa.Sp
abbrev Bytes := List UInt8
theorem snocInd {α : Type} {P : List α → Prop} (nil : P []) (snoc : ∀ l b, P l → P (l ++ [b])) (l : List α) : P l := by
  have h : ∀ m : List α, P m.reverse := by
    intro m
    induction m with
    | nil => exact nil
    | cons a t ih => rw [List.reverse_cons]; exact snoc _ _ ih
  have := h l.reverse
  rwa [List.reverse_reverse] at this
def val (l : Bytes) : Nat := l.foldl (fun v b => v * 256 + b.toNat) 0
theorem val_nil : val [] = 0 := rfl
theorem val_snoc (l : Bytes) (b : UInt8) : val (l ++ [b]) = val l * 256 + b.toNat := by simp [val, List.foldl_append]
theorem u8_lt (b : UInt8) : b.toNat < 256 := b.toNat_lt
theorem val_lt (l : Bytes) : val l < 256 ^ l.length := by
  induction l using snocInd with
  | nil => simp [val]
  | snoc l b ih =>
    rw [val_snoc, List.length_append, List.length_singleton, Nat.pow_succ]
    have := u8_lt b
    omega
def digs (v : Nat) : Bytes := if h : v = 0 then [] else digs (v / 256) ++ [UInt8.ofNat (v % 256)]
termination_by v
decreasing_by omega
theorem digs_zero : digs 0 = [] := by rw [digs]; simp
theorem digs_pos {v : Nat} (h : v ≠ 0) : digs v = digs (v / 256) ++ [UInt8.ofNat (v % 256)] := by rw [digs]; simp [h]
theorem ofNat_toNat_mod (v : Nat) : (UInt8.ofNat (v % 256)).toNat = v % 256 := by
  simp [UInt8.toNat_ofNat']
theorem val_digs (v : Nat) : val (digs v) = v := by
  induction v using Nat.strongRecOn with
  | _ v ih =>
    by_cases h : v = 0
    · subst h; rw [digs_zero]; rfl
    · rw [digs_pos h, val_snoc, ih (v / 256) (by omega), ofNat_toNat_mod]; omega
theorem digs_len_le (k : Nat) : ∀ v, v < 256 ^ k → (digs v).length ≤ k := by
  induction k with
  | zero => intro v h; have : v = 0 := by simpa using h
            subst this; simp [digs_zero]
  | succ k ih =>
    intro v h
    by_cases h0 : v = 0
    · subst h0; simp [digs_zero]
    · rw [digs_pos h0, List.length_append, List.length_singleton]
      have := ih (v / 256) (by rw [Nat.pow_succ] at h; omega)
      omega
theorem digs_ne {v : Nat} (h : v ≠ 0) : digs v ≠ [] := by rw [digs_pos h]; simp
theorem digs_head (v : Nat) : (digs v).head? ≠ some 0 := by
  induction v using Nat.strongRecOn with
  | _ v ih =>
    by_cases h : v = 0
    · subst h; simp [digs_zero]
    · rw [digs_pos h]
      by_cases h2 : v / 256 = 0
      · rw [h2, digs_zero]
        simp only [List.nil_append, List.head?_cons, ne_eq, Option.some.injEq]
        intro e
        have := congrArg UInt8.toNat e
        rw [ofNat_toNat_mod] at this
        simp at this
        omega
      · have hne := digs_ne h2
        rw [List.head?_append]
        have := ih (v / 256) (by omega)
        cases hd : digs (v / 256) with
        | nil => exact absurd hd hne
        | cons a t => rw [hd] at this; simpa using this
theorem val_cons_pos (b : UInt8) (l : Bytes) (hb : b ≠ 0) : 0 < val (b :: l) := by
  induction l using snocInd with
  | nil =>
    simp [val]
    have : b.toNat ≠ 0 := fun h => hb (by apply UInt8.toNat_inj.1; simpa using h)
    omega
  | snoc l c ih =>
    have : b :: (l ++ [c]) = (b :: l) ++ [c] := rfl
    rw [this, val_snoc]; omega
theorem digs_val (l : Bytes) (h : l.head? ≠ some 0) : digs (val l) = l := by
  induction l using snocInd with
  | nil => simp [val, digs_zero]
  | snoc l b ih =>
    have hb := u8_lt b
    rw [val_snoc]
    cases l with
    | nil =>
      have hb0 : b ≠ 0 := by simpa using h
      have : b.toNat ≠ 0 := fun h => hb0 (by apply UInt8.toNat_inj.1; simpa using h)
      rw [val_nil, digs_pos (by omega), show (0 * 256 + b.toNat) / 256 = 0 from by omega, digs_zero, show (0 * 256 + b.toNat) % 256 = b.toNat from by omega]
      simp
    | cons a t =>
      have ha : a ≠ 0 := by simpa using h
      have hp := val_cons_pos a t ha
      rw [digs_pos (by omega), show (val (a :: t) * 256 + b.toNat) / 256 = val (a :: t) from by omega, show (val (a :: t) * 256 + b.toNat) % 256 = b.toNat from by omega, ih (by simpa using ha)]
      simp
def numB (v : Nat) : Bytes := if v < 248 then [UInt8.ofNat v] else UInt8.ofNat (247 + (digs v).length) :: digs v
def rdNum : Bytes → Nat × Nat × Nat
  | [] => (0, 0, 6)
  | b :: t =>
    if b.toNat ≤ 247 then (b.toNat, 1, 0)
    else if t.length < b.toNat - 247 then (0, 0, 6)
    else if (t.take (b.toNat - 247)).head? = some 0 ∨ val (t.take (b.toNat - 247)) ≤ 247 then (0, 0, 7)
    else (val (t.take (b.toNat - 247)), b.toNat - 247 + 1, 0)
theorem rdNum_small {b : UInt8} (t : Bytes) (h : b.toNat ≤ 247) : rdNum (b :: t) = (b.toNat, 1, 0) := by unfold rdNum; simp only; rw [if_pos h]
theorem rdNum_short {b : UInt8} {t : Bytes} (h : 247 < b.toNat) (h2 : t.length < b.toNat - 247) : rdNum (b :: t) = (0, 0, 6) := by
  unfold rdNum; simp only; rw [if_neg (by omega), if_pos h2]
theorem rdNum_form {b : UInt8} {t : Bytes} (h : 247 < b.toNat) (h2 : b.toNat - 247 ≤ t.length) (h3 : (t.take (b.toNat - 247)).head? = some 0 ∨ val (t.take (b.toNat - 247)) ≤ 247) : rdNum (b :: t) = (0, 0, 7) := by
  unfold rdNum; simp only; rw [if_neg (by omega), if_neg (by omega), if_pos h3]
theorem rdNum_fine {b : UInt8} {t : Bytes} (h : 247 < b.toNat) (h2 : b.toNat - 247 ≤ t.length) (h3 : ¬((t.take (b.toNat - 247)).head? = some 0 ∨ val (t.take (b.toNat - 247)) ≤ 247)) : rdNum (b :: t) = (val (t.take (b.toNat - 247)), b.toNat - 247 + 1, 0) := by
  unfold rdNum; simp only; rw [if_neg (by omega), if_neg (by omega), if_neg h3]
theorem pow8 : (256 : Nat) ^ 8 = 18446744073709551616 := by rfl
theorem val_take_lt (t : Bytes) (n : Nat) (hn : n ≤ 8) : val (t.take n) < 18446744073709551616 := by
  have h := val_lt (t.take n)
  have h1 : (t.take n).length ≤ 8 := by rw [List.length_take]; omega
  have h2 := Nat.pow_le_pow_right (n := 256) (by omega) h1
  have h3 := pow8
  exact Nat.lt_of_lt_of_le h (h3 ▸ h2)
theorem rdNum_lt (l : Bytes) : (rdNum l).1 < 18446744073709551616 := by
  unfold rdNum
  split
  · decide
  · rename_i b t
    have hb := u8_lt b
    split
    · simp only; omega
    · split
      · decide
      · split
        · decide
        · have h := val_take_lt t (b.toNat - 247) (by omega)
          dsimp only
          exact h
theorem digs_len_pos {v : Nat} (h : 248 ≤ v) : 1 ≤ (digs v).length := by
  have := digs_ne (v := v) (by omega)
  cases hd : digs v with
  | nil => exact absurd hd this
  | cons a t => simp
theorem rdNum_numB (v : Nat) (hv : v < 18446744073709551616) (t : Bytes) : rdNum (numB v ++ t) = (v, (numB v).length, 0) := by
  unfold numB
  split
  · rename_i h
    simp only [List.cons_append, List.nil_append, rdNum, List.length_singleton]
    have e : (UInt8.ofNat v).toNat = v := by rw [UInt8.toNat_ofNat']; omega
    rw [e, if_pos (by omega)]
  · rename_i h
    have hl := digs_len_le 8 v (by rw [pow8]; exact hv)
    have hl1 := digs_len_pos (v := v) (by omega)
    have e : (UInt8.ofNat (247 + (digs v).length)).toNat = 247 + (digs v).length := by rw [UInt8.toNat_ofNat']; omega
    have et : List.take (247 + (digs v).length - 247) (digs v ++ t) = digs v := by
      rw [show 247 + (digs v).length - 247 = (digs v).length from by omega]; simp
    simp only [List.cons_append, rdNum, e]
    rw [if_neg (by omega), if_neg (by rw [List.length_append]; omega), et, val_digs, if_neg (by
      intro h; rcases h with h | h
      · exact digs_head v h
      · omega)]
    simp only [List.length_cons, Prod.mk.injEq, and_true, true_and]
    omega
theorem rdNum_ok {l : Bytes} {v n : Nat} (h : rdNum l = (v, n, 0)) : n ≤ l.length ∧ l.take n = numB v ∧ n = (numB v).length ∧ 1 ≤ n := by
  unfold rdNum at h
  split at h
  · simp at h
  · rename_i b t
    have hb := u8_lt b
    split at h
    · rename_i h1
      simp only [Prod.mk.injEq, and_true] at h
      obtain ⟨rfl, rfl⟩ := h
      refine ⟨by simp, ?_, ?_, by omega⟩
      · unfold numB; rw [if_pos (by omega)]; simp
      · unfold numB; rw [if_pos (by omega)]; simp
    · rename_i h1
      split at h
      · simp at h
      · rename_i h2
        split at h
        · simp at h
        · rename_i h3
          simp only [Prod.mk.injEq, and_true] at h
          obtain ⟨rfl, rfl⟩ := h
          have h30 : (t.take (b.toNat - 247)).head? ≠ some 0 := fun e => h3 (Or.inl e)
          have h31 : ¬ val (t.take (b.toNat - 247)) ≤ 247 := fun e => h3 (Or.inr e)
          have e := digs_val _ h30
          have hlen : (t.take (b.toNat - 247)).length = b.toNat - 247 := by rw [List.length_take]; omega
          have hn : numB (val (t.take (b.toNat - 247))) = b :: t.take (b.toNat - 247) := by
            unfold numB
            rw [if_neg (by omega), e, hlen, show 247 + (b.toNat - 247) = b.toNat from by omega]
            simp
          refine ⟨by simp; omega, ?_, ?_, by omega⟩
          · rw [hn, List.take_succ_cons]
          · rw [hn, List.length_cons, hlen]
theorem numB_len (v : Nat) (hv : v < 18446744073709551616) : 1 ≤ (numB v).length ∧ (numB v).length ≤ 9 := by
  unfold numB
  split
  · simp
  · have := digs_len_le 8 v (by rw [pow8]; exact hv)
    simp; omega
def textB (s : Bytes) : Bytes := numB s.length ++ s
def rdText (l : Bytes) (most : Nat) : Bytes × Nat × Nat :=
  if (rdNum l).2.2 ≠ 0 then ([], 0, (rdNum l).2.2)
  else if most < (rdNum l).1 then ([], 0, 5)
  else if l.length - (rdNum l).2.1 < (rdNum l).1 then ([], 0, 6)
  else ((l.drop (rdNum l).2.1).take (rdNum l).1, (rdNum l).2.1 + (rdNum l).1, 0)
theorem rdText_textB (s : Bytes) (most : Nat) (hm : s.length ≤ most) (hs : s.length < 18446744073709551616) (t : Bytes) : rdText (textB s ++ t) most = (s, (textB s).length, 0) := by
  have e := rdNum_numB s.length hs (s ++ t)
  unfold rdText textB
  rw [List.append_assoc, e]
  simp only [ne_eq, not_true_eq_false, if_false]
  rw [if_neg (by omega), if_neg (by simp [List.length_append])]
  simp [List.length_append]
theorem rdText_ok {l s : Bytes} {most n : Nat} (h : rdText l most = (s, n, 0)) : n ≤ l.length ∧ l.take n = textB s ∧ n = (textB s).length ∧ s.length ≤ most ∧ 1 ≤ n := by
  unfold rdText at h
  generalize hr : rdNum l = r at h
  obtain ⟨v, k, e⟩ := r
  simp only at h
  split at h
  · rename_i he; simp only [Prod.mk.injEq] at h; exact absurd h.2.2 he
  · rename_i he
    have he' : e = 0 := by simpa using he
    subst he'
    split at h
    · simp at h
    · rename_i h1
      split at h
      · simp at h
      · rename_i h2
        simp only [Prod.mk.injEq, and_true] at h
        obtain ⟨rfl, rfl⟩ := h
        obtain ⟨a1, a2, a3, a4⟩ := rdNum_ok hr
        have hl : ((l.drop k).take v).length = v := by rw [List.length_take, List.length_drop]; omega
        refine ⟨by omega, ?_, ?_, by omega, by omega⟩
        · unfold textB
          rw [hl, ← a2, List.take_add]
        · unfold textB
          rw [List.length_append, hl, ← a3]
end Go.Proofs.Ytppgbahiolhgbaa.Sp
end
section
set_option linter.unusedVariables false
set_option linter.unusedSimpArgs false
namespace Go.Proofs.Ytppgbahiolhgbaa.Sp
open Go.RowKit Go.Proofs.YtppgbahiolhgbaaW.PrintWords
open PScriptReads
abbrev L (s : ByteArray) : Bytes := s.data.toList
def mk (l : Bytes) : ByteArray := ⟨l.toArray⟩
theorem L_mk (l : Bytes) : L (mk l) = l := by simp [L, mk]
theorem mk_L (s : ByteArray) : mk (L s) = s := by simp [L, mk]
theorem size_mk (l : Bytes) : (mk l).size = l.length := by simp [mk, ByteArray.size]
theorem L_len (s : ByteArray) : (L s).length = s.size := data_length s
theorem mk_app (a b : Bytes) : mk a ++ mk b = mk (a ++ b) := by
  apply ByteArray.ext
  show (ByteArray.append _ _).data = _
  simp [mk]
theorem L_ext (s : ByteArray) (a b : Nat) : L (s.extract a b) = ((L s).drop a).take (b - a) := Lib.extract_data s a b
theorem L_inj {a b : ByteArray} (h : L a = L b) : a = b := by rw [← mk_L a, ← mk_L b, h]
theorem toL (s : ByteArray) : s.toList = L s := ByteArray.toList_eq s
theorem bt_eq (s : ByteArray) (i : Nat) : bt s (i : Int) = (((L s).getD i 0).toNat : Int) := by
  unfold bt
  split
  · rename_i h
    simp only [Int.toNat_natCast] at h
    congr 2
    rw [List.getD_eq_getElem?_getD, List.getElem?_eq_getElem (by rw [L_len]; exact h)]
    rfl
  · rename_i h
    simp only [Int.toNat_natCast] at h
    rw [List.getD_eq_getElem?_getD, List.getElem?_eq_none (by rw [L_len]; omega)]
    rfl
theorem w64 {x : Int} (h0 : -9223372036854775808 ≤ x) (h1 : x ≤ 9223372036854775807) : wrap64 x = x := IntWalk.wrap64_in x ⟨h0, h1⟩
theorem wu64 {x : Int} (h0 : 0 ≤ x) (h1 : x ≤ 18446744073709551615) : IntKind.u64.wrap x = x := IntWalk.u64_in x ⟨h0, h1⟩
theorem take_succ_getD (l : Bytes) (i : Nat) (h : i < l.length) : l.take (i + 1) = l.take i ++ [l.getD i 0] := by
  rw [List.take_succ_eq_append_getElem h, List.getD_eq_getElem?_getD, List.getElem?_eq_getElem h]; rfl
theorem val_take_lt' (t : Bytes) (i : Nat) : val (t.take i) < 256 ^ i := by
  have h := val_lt (t.take i)
  exact Nat.lt_of_lt_of_le h (Nat.pow_le_pow_right (by omega) (by rw [List.length_take]; omega))
theorem val_take7 (t : Bytes) (i : Nat) (hi : i ≤ 7) : val (t.take i) < 72057594037927936 := by
  have h := val_take_lt' t i
  have h2 := Nat.pow_le_pow_right (n := 256) (by omega) hi
  have h3 : (256 : Nat) ^ 7 = 72057594037927936 := by rfl
  rw [h3] at h2
  omega
theorem or_byte (v b : Nat) (hb : b < 256) (hv : v < 72057594037927936) : Go.bits .or .u64 ((v * 256 : Nat) : Int) (b : Int) = ((v * 256 + b : Nat) : Int) := by
  rw [u64_or_nat _ _ (by omega) (by omega)]
  congr 1
  have := Nat.two_pow_add_eq_or_of_lt (i := 8) (b := b) (by omega) v
  have e : 2 ^ 8 * v = v * 256 := by omega
  rw [e] at this
  exact this.symm
end Go.Proofs.Ytppgbahiolhgbaa.Sp
end
section
set_option linter.unusedVariables false
set_option linter.unusedSimpArgs false
namespace Go.Proofs.Ytppgbahiolhgbaa
open Go.RowKit Go.Proofs.YtppgbahiolhgbaaW.PrintWords Sp
def rnV (r : Nat × Nat × Nat) : Value := .tuple #[.int .u64 (r.1 : Int), .int .i64 (r.2.1 : Int), .int .i64 (r.2.2 : Int)]
theorem rn_empty (s : ByteArray) (w : World) (h : L s = []) : Calls Try.prog 72 #[.string s] w fun e w' => e = .returned (rnV (rdNum (L s))) ∧ w = w' := by
  have c1 : (s.toList == ([] : List UInt8)) = true := by rw [toL, h]; rfl
  have H := Lib.hid h
  clear h
  go_enter Try.func72, Try.ntmps72
  go_wp2
  go_ret3
  exact ⟨by rw [H.out]; rfl, rfl⟩
structure At0 (s : ByteArray) (b : UInt8) (t : Bytes) : Prop where
  c1 : (s.toList == ([] : List UInt8)) = false
  hsz : s.size = t.length + 1
  hb0 : bt s 0 = (b.toNat : Int)
theorem at0 {s : ByteArray} {b : UInt8} {t : Bytes} (h : L s = b :: t) : At0 s b t :=
  ⟨by rw [toL, h]; rfl, by rw [← L_len, h]; rfl, by have := bt_eq s 0; rw [h] at this; simpa using this⟩
theorem rn_small (s : ByteArray) (b : UInt8) (t : Bytes) (w : World) (h : L s = b :: t) (hb : b.toNat ≤ 247) : Calls Try.prog 72 #[.string s] w fun e w' => e = .returned (rnV (rdNum (L s))) ∧ w = w' := by
  obtain ⟨c1, hsz, hb0⟩ := at0 h
  have p0 : (0 < (s.size : Int)) = True := eq_true (by omega)
  have p1 : (0 < s.size) = True := eq_true (by omega)
  have hx : ∀ h : 0 < s.size, ((s[0]'h).toNat : Int) = bt s 0 := fun h => bt_at s 0 h
  have c2 : decide (bt s 0 ≤ 247) = true := decide_eq_true (by omega)
  have c3 : 0 ≤ bt s 0 ∧ bt s 0 ≤ 255 := bt_range s 0
  have hfin : rnV (rdNum (L s)) = .tuple #[.int .u64 (bt s 0), .int .i64 1, .int .i64 0] := by
    rw [h, hb0, rdNum_small t hb]; rfl
  have H := Lib.hid hfin
  clear hfin h hsz hb0 hb
  go_enter Try.func72, Try.ntmps72
  go_wp2
  go_ret3
  exact ⟨by rw [H.out]; rfl, rfl⟩
theorem rn_short (s : ByteArray) (b : UInt8) (t : Bytes) (w : World) (h : L s = b :: t) (hb : 247 < b.toNat) (h2 : t.length < b.toNat - 247) : Calls Try.prog 72 #[.string s] w fun e w' => e = .returned (rnV (rdNum (L s))) ∧ w = w' := by
  obtain ⟨c1, hsz, hb0⟩ := at0 h
  have hu := u8_lt b
  have p0 : (0 < (s.size : Int)) = True := eq_true (by omega)
  have p1 : (0 < s.size) = True := eq_true (by omega)
  have p2 : (1 ≤ s.size) = True := eq_true (by omega)
  have p3 : (1 ≤ (s.size : Int)) = True := eq_true (by omega)
  have hx : ∀ h : 0 < s.size, ((s[0]'h).toNat : Int) = bt s 0 := fun h => bt_at s 0 h
  have c2 : decide (bt s 0 ≤ 247) = false := decide_eq_false (by omega)
  have b1 : 247 < bt s 0 := by omega
  have b2 : bt s 0 ≤ 255 := by omega
  have b3 : (s.size : Int) - 1 < bt s 0 - 247 := by omega
  have hfin : rnV (rdNum (L s)) = .tuple #[.int .u64 0, .int .i64 0, .int .i64 6] := by
    rw [h, rdNum_short hb h2]; rfl
  have H := Lib.hid hfin
  clear hfin h hsz hb0 hb h2 hu
  go_enter Try.func72, Try.ntmps72
  go_wp2
  go_ret3
  exact ⟨by rw [H.out]; rfl, rfl⟩
def VV (l : Bytes) (i : Nat) : Int := ((val (l.take i) : Nat) : Int)
theorem VV_zero (l : Bytes) : VV l 0 = 0 := rfl
theorem VV_nn (l : Bytes) (i : Nat) : 0 ≤ VV l i := by unfold VV; omega
theorem VV_step (t : ByteArray) (i : Nat) (hi : i ≤ 7) (hs : i < t.size) : Go.bits .or .u64 (VV (L t) i * 256) (bt t (i : Int)) = VV (L t) (i + 1) ∧ VV (L t) i * 256 ≤ 18446744073709551615 := by
  have hv := val_take7 (L t) i hi
  have hb := u8_lt ((L t).getD i 0)
  unfold VV
  refine ⟨?_, by omega⟩
  rw [bt_eq, show ((val ((L t).take i) : Nat) : Int) * 256 = ((val ((L t).take i) * 256 : Nat) : Int) from by omega, or_byte _ _ hb hv, ← val_snoc, ← take_succ_getD _ _ (by rw [L_len]; omega)]
set_option maxHeartbeats 1000000 in
theorem rn_long (s : ByteArray) (b : UInt8) (t : Bytes) (w : World) (h : L s = b :: t) (hb : 247 < b.toNat) (h2 : b.toNat - 247 ≤ t.length) : Calls Try.prog 72 #[.string s] w fun e w' => e = .returned (rnV (rdNum (L s))) ∧ w = w' := by
  obtain ⟨c1, hsz, hb0⟩ := at0 h
  have hu := u8_lt b
  have p0 : (0 < (s.size : Int)) = True := eq_true (by omega)
  have p1 : (0 < s.size) = True := eq_true (by omega)
  have p2 : (1 ≤ s.size) = True := eq_true (by omega)
  have p3 : (1 ≤ (s.size : Int)) = True := eq_true (by omega)
  have hx : ∀ h : 0 < s.size, ((s[0]'h).toNat : Int) = bt s 0 := fun h => bt_at s 0 h
  have c2 : decide (bt s 0 ≤ 247) = false := decide_eq_false (by omega)
  have b1 : 247 < bt s 0 := by omega
  have b2 : bt s 0 ≤ 255 := by omega
  have b3 : bt s 0 - 247 ≤ (s.size : Int) - 1 := by omega
  have H := Lib.hid (And.intro h (And.intro hb (And.intro h2 (And.intro hsz hb0))))
  clear h hsz hb0 hb h2 hu
  go_enter Try.func72, Try.ntmps72
  go_wp2
  have he : L (s.extract 1 s.size) = t := by rw [L_ext, H.out.1, H.out.2.2.2.1]; simp
  have hes : (s.extract 1 s.size).size = s.size - 1 := by rw [← L_len, he, H.out.2.2.2.1]; simp
  obtain ⟨n, hn, hn8, hn1⟩ : ∃ n : Nat, bt s 0 - 247 = (n : Int) ∧ n ≤ 8 ∧ 1 ≤ n := ⟨(bt s 0 - 247).toNat, by omega, by omega, by omega⟩
  rw [hn]
  generalize s.extract 1 s.size = u at *
  have hus : n ≤ u.size := by omega
  have hfin : rnV (rdNum (L s)) = if (L u).head? = some 0 ∨ VV (L u) n ≤ 247 then .tuple #[.int .u64 0, .int .i64 0, .int .i64 7] else .tuple #[.int .u64 (VV (L u) n), .int .i64 ((n : Int) + 1), .int .i64 0] := by
    obtain ⟨h, hb, h2, hsz, hb0⟩ := H.out
    have hnb : b.toNat - 247 = n := by omega
    have hth : (t.take (b.toNat - 247)).head? = t.head? := by
      rw [hnb]; cases t with
      | nil => simp
      | cons a r => obtain ⟨j, rfl⟩ : ∃ j, n = j + 1 := ⟨n - 1, by omega⟩; simp
    rw [h, he]
    by_cases h3 : t.head? = some 0 ∨ VV t n ≤ 247
    · rw [if_pos h3, rdNum_form hb h2 (by rw [hth, hnb]; unfold VV at h3; rcases h3 with h3 | h3; exact Or.inl h3; exact Or.inr (by omega))]; rfl
    · rw [if_neg h3, rdNum_fine hb h2 (by rw [hth, hnb]; unfold VV at h3; intro h4; apply h3; rcases h4 with h4 | h4; exact Or.inl h4; exact Or.inr (by omega)), hnb]; rfl
  have F := Lib.hid (And.intro hfin (And.intro hn he))
  clear hfin H hn he hes c1 p0 p1 p2 p3 hx c2 b1 b2 b3
  go_loop [2, 25] (fun v i => ∃ j : Nat, j ≤ n ∧ i = .int .i64 j ∧ v = .int .u64 (VV (L u) j)) (fun _ i => n - (intOf i).toNat)
  case atStart => exact ⟨0, by omega, rfl, by rw [VV_zero]⟩
  case round =>
    obtain ⟨j, hj, rfl, rfl⟩ := hrel
    have hnn := VV_nn (L u) j
    by_cases hlt : j < n
    · obtain ⟨hs1, hs2⟩ := VV_step u j (by omega) (by omega)
      have hx : ∀ h : j < u.size, ((u[j]'h).toNat : Int) = bt u (j : Int) := fun h => bt_at u (j : Int) h
      have hr := bt_range u (j : Int)
      have S := Lib.hid hs1
      clear hs1
      have q1 : (j < u.size) = True := eq_true (by omega)
      go_wp2
      go_round
      case rel => exact ⟨j + 1, by omega, by go_num, by rw [← S.out]⟩
      case measure => simp [intOf]; omega
    · obtain rfl : j = n := by omega
      have p0 : (0 < (u.size : Int)) = True := eq_true (by omega)
      have p1 : (0 < u.size) = True := eq_true (by omega)
      have hx : ∀ h : 0 < u.size, ((u[0]'h).toNat : Int) = bt u 0 := fun h => bt_at u 0 h
      have hz : bt u 0 = 0 ↔ (L u).head? = some 0 := by
        have e := bt_eq u 0
        have hl := L_len u
        cases hL : L u with
        | nil => rw [hL] at hl; simp at hl; omega
        | cons a r =>
          rw [hL] at e
          simp only [List.getD_cons_zero] at e
          have e' : bt u 0 = (a.toNat : Int) := e
          rw [e']
          simp only [List.head?_cons, Option.some.injEq]
          constructor
          · intro h; apply UInt8.toNat_inj.1; simp; omega
          · intro h; rw [h]; rfl
      by_cases c0 : bt u 0 = 0
      · have c : (bt u 0 == 0) = true := by simp [c0]
        have E := Lib.hid (And.intro c0 hz)
        clear c0 hz
        go_wp2
        go_ret3
        exact ⟨by rw [F.out.1, if_pos (Or.inl (E.out.2.1 E.out.1))]; rfl, rfl⟩
      · have c : (bt u 0 == 0) = false := by simp [c0]
        have E := Lib.hid (And.intro c0 hz)
        clear c0 hz
        by_cases c1 : VV (L u) j ≤ 247
        · go_wp2
          go_ret3
          exact ⟨by rw [F.out.1, if_pos (Or.inr c1)]; rfl, rfl⟩
        · go_wp2
          go_ret3
          exact ⟨by rw [F.out.1, if_neg (fun h => h.elim (fun h => E.out.1 (E.out.2.2 h)) (fun h => by omega))]; rfl, rfl⟩
theorem rn72 (s : ByteArray) (w : World) : Calls Try.prog 72 #[.string s] w fun e w' => e = .returned (rnV (rdNum (L s))) ∧ w = w' := by
  cases h : L s with
  | nil => rw [← h]; exact rn_empty s w h
  | cons b t =>
    rw [← h]
    by_cases hb : b.toNat ≤ 247
    · exact rn_small s b t w h hb
    · by_cases h2 : t.length < b.toNat - 247
      · exact rn_short s b t w h (by omega) h2
      · exact rn_long s b t w h (by omega) (by omega)
def rtV (r : Bytes × Nat × Nat) : Value := .tuple #[.string (mk r.1), .int .i64 (r.2.1 : Int), .int .i64 (r.2.2 : Int)]
theorem rt70 (s : ByteArray) (m : Int) (w : World) (hs : s.size ≤ 9223372036854775807) (h0 : 0 ≤ m) (h1 : m ≤ 1000000) :
    Calls Try.prog 70 #[.string s, .int .i64 m] w fun e w' => e = .returned (rtV (rdText (L s) m.toNat)) ∧ w = w' := by
  have hlt := rdNum_lt (L s)
  obtain ⟨v, n, e, hr⟩ : ∃ v n e, rdNum (L s) = (v, n, e) := ⟨_, _, _, rfl⟩
  have hV : rnV (rdNum (L s)) = .tuple #[.int .u64 (v : Int), .int .i64 (n : Int), .int .i64 (e : Int)] := by rw [hr]; rfl
  have hn : e = 0 → n ≤ s.size ∧ n ≤ 9 := by
    intro he; subst he
    obtain ⟨a, _, c, _⟩ := rdNum_ok hr
    rw [L_len] at a
    rw [hr] at hlt
    have := numB_len v hlt
    exact ⟨a, by omega⟩
  rw [hr] at hlt
  have hl := L_len s
  have F : rtV (rdText (L s) m.toNat) = if e ≠ 0 then .tuple #[.string ⟨#[]⟩, .int .i64 0, .int .i64 (e : Int)] else if m.toNat < v then .tuple #[.string ⟨#[]⟩, .int .i64 0, .int .i64 5] else if s.size - n < v then .tuple #[.string ⟨#[]⟩, .int .i64 0, .int .i64 6] else .tuple #[.string (s.extract n (n + v)), .int .i64 ((n : Int) + (v : Int)), .int .i64 0] := by
    unfold rdText
    rw [hr, hl]
    simp only
    by_cases c1 : e ≠ 0
    · rw [if_pos c1, if_pos c1]; rfl
    · rw [if_neg c1, if_neg c1]
      by_cases c2 : m.toNat < v
      · rw [if_pos c2, if_pos c2]; rfl
      · rw [if_neg c2, if_neg c2]
        by_cases c3 : s.size - n < v
        · rw [if_pos c3, if_pos c3]; rfl
        · rw [if_neg c3, if_neg c3]
          unfold rtV
          simp only
          have : mk (((L s).drop n).take v) = s.extract n (n + v) := by
            apply L_inj; rw [L_mk, L_ext]; congr 1; omega
          rw [this]; simp
  have F' := Lib.hid F
  have V' := Lib.hid hV
  have N' := Lib.hid hn
  have e0 : (0 : Int) ≤ (e : Int) := by omega
  clear F hV hr hn hl
  by_cases c1 : e = 0
  · obtain ⟨n1, n9⟩ := N'.out c1
    have c1b : ((e : Int) != 0) = false := by subst c1; rfl
    have C1 := Lib.hid c1
    clear c1
    by_cases c2 : m.toNat < v
    · go_enter Try.func70, Try.ntmps70
      go_wp2_with (go_at_call 72; refine (rn72 _ _).mono ?_; rintro e1 w1 ⟨rfl, rfl⟩; rw [V'.out])
      go_ret3
      exact ⟨by rw [F'.out, if_neg (by simp [C1.out]), if_pos c2]; rfl, rfl⟩
    · have c2' : v ≤ m.toNat := by omega
      by_cases c3 : s.size - n < v
      · go_enter Try.func70, Try.ntmps70
        go_wp2_with (go_at_call 72; refine (rn72 _ _).mono ?_; rintro e1 w1 ⟨rfl, rfl⟩; rw [V'.out])
        go_ret3
        exact ⟨by rw [F'.out, if_neg (by simp [C1.out]), if_neg (by omega), if_pos c3]; rfl, rfl⟩
      · go_enter Try.func70, Try.ntmps70
        go_wp2_with (go_at_call 72; refine (rn72 _ _).mono ?_; rintro e1 w1 ⟨rfl, rfl⟩; rw [V'.out])
        go_ret3
        exact ⟨by rw [F'.out, if_neg (by simp [C1.out]), if_neg (by omega), if_neg c3]; rfl, rfl⟩
  · have c1b : ((e : Int) != 0) = true := by simpa using c1
    go_enter Try.func70, Try.ntmps70
    go_wp2_with (go_at_call 72; refine (rn72 _ _).mono ?_; rintro e1 w1 ⟨rfl, rfl⟩; rw [V'.out])
    go_ret3
    exact ⟨by rw [F'.out, if_pos c1]; rfl, rfl⟩
end Go.Proofs.Ytppgbahiolhgbaa
end
section
set_option linter.unusedVariables false
namespace Go.Proofs.Ytppgbahiolhgbaa.Aid
open Go.RowKit Go.WideShapes Go.ChangeShapes
theorem hide {p : Prop} (h : p) : Hid p := h
theorem unhide {p : Prop} (h : Hid p) : p := h
theorem quiet_add_same {P : Program} {f : FuncId} {args : Array Value} {w : World} {a n : Nat} {v : Value}
    (h : Calls P f args (w.drewN (a + n)) fun e w' => e = .returned v ∧ w' = w.drewN (a + n)) :
    Calls P f args (w.drewN (a + n)) fun e w'' => e = .returned v ∧ ∃ m, w'' = w.drewN (a + m) :=
  h.mono fun _ _ ⟨he, hm⟩ => ⟨he, n, hm⟩
theorem only_drew {a w : World} {row : Option Nat} (h : a.grownBy w row) : a.grownBy w.drew row := ⟨h.os, h.tape, h.output, h.size, h.block⟩
theorem only_alloc {a w : World} {row : Option Nat} (h : a.grownBy w row) (o : Obj) : a.grownBy (w.alloc o) row :=
  ⟨h.os, h.tape, h.output, Nat.le_trans h.size (by simp), fun i hi hne => (Below.heap_alloc w o i (Nat.lt_of_lt_of_le hi h.size)).trans (h.block i hi hne)⟩
theorem only_setCell {a w : World} {g : Nat} (h : a.grownBy w (some g)) {p : Addr} (hp : p.block = g ∨ a.heap.size ≤ p.block) (u : Value) : a.grownBy (w.setCell p u) (some g) :=
  ⟨h.os, h.tape, h.output, by simpa [World.setCell] using h.size, fun i hi hne => (Below.heap_setCell w p u i (by
    rintro rfl
    rcases hp with hp | hp
    · exact hne (by rw [hp])
    · omega)).trans (h.block i hi hne)⟩
section
variable {H : Type} {enc : TypeId × Value → H} {P : Program}
end
end Go.Proofs.Ytppgbahiolhgbaa.Aid
end
section
set_option linter.unusedVariables false
set_option linter.unusedSimpArgs false
namespace Go.Proofs.Ytppgbahiolhgbaa
open Go.RowKit Go.Proofs.YtppgbahiolhgbaaW.PrintWords Sp
set_option maxRecDepth 100000 in
set_option maxHeartbeats 1000000 in
theorem idx_err (s : ByteArray) (w : World) (hs : ∀ (i : Nat) (h : i < s.size), (s[i]'h).toNat < 128) :
    Calls Try.prog 76 #[.string s, .int .i32 65533] w fun e w' => e = .returned (.int .i64 (-1)) ∧ Below w.heap.size w w' := by
  go_enter Try.func76, Try.ntmps76
  go_wp2
  go_loopw [] (fun w' => ∃ pos : Nat, w' = w.iter s pos) (fun w' => s.size - w'.iterPos w.heap.size)
  case atStart => exact ⟨0, rfl⟩
  case round =>
    obtain ⟨pos, rfl⟩ := hrel
    by_cases hp : pos < s.size
    · have hb := hs pos hp
      have hnx : ∀ ty, (Instr.next (.pointer (some ⟨w.heap.size, 0, none⟩)) true ty).run Try.prog (w.iter s pos) = _ := fun ty => run_next_ascii w s pos ty hp hb
      generalize (s[pos]'hp).toNat = n at *
      go_wp2
      go_roundw
      case rel => exact ⟨pos + 1, rfl⟩
      case measure => simp; omega
    · have hnx : ∀ ty, (Instr.next (.pointer (some ⟨w.heap.size, 0, none⟩)) true ty).run Try.prog (w.iter s pos) = _ := fun ty => run_next_end w s pos ty hp
      go_wp2
      go_ret
      exact ⟨rfl, (Below.refl _ _).alloc (Nat.le_refl _) _⟩
theorem ix9 (s : ByteArray) (k : IntKind) (i : Int) (h0 : 0 ≤ i) (h1 : i < s.size) (W : World) : (Instr.index 9 (.string s) (.int k i)).run Try.prog W = .ok (.int .u8 (bt s i)) W := by
  rw [run_index_string W 9 s k i Try.underlying9, dif_pos ⟨h0, h1⟩, bt_at s i (by omega)]
set_option maxRecDepth 100000 in
set_option maxHeartbeats 1000000 in
theorem idx_bad (s : ByteArray) (r : Int) (w : World) (hr : 128 ≤ r) (hn : (r == 65533) = false) (hv : Lib.validRune r = false) :
    Calls Try.prog 76 #[.string s, .int .i32 r] w fun e w' => e = .returned (.int .i64 (-1)) ∧ Below w.heap.size w w' := by
  go_enter Try.func76, Try.ntmps76
  go_wp2_with (go_at_call 78; refine (Try.utf8_ValidRune _ _).mono ?_; rintro e1 w1 ⟨rfl, rfl⟩; rw [hv])
  go_ret
  exact ⟨rfl, Below.refl _ _⟩
theorem indexByte_no (l : List UInt8) (c : UInt8) (h : ∀ b ∈ l, b ≠ c) : Lib.indexByte l c = -1 := by
  induction l with
  | nil => rfl
  | cons a t ih =>
    have h1 : (a == c) = false := by simpa using h a (List.mem_cons_self ..)
    have h2 := ih (fun b hb => h b (List.mem_cons_of_mem _ hb))
    simp [Lib.indexByte, h1, h2]
theorem low_tail (s : ByteArray) (hs : ∀ (i : Nat) (h : i < s.size), (s[i]'h).toNat < 128) (a b : Nat) : ∀ x ∈ L (s.extract a b), x.toNat < 128 := by
  intro x hx
  rw [L_ext] at hx
  have hx2 := List.mem_of_mem_drop (List.mem_of_mem_take hx)
  obtain ⟨i, hi, rfl⟩ := List.getElem_of_mem hx2
  exact hs i (by rw [← L_len]; exact hi)
set_option maxRecDepth 100000 in
set_option maxHeartbeats 2000000 in
theorem idx_high (s : ByteArray) (r : Int) (w : World) (hs : ∀ (i : Nat) (h : i < s.size), (s[i]'h).toNat < 128) (hs1 : 4 ≤ s.size) (hs2 : s.size ≤ 1000) (hr : 128 ≤ r) (hn : (r == 65533) = false) (hv : Lib.validRune r = true) :
    Calls Try.prog 76 #[.string s, .int .i32 r] w fun e w' => e = .returned (.int .i64 (-1)) ∧ Below w.heap.size w w' := by
  have hv2 : Utf8.valid r = true := by
    have := of_decide_eq_true hv
    simp [Utf8.valid]; omega
  obtain ⟨e1, e2, e3⟩ := encode_facts r hv2 hr
  have V := Lib.hid (And.intro hv hv2)
  clear hv hv2
  generalize hq : Utf8.encode r = q at *
  have Q := Lib.hid hq
  clear hq
  go_enter Try.func76, Try.ntmps76
  go_wp2_with (go_at_call 78; refine (Try.utf8_ValidRune _ _).mono ?_; rintro e1 w1 ⟨rfl, rfl⟩; rw [V.out.1])
  have hcv : ∀ W : World, (convert 21 9 (.int .i32 r)).run Try.prog W = .ok (.string q) W := fun W => by
    rw [← Q.out]
    simp [convert, run_underlying Try.underlying21, run_underlying Try.underlying9, Conv.intToString]
  have hi1 := fun W => ix9 s .i64 ((q.size : Int) - 1) (by omega) (by omega) W
  have hi2 := fun W => ix9 q .i64 ((q.size : Int) - 1) (by omega) (by omega) W
  have b0 : bt s ((q.size : Int) - 1) < 128 := by
    rw [← bt_at s ((q.size : Int) - 1) (by omega)]; have := hs ((q.size : Int) - 1).toNat (by omega); omega
  have b1 : 128 ≤ bt q ((q.size : Int) - 1) := by
    rw [← bt_at q ((q.size : Int) - 1) (by omega)]
    have := e3 (by omega)
    have e : ((q.size : Int) - 1).toNat = q.size - 1 := by omega
    simp only [e]; omega
  have b2 := bt_range q ((q.size : Int) - 1)
  have b3 := bt_range s ((q.size : Int) - 1)
  have hcall : ∀ W, Calls Try.prog 77 #[.string (s.extract q.size s.size), .int .u8 (bt q ((q.size : Int) - 1))] W fun e w' => e = .returned (.int .i64 (-1)) ∧ w' = W := fun W => by
    refine (Try.strings_IndexByte _ _ _).mono ?_
    rintro e w' ⟨rfl, rfl⟩
    rw [indexByte_no]
    · exact ⟨rfl, rfl⟩
    · intro b hb e
      have := low_tail s hs _ _ b hb
      rw [e] at this
      simp at this
      omega
  have H := Lib.hid hs
  clear hs e3
  generalize bt s ((q.size : Int) - 1) = x at *
  generalize bt q ((q.size : Int) - 1) = y at *
  have hne : (x != y) = true := by rw [bne_iff_ne]; omega
  have HC := Lib.hid hcall
  clear hcall
  go_step3
  go_wp2
  refine wp_loop_rounds 1 ?_
  rw [rounds_succ]
  go_wp2
  go_step3
  go_wp2
  go_quiet (fail)
  go_wp2
  have hw : IntKind.i64.wrap (q.size : Int) = (q.size : Int) := by rw [IntWalk.i64_in _ ⟨by omega, by omega⟩]
  have hq1 : (q.size : Int) ≤ s.size := by omega
  go_quiet ((go_at_call 77; exact Aid.quiet_add_same (HC.out _)))
  go_wp2
  rw [Exit.noGoto_ret]
  go_wp2
  rw [Exit.noGoto_ret]
  go_wp2
  go_ret
  exact ⟨rfl, by repeat (first | exact Below.refl _ _ | apply pw_below_drewN)⟩
def alpha : ByteArray := { data := #[97, 98, 99, 100, 101, 102, 103, 104, 105, 106, 107, 108, 109, 110, 111, 112, 113, 114, 115, 116, 117, 118, 119, 120, 121, 122, 48, 49, 50, 51, 52, 53, 54, 55, 56, 57, 47, 46, 45] }
theorem alpha_size : alpha.size = 39 := rfl
theorem alpha_low : ∀ (i : Nat) (h : i < alpha.size), (alpha[i]'h).toNat < 128 := by decide
theorem idx_any (r : Int) (w : World) (hr : 128 ≤ r) : Calls Try.prog 76 #[.string alpha, .int .i32 r] w fun e w' => e = .returned (.int .i64 (-1)) ∧ Below w.heap.size w w' := by
  by_cases h : r = 65533
  · subst h; exact idx_err alpha w alpha_low
  · have hn : (r == 65533) = false := by simpa using h
    by_cases hv : Lib.validRune r = true
    · exact idx_high alpha r w alpha_low (by rw [alpha_size]; omega) (by rw [alpha_size]; omega) hr hn hv
    · exact idx_bad alpha r w hr hn (by simpa using hv)
theorem has_high (r : Int) (w : World) (hr : 128 ≤ r) : Calls Try.prog 74 #[.string alpha, .int .i32 r] w fun e w' => e = .returned (.bool false) ∧ Below w.heap.size w w' := by
  generalize hs : alpha = s
  have S := Lib.hid hs
  clear hs
  go_enter Try.func74, Try.ntmps74
  go_wp2_with (go_at_call 76; rw [← S.out]; refine (idx_any _ _ hr).mono ?_; rintro e1 w1 ⟨rfl, hb⟩)
  go_ret
  exact ⟨rfl, hb⟩
def okc (b : UInt8) : Bool := decide ((97 ≤ b.toNat ∧ b.toNat ≤ 122) ∨ (48 ≤ b.toNat ∧ b.toNat ≤ 57) ∨ b.toNat = 47 ∨ b.toNat = 46 ∨ b.toNat = 45)
theorem okc_alpha (b : UInt8) : decide (0 ≤ Lib.indexByte alpha.data.toList b) = okc b := by
  have h : ∀ n : Fin 256, decide (0 ≤ Lib.indexByte alpha.data.toList (UInt8.ofNat n.val)) = okc (UInt8.ofNat n.val) := by decide +kernel
  have := h ⟨b.toNat, b.toNat_lt⟩
  simpa using this
theorem okc_low (b : UInt8) (h : okc b = true) : b.toNat < 128 := by have := of_decide_eq_true h; omega
theorem has_low (n : Nat) (w : World) (hn : n < 128) : Calls Try.prog 74 #[.string alpha, .int .i32 (n : Int)] w fun e w' => e = .returned (.bool (okc (UInt8.ofNat n))) ∧ Below w.heap.size w w' := by
  refine (Try.strings_ContainsRune_ascii alpha (n : Int) w (by omega) (by omega)).mono ?_
  rintro e w' ⟨rfl, rfl⟩
  rw [← okc_alpha]
  exact ⟨rfl, Below.refl _ _⟩
def namedB (l : Bytes) : Bool := l.all okc && !l.isEmpty
end Go.Proofs.Ytppgbahiolhgbaa
end
section
set_option linter.unusedVariables false
set_option linter.unusedSimpArgs false
namespace Go.Proofs.Ytppgbahiolhgbaa
open Go.RowKit Go.Proofs.YtppgbahiolhgbaaW.PrintWords Go.Proofs.YtppgbahiolhgbaaW.PrintLast Go.Proofs.YtppgbahiolhgbaaW.PrintMore Sp
theorem sn1 (b : UInt8) : strOfNums [(b.toNat : Int)] = mk [b] := by simp [strOfNums, mk]
theorem sn1' (v : Int) (h0 : 0 ≤ v) (h1 : v ≤ 255) : strOfNums [v] = mk [UInt8.ofNat v.toNat] := by
  rw [← sn1, UInt8.toNat_ofNat']; congr 2; omega
theorem numB_small {v : Nat} (h : v < 248) : numB v = [UInt8.ofNat v] := by unfold numB; rw [if_pos h]
theorem conv_one (W : World) (v : Int) : (convert 70 9 (.slice (some ⟨W.heap.size, 0, none⟩) 1 1)).run Try.prog (W.alloc (.cells #[.int .u8 v] 5)) = .ok (.string (strOfNums [v])) (W.alloc (.cells #[.int .u8 v] 5)) :=
  own_string (P := Try.prog) (n := 1) Try.underlying70 Try.underlying5 Try.underlying9 (own_lit W W.heap.size 5 .u8 [v] (Nat.le_refl _) (by simp))
theorem num_small (v : Int) (w : World) (h0 : 0 ≤ v) (h1 : v ≤ 247) : Calls Try.prog 101 #[.int .u64 v] w fun e w' => e = .returned (.string (mk (numB v.toNat))) ∧ Below w.heap.size w w' := by
  have F : mk (numB v.toNat) = strOfNums [v] := by
    rw [numB_small (by omega), sn1' v h0 (by omega)]
  have F' := Lib.hid F
  clear F
  have hcv := fun W => conv_one W v
  go_enter Try.func101, Try.ntmps101
  go_wp2
  go_ret
  exact ⟨by rw [F'.out]; rfl, below_alloc (Below.refl _ _) _⟩
def dl (v : Nat) : Nat → Bytes
  | 0 => []
  | j + 1 => UInt8.ofNat (v / 256 ^ j % 256) :: dl v j
theorem dl_len (v j : Nat) : (dl v j).length = j := by induction j with | zero => rfl | succ j ih => simp [dl, ih]
theorem digs_dl (v j : Nat) (h : j = 0 ∨ v / 256 ^ (j - 1) ≠ 0) : digs v = digs (v / 256 ^ j) ++ dl v j := by
  induction j with
  | zero => simp [dl]
  | succ j ih =>
    have h1 : v / 256 ^ j ≠ 0 := by simpa using h
    have h2 : j = 0 ∨ v / 256 ^ (j - 1) ≠ 0 := by
      rcases Nat.eq_zero_or_pos j with h0 | h0
      · exact Or.inl h0
      · right
        intro e
        apply h1
        have : 256 ^ j = 256 ^ (j - 1) * 256 := by rw [← Nat.pow_succ]; congr 1; omega
        rw [this, ← Nat.div_div_eq_div_mul, e]
    rw [ih h2, digs_pos h1, dl]
    have : v / 256 ^ (j + 1) = v / 256 ^ j / 256 := by rw [Nat.pow_succ, Nat.div_div_eq_div_mul]
    rw [this]
    simp
def nine (v j : Nat) : Array Value := ((List.replicate (9 - j) (Value.int .u8 0)) ++ (dl v j).map (fun b => Value.int .u8 (b.toNat : Int))).toArray
theorem nine_size (v j : Nat) (h : j ≤ 9) : (nine v j).size = 9 := by simp [nine, dl_len]; omega
theorem nine_step (v j : Nat) (h : j ≤ 8) : (nine v j).setIfInBounds (8 - j) (.int .u8 ((v / 256 ^ j % 256 : Nat) : Int)) = nine v (j + 1) := by
  unfold nine
  apply Array.ext'
  simp only [Array.toList_setIfInBounds]
  rw [show 9 - j = (8 - j) + 1 from by omega, List.replicate_succ', show 9 - (j + 1) = 8 - j from by omega]
  simp only [List.append_assoc, dl, List.map_cons, UInt8.toNat_ofNat']
  rw [List.set_append_right _ _ (by simp)]
  simp
theorem slice143 (b : Nat) (l : Int) (h0 : 0 ≤ l) (h1 : l ≤ 8) (W : World) : (Instr.sliceAt 143 (.pointer (some ⟨b, 0, none⟩)) (some (.int .i64 l)) none none).run Try.prog W = .ok (.slice (some ⟨b, l.toNat, none⟩) (9 - l.toNat) (9 - l.toNat)) W := by
  have ha : Try.prog.arrayLen 143 = 9 := by kernel_rfl
  have he : Try.prog.elem 143 = 5 := by kernel_rfl
  have hs : (sizeOf 5).run Try.prog W = .ok 1 W := by kernel_rfl
  rw [run_sliceAt_array_l W 143 ⟨b, 0, none⟩ (by rw [ha, he]; kernel_rfl) .i64 l h0 (by rw [ha]; omega), he, hs, ha]
  simp only [Result.andThen, slicedAt]
  rw [if_neg (by omega), Nat.mul_one, add_plain]
theorem conv_tail (W : World) (C : Array Value) (T : TypeId) (q n c : Nat) (l : Bytes) (hn : l.length = n) (hm : n ≤ 100) (hC : ∀ i, i < n → C[q + i]? = some (.int .u8 ((l.getD i 0).toNat : Int))) :
    (convert 70 9 (.slice (some ⟨W.heap.size, q, none⟩) n c)).run Try.prog (W.alloc (.cells C T)) = .ok (.string (mk l)) (W.alloc (.cells C T)) := by
  have e : mk l = strOfNums (l.map fun b => (b.toNat : Int)) := by
    unfold mk strOfNums
    rw [List.map_map]
    have : (List.map ((fun n => UInt8.ofNat n.toNat) ∘ fun b => ((b : UInt8).toNat : Int)) l) = l := by
      rw [List.map_congr_left (g := id)]
      · simp
      · intro a _; simp
    rw [this]
  rw [e]
  refine string_of_reads (e := 5) Try.underlying70 Try.underlying5 Try.underlying9 ⟨by simp [hn], by omega, fun _ => ⟨_, rfl, fun j hj => ?_⟩⟩
  have hb : (W.alloc (.cells C T)).heap[W.heap.size]? = some (.cells C T (0, 0)) := heap_alloc_new W _
  have hcell : (W.alloc (.cells C T)).cell? ⟨W.heap.size, q + j, none⟩ = C[q + j]? := blk_cell hb (q + j)
  have ha : (⟨W.heap.size, q, none⟩ : Addr).add j = ⟨W.heap.size, q + j, none⟩ := by unfold Addr.add; split <;> simp_all
  rw [ha, hcell, hC j hj]
  congr 3
  rw [List.getD_eq_getElem?_getD, List.getD_eq_getElem?_getD, List.getElem?_map]
  cases l[j]? <;> simp
theorem nine_at (v j i : Nat) (hj : j ≤ 8) (hi : i < j) : (nine v j)[9 - j + i]? = some (.int .u8 (((dl v j).getD i 0).toNat : Int)) := by
  unfold nine
  rw [List.getElem?_toArray, List.getElem?_append_right (by simp)]
  simp only [List.length_replicate, Nat.add_sub_cancel_left, List.getElem?_map]
  rw [List.getD_eq_getElem?_getD, List.getElem?_eq_getElem (by rw [dl_len]; exact hi)]
  rfl
set_option maxRecDepth 100000 in
set_option maxHeartbeats 1000000 in
theorem num_big (v : Nat) (w : World) (h0 : 247 < v) (h1 : v < 18446744073709551616) : Calls Try.prog 101 #[.int .u64 (v : Int)] w fun e w' => e = .returned (.string (mk (numB v))) ∧ Below w.heap.size w w' := by
  have a1 : (247 : Int) < (v : Int) := by omega
  have a2 : (v : Int) ≤ 18446744073709551615 := by omega
  have h1' := Lib.hid h1
  clear h1
  go_enter Try.func101, Try.ntmps101
  go_wp2
  go_loopw [0, 4] (fun x a wr => ∃ p y : Nat, ∃ C : Array Value, 1 ≤ p ∧ p ≤ 9 ∧ a = .int .i64 (p : Int) ∧ x = .int .u64 (y : Int) ∧ (y : Int) ≤ 18446744073709551615 ∧ wr = w.alloc (.cells C 143) ∧ Hid (y = v / 256 ^ (9 - p) ∧ C = nine v (9 - p) ∧ (p = 9 ∨ v / 256 ^ (9 - p - 1) ≠ 0))) (fun _ a _ => (intOf a).toNat)
  case atStart => exact ⟨9, v, _, by omega, by omega, rfl, rfl, a2, rfl, ⟨by simp, rfl, Or.inl rfl⟩⟩
  case round =>
    obtain ⟨p, y, C, hp1, hp9, rfl, rfl, hy, rfl, H⟩ := hrel
    by_cases hlt : 0 < y
    · have hp2 : 2 ≤ p := by
        obtain ⟨e, _⟩ := H.out
        rcases Nat.lt_or_ge p 2 with h | h
        · exfalso
          have : p = 1 := by omega
          subst this
          have hz : v / 256 ^ 8 = 0 := Nat.div_eq_of_lt (by rw [pow8]; exact h1'.out)
          rw [hz] at e; omega
        · exact h
      have hsz : C.size = 9 := by rw [H.out.2.1]; exact nine_size _ _ (by omega)
      obtain ⟨u, hcell⟩ : ∃ u, C[p - 1]? = some u := ⟨_, Array.getElem?_eq_getElem (by omega)⟩
      have hsz' := Lib.hid hsz
      clear hsz
      go_wp2
      go_roundw
      case rel =>
        obtain ⟨e1, e2, e3⟩ := H.out
        refine ⟨p - 1, y / 256, _, by omega, by omega, ?_, ?_, by omega, rfl, ⟨?_, ?_, ?_⟩⟩
        · rw [show ((p - 1 : Nat) : Int) = (p : Int) - 1 from by omega]
        · rw [show ((y / 256 : Nat) : Int) = (y : Int) / 256 from by omega]
        · rw [e1, Nat.div_div_eq_div_mul, ← Nat.pow_succ]; congr 2; omega
        · rw [e2, show 9 - (p - 1) = 9 - p + 1 from by omega, ← nine_step v (9 - p) (by omega), ← e1, show 8 - (9 - p) = p - 1 from by omega, show ((y % 256 : Nat) : Int) = (y : Int) % 256 from by omega]
        · right; rw [show 9 - (p - 1) - 1 = 9 - p from by omega, ← e1]; omega
      case measure => simp [intOf]; omega
    · obtain rfl : y = 0 := by omega
      have hsz : C.size = 9 := by rw [H.out.2.1]; exact nine_size _ _ (by omega)
      obtain ⟨u, hcell⟩ : ∃ u, C[p - 1]? = some u := ⟨_, Array.getElem?_eq_getElem (by omega)⟩
      have hj : digs v = dl v (9 - p) := by
        rw [digs_dl v (9 - p) (H.out.2.2.imp (by omega) (fun h => h)), ← H.out.1, digs_zero]; rfl
      have hlen : (digs v).length = 9 - p := by rw [hj, dl_len]
      have hp8 : p ≤ 8 := by have := digs_len_pos (v := v) (by omega); omega
      have hsl := fun W => slice143 w.heap.size ((p : Int) - 1) (by omega) (by omega) W
      rw [show ((p : Int) - 1).toNat = p - 1 from by omega] at hsl
      have hcv : (convert 70 9 (.slice (some ⟨w.heap.size, p - 1, none⟩) (9 - (p - 1)) (9 - (p - 1)))).run Try.prog (w.alloc (.cells (C.setIfInBounds (p - 1) (.int .u8 (255 - ((p : Int) - 1)))) 143)) = .ok (.string (mk (numB v))) (w.alloc (.cells (C.setIfInBounds (p - 1) (.int .u8 (255 - ((p : Int) - 1)))) 143)) := by
        refine conv_tail w _ 143 (p - 1) _ _ (numB v) ?_ (by omega) ?_
        · unfold numB; rw [if_neg (by omega), List.length_cons, hlen]; omega
        · intro i hi
          unfold numB
          rw [if_neg (by omega)]
          cases i with
          | zero =>
            rw [Nat.add_zero, Array.getElem?_setIfInBounds_self_of_lt (by omega), List.getD_cons_zero, UInt8.toNat_ofNat', hlen]
            congr 2; omega
          | succ i =>
            rw [Array.getElem?_setIfInBounds_ne (by omega), List.getD_cons_succ, H.out.2.1, hj, show p - 1 + (i + 1) = 9 - (9 - p) + i from by omega]
            exact nine_at v (9 - p) i (by omega) (by omega)
      have hsz' := Lib.hid (And.intro hsz (And.intro hj hlen))
      clear hsz hj hlen
      go_wp2
      go_ret
      exact ⟨rfl, below_alloc (Below.refl _ _) _⟩
end Go.Proofs.Ytppgbahiolhgbaa
end
section
set_option linter.unusedVariables false
set_option linter.unusedSimpArgs false
namespace Go.Proofs.Ytppgbahiolhgbaa
open Go.RowKit Go.Proofs.YtppgbahiolhgbaaW.PrintWords Go.Proofs.YtppgbahiolhgbaaW.PrintLast Go.Proofs.YtppgbahiolhgbaaW.PrintMore Sp
open PScriptReads
theorem num101 (v : Int) (w : World) (h0 : 0 ≤ v) (h1 : v ≤ 18446744073709551615) : Calls Try.prog 101 #[.int .u64 v] w fun e w' => e = .returned (.string (mk (numB v.toNat))) ∧ Below w.heap.size w w' := by
  by_cases h : v ≤ 247
  · exact num_small v w h0 h
  · obtain ⟨n, rfl⟩ := Int.eq_ofNat_of_zero_le h0
    rw [Int.toNat_natCast]
    exact num_big n w (by omega) (by omega)
theorem text102 (s : ByteArray) (w : World) (hs : s.size ≤ 4611686018427387904) : Calls Try.prog 102 #[.string s] w fun e w' => e = .returned (.string (mk (textB (L s)))) ∧ Below w.heap.size w w' := by
  have hl := L_len s
  have hn := numB_len s.size (by omega)
  have F : mk (textB (L s)) = mk (numB s.size) ++ s := by
    unfold textB; rw [← mk_app, mk_L, hl]
  have hz : (mk (numB s.size)).size + s.size ≤ 9223372036854775807 := by rw [size_mk]; omega
  have F' := Lib.hid F
  clear F hl hn
  go_enter Try.func102, Try.ntmps102
  go_wp2_with (go_at_call 101; refine (num101 _ _ (by omega) (by omega)).mono ?_; rintro e1 w1 ⟨rfl, hb⟩; rw [Int.toNat_natCast])
  go_ret
  exact ⟨by rw [F'.out]; rfl, hb⟩
theorem digits_ok (k : Nat) : ∀ v : Nat, v < 256 ^ k → v < 18446744073709551616 → chirographref01_digits.f (k + 1) (v : Int) = some (mk (digs v)) := by
  induction k with
  | zero =>
    intro v h _
    obtain rfl : v = 0 := by simpa using h
    simp [chirographref01_digits.f, digs_zero, mk]
  | succ k ih =>
    intro v h hb
    unfold chirographref01_digits.f
    by_cases h0 : v = 0
    · subst h0; simp [digs_zero, mk]
    · rw [if_neg (by omega)]
      have e1 : IntKind.u64.wrap (Int.tdiv (v : Int) 256) = ((v / 256 : Nat) : Int) := by
        rw [Int.tdiv_eq_ediv_of_nonneg (by omega), wu64 (by omega) (by omega)]; omega
      have e2 : Int.tmod (v : Int) 256 % 256 = ((v % 256 : Nat) : Int) := by
        rw [Int.tmod_eq_emod_of_nonneg (by omega)]; omega
      rw [e1, ih (v / 256) (by rw [Nat.pow_succ] at h; omega) (by omega), e2]
      simp only [Option.bind_some]
      have e3 : strOfNums [((v % 256 : Nat) : Int)] = mk [UInt8.ofNat (v % 256)] := by rw [sn1' _ (by omega) (by omega), Int.toNat_natCast]
      have hl := digs_len_le 8 (v / 256) (by rw [pow8]; omega)
      rw [e3, if_pos (by rw [size_mk, size_mk]; simp; omega), mk_app, ← digs_pos h0]
theorem Num_ok (v : Nat) (hb : v < 18446744073709551616) : chirographref01_Num.f 9 (v : Int) = some (mk (numB v)) := by
  unfold chirographref01_Num.f numB
  by_cases h : v < 248
  · rw [if_pos (by omega), if_pos h, show (v : Int) % 256 = (v : Int) from by omega, sn1' _ (by omega) (by omega), Int.toNat_natCast]
  · rw [if_neg (by omega), if_neg h, digits_ok 8 v (by rw [pow8]; exact hb) hb]
    have hl := digs_len_le 8 v (by rw [pow8]; exact hb)
    simp only [Option.bind_some]
    rw [size_mk, w64 (by omega) (by omega), show (247 + ((digs v).length : Int)) % 256 = 247 + ((digs v).length : Int) from by omega, sn1' _ (by omega) (by omega), show (247 + ((digs v).length : Int)).toNat = 247 + (digs v).length from by omega, if_pos (by rw [size_mk]; simp; omega), mk_app]
    rfl
theorem num53 (v : Int) (w : World) (h0 : 0 ≤ v) (h1 : v ≤ 18446744073709551615) : Calls Try.prog 53 #[.int .u64 v] w fun e w' => e = .returned (.string (mk (numB v.toNat))) ∧ Below w.heap.size w w' := by
  obtain ⟨n, rfl⟩ := Int.eq_ofNat_of_zero_le h0
  rw [Int.toNat_natCast]
  exact chirographref01_Num.calls 9 _ _ w (Num_ok n (by omega))
theorem text37 (s : ByteArray) (w : World) (hs : s.size ≤ 4611686018427387904) : Calls Try.prog 37 #[.string s] w fun e w' => e = .returned (.string (mk (textB (L s)))) ∧ Below w.heap.size w w' := by
  have hl := L_len s
  have hn := numB_len s.size (by omega)
  have F : mk (textB (L s)) = mk (numB s.size) ++ s := by
    unfold textB; rw [← mk_app, mk_L, hl]
  have hz : (mk (numB s.size)).size + s.size ≤ 9223372036854775807 := by rw [size_mk]; omega
  have F' := Lib.hid F
  clear F hl hn
  go_enter Try.func37, Try.ntmps37
  go_wp2_with (go_at_call 53; refine (num53 _ _ (by omega) (by omega)).mono ?_; rintro e1 w1 ⟨rfl, hb⟩; rw [Int.toNat_natCast])
  go_ret
  exact ⟨by rw [F'.out]; rfl, hb⟩
def numsB (l : List Int) : Bytes := l.flatMap fun x => numB x.toNat
theorem numsB_snoc (l : List Int) (x : Int) : numsB (l ++ [x]) = numsB l ++ numB x.toNat := by simp [numsB]
theorem numsB_len (l : List Int) (h : ∀ x ∈ l, 0 ≤ x ∧ x ≤ 9223372036854775807) : (numsB l).length ≤ 9 * l.length := by
  induction l with
  | nil => simp [numsB]
  | cons a t ih =>
    have := ih (fun x hx => h x (List.mem_cons_of_mem _ hx))
    have ha := h a (List.mem_cons_self ..)
    have := (numB_len a.toNat (by omega)).2
    simp only [numsB, List.flatMap_cons, List.length_append, List.length_cons] at *
    omega
theorem nums_loop (l : List Int) (h : ∀ x ∈ l, 0 ≤ x ∧ x ≤ 9223372036854775807) (hl : l.length ≤ 1000000) (d : Nat) : ∀ (i k : Nat), i + d = l.length → d + 10 ≤ k →
    chirographref32_nums.l0 k l (mk (numsB (l.take i))) (i : Int) = some (mk (numsB l)) := by
  induction d with
  | zero =>
    intro i k hi hk
    obtain ⟨k, rfl⟩ : ∃ m, k = m + 1 := ⟨k - 1, by omega⟩
    simp only [chirographref32_nums.l0]
    rw [if_neg (by omega), List.take_of_length_le (by omega)]
  | succ d ih =>
    intro i k hi hk
    obtain ⟨k, rfl⟩ : ∃ m, k = m + 1 := ⟨k - 1, by omega⟩
    have hil : i < l.length := by omega
    have hx := h l[i] (List.getElem_mem hil)
    have e : rd l (i : Int) = ((l[i].toNat : Nat) : Int) := by
      unfold rd; rw [Int.toNat_natCast, List.getD_eq_getElem?_getD, List.getElem?_eq_getElem hil]; simp; omega
    simp only [chirographref32_nums.l0]
    rw [if_pos (by omega), if_pos (by omega), e, wu64 (by omega) (by omega), at_rounds (chirographref01_Num.mono _) (show 9 ≤ k by omega) (Num_ok l[i].toNat (by omega))]
    simp only [Option.bind_some]
    have t1 : l.take (i + 1) = l.take i ++ [l[i]] := List.take_succ_eq_append_getElem hil
    have hln := numsB_len (l.take i) (fun x hx => h x (List.mem_of_mem_take hx))
    have hn := (numB_len l[i].toNat (by omega)).2
    rw [List.length_take] at hln
    rw [if_pos (by rw [size_mk, size_mk]; omega), mk_app, ← numsB_snoc, ← t1, w64 (by omega) (by omega)]
    exact ih (i + 1) k (by omega) (by omega)
theorem nums36 (A : Option Addr) (c : Nat) (l : List Int) (w : World) (hr : Kd.C (Kd.int .i64) w A l.length l) (hc : l.length ≤ c) (h : ∀ x ∈ l, 0 ≤ x ∧ x ≤ 9223372036854775807) (hl : l.length ≤ 1000000) :
    Calls Try.prog 36 #[.slice A l.length c] w fun e w' => e = .returned (.string (mk (numsB l))) ∧ Below w.heap.size w w' :=
  chirographref32_nums.calls (l.length + 10) A c l _ w hr hc (by
    unfold chirographref32_nums.f
    exact nums_loop l h hl l.length 0 _ (by omega) (by omega))
end Go.Proofs.Ytppgbahiolhgbaa
end
section
set_option linter.unusedVariables false
set_option linter.unusedSimpArgs false
namespace Go.Proofs.Ytppgbahiolhgbaa
open Go.RowKit Go.Proofs.YtppgbahiolhgbaaW.PrintWords Go.Proofs.YtppgbahiolhgbaaW.PrintLast Go.Proofs.YtppgbahiolhgbaaW.PrintMore Sp
open PScriptReads
theorem numB_iff (b : UInt8) (d : Bytes) (hb : 247 < b.toNat) (hd : d.length = b.toNat - 247) : numB (val d) = b :: d ↔ ¬(d.head? = some 0 ∨ val d ≤ 247) := by
  have hu := u8_lt b
  constructor
  · intro e h
    unfold numB at e
    split at e
    · rename_i h2
      have := congrArg List.length e
      simp at this; rw [this] at hd; simp at hd; omega
    · rename_i h2
      have e2 : digs (val d) = d := by injection e
      rcases h with h | h
      · rw [← e2] at h; exact digs_head _ h
      · omega
  · intro h
    have h30 : d.head? ≠ some 0 := fun e => h (Or.inl e)
    have h31 : ¬ val d ≤ 247 := fun e => h (Or.inr e)
    have e := digs_val _ h30
    unfold numB
    rw [if_neg (by omega), e, hd, show 247 + (b.toNat - 247) = b.toNat from by omega]
    simp
set_option maxRecDepth 100000 in
theorem rnr_loop (s : ByteArray) (b : UInt8) (t : Bytes) (h : L s = b :: t) (hb : 247 < b.toNat) (h2 : b.toNat - 247 ≤ t.length) (d : Nat) : ∀ (i k : Nat), i + d = b.toNat - 247 → d + 10 ≤ k →
    chirographref01_ReadNum.l0 k s ((b.toNat - 247 + 1 : Nat) : Int) ((val (t.take i) : Nat) : Int) ((i + 1 : Nat) : Int) =
      some (((rdNum (L s)).1 : Int), ((rdNum (L s)).2.1 : Int), ((rdNum (L s)).2.2 : Int)) := by
  have hu := u8_lt b
  have hs := (at0 h).hsz
  induction d with
  | zero =>
    intro i k hi hk
    obtain ⟨k, rfl⟩ : ∃ m, k = m + 1 := ⟨k - 1, by omega⟩
    obtain rfl : i = b.toNat - 247 := by omega
    have hv := val_take_lt t (b.toNat - 247) (by omega)
    have hlen : (t.take (b.toNat - 247)).length = b.toNat - 247 := by rw [List.length_take]; omega
    simp only [chirographref01_ReadNum.l0]
    rw [if_neg (by omega), at_rounds (chirographref01_Num.mono _) (show 9 ≤ k by omega) (Num_ok _ hv)]
    simp only [Option.bind_some]
    rw [if_pos (by omega), if_pos (by omega), toL, toL, L_mk, L_ext, Int.toNat_natCast, h]
    simp only [List.drop_zero, Nat.sub_zero, List.take_succ_cons]
    by_cases h3 : (t.take (b.toNat - 247)).head? = some 0 ∨ val (t.take (b.toNat - 247)) ≤ 247
    · rw [if_neg (fun e => ((numB_iff b _ hb hlen).1 e) h3), rdNum_form hb h2 h3]; rfl
    · rw [if_pos ((numB_iff b _ hb hlen).2 h3), rdNum_fine hb h2 h3]; rfl
  | succ d ih =>
    intro i k hi hk
    obtain ⟨k, rfl⟩ : ∃ m, k = m + 1 := ⟨k - 1, by omega⟩
    have hv := val_take7 t i (by omega)
    have hbt : bt s ((i + 1 : Nat) : Int) = ((t.getD i 0).toNat : Int) := by rw [bt_eq, h]; rfl
    have hb2 := u8_lt (t.getD i 0)
    simp only [chirographref01_ReadNum.l0]
    rw [if_pos (by omega), if_pos (by omega), if_pos (by omega), hbt, wu64 (x := ((t.getD i 0).toNat : Int)) (by omega) (by omega), wu64 (x := ((val (t.take i) : Nat) : Int) * 256) (by omega) (by omega), wu64 (by omega) (by omega), w64 (by omega) (by omega)]
    have e : ((val (t.take i) : Nat) : Int) * 256 + ((t.getD i 0).toNat : Int) = ((val (t.take (i + 1)) : Nat) : Int) := by
      rw [take_succ_getD _ _ (by omega), val_snoc]; omega
    rw [e]
    exact ih (i + 1) k (by omega) (by omega)
theorem rn61_f (s : ByteArray) (k : Nat) (hk : 20 ≤ k) : chirographref01_ReadNum.f k s = some (((rdNum (L s)).1 : Int), ((rdNum (L s)).2.1 : Int), ((rdNum (L s)).2.2 : Int)) := by
  unfold chirographref01_ReadNum.f
  rw [toL]
  cases h : L s with
  | nil => simp [rdNum]
  | cons b t =>
    obtain ⟨c1, hsz, hb0⟩ := at0 h
    have hb := u8_lt b
    rw [if_neg (by simp), if_pos (by omega), hb0]
    by_cases h1 : b.toNat ≤ 247
    · rw [if_pos (by omega), rdNum_small t h1, wu64 (by omega) (by omega)]; rfl
    · rw [if_neg (by omega), w64 (x := (b.toNat : Int)) (by omega) (by omega), w64 (x := 1 + (b.toNat : Int)) (by omega) (by omega), w64 (by omega) (by omega)]
      by_cases h2 : t.length < b.toNat - 247
      · rw [if_pos (by omega), rdNum_short (by omega) h2]; rfl
      · rw [if_neg (by omega)]
        have := rnr_loop s b t h (by omega) (by omega) (b.toNat - 247) 0 k (by omega) (by omega)
        rw [h] at this
        rw [← this, show ((b.toNat - 247 + 1 : Nat) : Int) = 1 + (b.toNat : Int) - 247 from by omega]
        rfl
theorem rt62_f (s : ByteArray) (m : Int) (k : Nat) (hk : 21 ≤ k) (hs : s.size ≤ 9223372036854775807) (h0 : 0 ≤ m) (h1 : m ≤ 1000000) :
    chirographref01_ReadText.f k s m = some (mk (rdText (L s) m.toNat).1, ((rdText (L s) m.toNat).2.1 : Int), ((rdText (L s) m.toNat).2.2 : Int)) := by
  have hlt := rdNum_lt (L s)
  obtain ⟨v, n, e, hr⟩ : ∃ v n e, rdNum (L s) = (v, n, e) := ⟨_, _, _, rfl⟩
  have hl := L_len s
  unfold chirographref01_ReadText.f
  rw [rn61_f s k (by omega), hr]
  rw [hr] at hlt
  unfold rdText
  rw [hr, hl]
  simp only [Option.bind_some] at *
  obtain ⟨k, rfl⟩ : ∃ j, k = j + 1 := ⟨k - 1, by omega⟩
  by_cases c1 : e = 0
  · subst c1
    obtain ⟨a, _, c, _⟩ := rdNum_ok hr
    rw [hl] at a
    have h9 := (numB_len v hlt).2
    rw [if_pos (show ((0 : Nat) : Int) = 0 from rfl), if_neg (by omega), if_pos (by omega), if_neg (by simp), wu64 (by omega) (by omega)]
    simp only [chirographref01_ReadText.j0]
    by_cases c2 : m.toNat < v
    · rw [if_pos (decide_eq_true (by omega)), if_pos c2]; rfl
    · rw [if_neg (by rw [decide_eq_true_eq]; omega), if_neg c2, w64 (x := (s.size : Int) - (n : Int)) (by omega) (by omega), wu64 (by omega) (by omega)]
      by_cases c3 : s.size - n < v
      · rw [if_pos (by omega), if_pos c3]; rfl
      · rw [if_neg (by omega), if_neg c3, if_pos (by omega), w64 (x := (v : Int)) (by omega) (by omega), w64 (by omega) (by omega), if_pos (by omega), if_pos (by omega)]
        have e1 : s.extract n ((n : Int) + (v : Int)).toNat = mk (((L s).drop n).take v) := by
          apply L_inj; rw [L_mk, L_ext]; congr 1; omega
        rw [Int.toNat_natCast, e1]
        simp
  · rw [if_neg (by omega), if_pos c1]; rfl
end Go.Proofs.Ytppgbahiolhgbaa
end
section
set_option linter.unusedVariables false
set_option linter.unusedSimpArgs false
namespace Go.Proofs.Ytppgbahiolhgbaa
open Go.RowKit Go.Lib Go.Proofs.YtppgbahiolhgbaaW.PrintWords Sp
open PScriptReads
theorem all_take_succ (l : Bytes) (i : Nat) (h : i < l.length) : (l.take (i + 1)).all okc = ((l.take i).all okc && okc (l.getD i 0)) := by
  rw [take_succ_getD l i h, List.all_append]; simp
theorem getD_byte (s : ByteArray) (i : Nat) (h : i < s.size) : (s[i]'h) = (L s).getD i 0 := by
  rw [List.getD_eq_getElem?_getD, List.getElem?_eq_getElem (by rw [L_len]; exact h)]; rfl
theorem all_false (l : Bytes) (i : Nat) (h : i < l.length) (h2 : okc (l.getD i 0) = false) : namedB l = false := by
  unfold namedB
  have : l.all okc = false := by
    rw [List.all_eq_false]
    exact ⟨l.getD i 0, by rw [List.getD_eq_getElem?_getD, List.getElem?_eq_getElem h]; exact List.getElem_mem h, by rw [h2]; simp⟩
  rw [this]; rfl
set_option maxRecDepth 100000 in
set_option maxHeartbeats 1000000 in
theorem named71 (s : ByteArray) (w : World) : Calls Try.prog 71 #[.string s] w fun e w' => e = .returned (.bool (namedB (L s))) ∧ Below w.heap.size w w' := by
  go_enter Try.func71, Try.ntmps71
  go_wp2
  go_loopw [] (fun w' => ∃ (pos : Nat) (W : World), w' = W ∧ W.heap[w.heap.size]? = some (.stringIter s pos) ∧ Below w.heap.size w W ∧ pos ≤ s.size ∧ Hid (((L s).take pos).all okc = true)) (fun w' => s.size - w'.iterPos w.heap.size)
  case atStart =>
    exact ⟨0, _, rfl, by simp [World.iter_heap], (Below.refl _ _).alloc (Nat.le_refl _) _, by omega, rfl⟩
  case round =>
    obtain ⟨pos, W, rfl, hit, hbe, hpos, hall⟩ := hrel
    by_cases hp : pos < s.size
    · have hnx := fun ty => run_next_any_at (P := Try.prog) wr w.heap.size s pos ty hit hp
      have hit2 := iterAt_heap wr w.heap.size s pos (pos + (Utf8.decode s pos).2) hit
      have hbe2 := below_iterAt hbe (Nat.le_refl _) s (pos + (Utf8.decode s pos).2)
      have hg := getD_byte s pos hp
      by_cases hlow : (s[pos]'hp).toNat < 128
      · rw [decode_ascii s pos hp hlow] at hnx hit2 hbe2
        have hn : UInt8.ofNat (s[pos]'hp).toNat = s[pos]'hp := by simp
        have HN := Lib.hid (And.intro hn hg)
        clear hn hg
        generalize (s[pos]'hp).toNat = n at *
        by_cases hok : okc (UInt8.ofNat n) = true
        · generalize hW : wr.iterAt w.heap.size s (pos + 1) = W2 at *
          go_wp2_with (go_at_call 74; refine (has_low _ _ hlow).mono ?_; rintro e1 w1 ⟨rfl, hb1⟩; rw [hok])
          go_roundw
          case rel =>
            refine ⟨pos + 1, w1, rfl, (hb1.block _ (lt_of_block hit2)).trans hit2, hbe2.trans (hb1.mono hbe2.size), by omega, ?_⟩
            show _ = true
            rw [all_take_succ _ _ (by rw [L_len]; exact hp), hall.out, ← HN.out.2, ← HN.out.1, hok]; rfl
          case measure =>
            rw [iterPos_of ((hb1.block _ (lt_of_block hit2)).trans hit2), iterPos_of hit]; omega
        · have hok' : okc (UInt8.ofNat n) = false := by simpa using hok
          have F := Lib.hid (all_false (L s) pos (by rw [L_len]; exact hp) (by rw [← HN.out.2, ← HN.out.1]; exact hok'))
          clear hok
          generalize hW : wr.iterAt w.heap.size s (pos + 1) = W2 at *
          go_wp2_with (go_at_call 74; refine (has_low _ _ hlow).mono ?_; rintro e1 w1 ⟨rfl, hb1⟩; rw [hok'])
          go_ret
          exact ⟨by rw [F.out]; rfl, hbe2.trans (hb1.mono hbe2.size)⟩
      · have hd := (decode_high s pos hp (by omega)).1
        have hok : okc ((L s).getD pos 0) = false := by
          rw [← hg]
          cases h : okc (s[pos]'hp) with
          | false => rfl
          | true => exact absurd (okc_low _ h) hlow
        have F := Lib.hid (all_false (L s) pos (by rw [L_len]; exact hp) hok)
        clear hok hg
        generalize Utf8.decode s pos = dd at *
        obtain ⟨r, n⟩ := dd
        simp only at hd hnx hit2 hbe2
        generalize hW : wr.iterAt w.heap.size s (pos + n) = W2 at *
        go_wp2_with (go_at_call 74; refine (has_high _ _ (by omega)).mono ?_; rintro e1 w1 ⟨rfl, hb1⟩)
        go_ret
        exact ⟨by rw [F.out]; rfl, hbe2.trans (hb1.mono hbe2.size)⟩
    · have hnx := fun ty => run_next_end_at (P := Try.prog) wr w.heap.size s pos ty hit hp
      obtain rfl : pos = s.size := by omega
      have F : namedB (L s) = !s.toList.isEmpty := by
        have h1 := hall.out
        rw [List.take_of_length_le (by rw [L_len]; omega)] at h1
        unfold namedB
        rw [h1, toL]; rfl
      have F' := Lib.hid F
      clear F
      go_wp2
      go_ret
      exact ⟨by rw [F'.out]; rfl, hbe⟩
theorem name_loop (s : ByteArray) (hs : s.size ≤ 9223372036854775807) (d : Nat) : ∀ (i k : Nat), i + d = s.size → d + 1 ≤ k → ((L s).take i).all okc = true →
    chirographref06_name.l0 k s (i : Int) = some (namedB (L s)) := by
  induction d with
  | zero =>
    intro i k hi hk ha
    obtain ⟨k, rfl⟩ : ∃ m, k = m + 1 := ⟨k - 1, by omega⟩
    rw [List.take_of_length_le (by rw [L_len]; omega)] at ha
    simp only [chirographref06_name.l0]
    rw [if_neg (by omega), toL]
    unfold namedB
    rw [ha]
    cases L s <;> rfl
  | succ d ih =>
    intro i k hi hk ha
    obtain ⟨k, rfl⟩ : ∃ m, k = m + 1 := ⟨k - 1, by omega⟩
    have hil : i < (L s).length := by rw [L_len]; omega
    have e := bt_eq s i
    have w1 := w64 (x := (i : Int) + 1) (by omega) (by omega)
    have step := fun h => ih (i + 1) k (by omega) (by omega) h
    have ha2 := all_take_succ (L s) i hil
    have hf := all_false (L s) i hil
    rw [ha, Bool.true_and] at ha2
    rw [show ((i + 1 : Nat) : Int) = (i : Int) + 1 from rfl] at step
    have hkc : okc ((L s).getD i 0) = decide ((97 ≤ ((L s).getD i 0).toNat ∧ ((L s).getD i 0).toNat ≤ 122) ∨ (48 ≤ ((L s).getD i 0).toNat ∧ ((L s).getD i 0).toNat ≤ 57) ∨ ((L s).getD i 0).toNat = 47 ∨ ((L s).getD i 0).toNat = 46 ∨ ((L s).getD i 0).toNat = 45) := rfl
    rw [hkc] at ha2 hf
    clear hkc
    simp only [chirographref06_name.l0]
    rw [if_pos (by omega), if_pos (by omega), e, w1]
    generalize ((L s).getD i 0).toNat = n at *
    repeat' split
    all_goals first
      | exact step (by rw [ha2]; apply decide_eq_true; omega)
      | (rw [hf (by apply decide_eq_false; omega)])
theorem name75_f (s : ByteArray) (hs : s.size ≤ 9223372036854775807) (k : Nat) (hk : s.size + 1 ≤ k) : chirographref06_name.f k s = some (namedB (L s)) := by
  unfold chirographref06_name.f
  exact name_loop s hs s.size 0 k (by omega) hk rfl
end Go.Proofs.Ytppgbahiolhgbaa
end
