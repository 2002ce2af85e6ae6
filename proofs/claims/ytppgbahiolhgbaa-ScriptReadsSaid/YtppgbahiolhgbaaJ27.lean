/- Contracts and plain laws over the seat, laid together (group 27 of what the claim needs). -/
import Derived.Test.YtppgbahiolhgbaaJ17
import Derived.Test.YtppgbahiolhgbaaJ26
import Derived.Shelf.Small.Utf8
import Derived.Shelf.Small.Strs
import Derived.Shelf.Strings.Search1
import Derived.Shelf.Strings.Runes
import Derived.Test.YtppgbahiolhgbaaProg
import Derived.Deep.QuietTactic
import Derived.Tactics
import Derived.Below
import Derived.Deep.Draws
import Derived.Deep.OwnRows
import Derived.OwnWalk
import Derived.Laws.AppendOwn
import Derived.ChangeSame
import Derived.ProofKit
import Derived.Lib.Hide
import Derived.Laws.Runes
import Derived.Laws.RangeAny
import Derived.Laws.RangeString
import Derived.BigQuiet
import Derived.Lib.IndexLaws
import Derived.ScopeJumps
import Derived.Lib.OthersKept
section
set_option linter.unusedVariables false
set_option linter.unusedSimpArgs false
namespace Go.Proofs.Ytppgbahiolhgbaa
open Go.RowKit Go.Proofs.YtppgbahiolhgbaaW.PrintWords Go.Proofs.YtppgbahiolhgbaaW.PrintLast Go.Proofs.YtppgbahiolhgbaaW.PrintMore Sp
open PScriptReads
theorem num101 (v : Int) (w : World) (h0 : 0 ≤ v) (h1 : v ≤ 18446744073709551615) : Calls Try.prog 101 #[.int .u64 v] w fun e w' => e = .returned (.string (mk (numB v.toNat))) ∧ Below w.heap.size w w' := by
  by_cases h : v ≤ 247
  · exact num_small v w h0 h
  · obtain ⟨n, rfl⟩ := Int.eq_ofNat_of_zero_le h0
    rw [Int.toNat_natCast]
    exact num_big n w (by omega) (by omega)
theorem text102 (s : ByteArray) (w : World) (hs : s.size ≤ 4611686018427387904) : Calls Try.prog 102 #[.string s] w fun e w' => e = .returned (.string (mk (textB (L s)))) ∧ Below w.heap.size w w' := by
  have hl := L_len s
  have hn := numB_len s.size (by omega)
  have F : mk (textB (L s)) = mk (numB s.size) ++ s := by
    unfold textB; rw [← mk_app, mk_L, hl]
  have hz : (mk (numB s.size)).size + s.size ≤ 9223372036854775807 := by rw [size_mk]; omega
  have F' := Lib.hid F
  clear F hl hn
  go_enter Try.func102, Try.ntmps102
  go_wp2_with (go_at_call 101; refine (num101 _ _ (by omega) (by omega)).mono ?_; rintro e1 w1 ⟨rfl, hb⟩; rw [Int.toNat_natCast])
  go_ret
  exact ⟨by rw [F'.out]; rfl, hb⟩
theorem digits_ok (k : Nat) : ∀ v : Nat, v < 256 ^ k → v < 18446744073709551616 → chirographref01_digits.f (k + 1) (v : Int) = some (mk (digs v)) := by
  induction k with
  | zero =>
    intro v h _
    obtain rfl : v = 0 := by simpa using h
    simp [chirographref01_digits.f, digs_zero, mk]
  | succ k ih =>
    intro v h hb
    unfold chirographref01_digits.f
    by_cases h0 : v = 0
    · subst h0; simp [digs_zero, mk]
    · rw [if_neg (by omega)]
      have e1 : IntKind.u64.wrap (Int.tdiv (v : Int) 256) = ((v / 256 : Nat) : Int) := by
        rw [Int.tdiv_eq_ediv_of_nonneg (by omega), wu64 (by omega) (by omega)]; omega
      have e2 : Int.tmod (v : Int) 256 % 256 = ((v % 256 : Nat) : Int) := by
        rw [Int.tmod_eq_emod_of_nonneg (by omega)]; omega
      rw [e1, ih (v / 256) (by rw [Nat.pow_succ] at h; omega) (by omega), e2]
      simp only [Option.bind_some]
      have e3 : strOfNums [((v % 256 : Nat) : Int)] = mk [UInt8.ofNat (v % 256)] := by rw [sn1' _ (by omega) (by omega), Int.toNat_natCast]
      have hl := digs_len_le 8 (v / 256) (by rw [pow8]; omega)
      rw [e3, if_pos (by rw [size_mk, size_mk]; simp; omega), mk_app, ← digs_pos h0]
theorem Num_ok (v : Nat) (hb : v < 18446744073709551616) : chirographref01_Num.f 9 (v : Int) = some (mk (numB v)) := by
  unfold chirographref01_Num.f numB
  by_cases h : v < 248
  · rw [if_pos (by omega), if_pos h, show (v : Int) % 256 = (v : Int) from by omega, sn1' _ (by omega) (by omega), Int.toNat_natCast]
  · rw [if_neg (by omega), if_neg h, digits_ok 8 v (by rw [pow8]; exact hb) hb]
    have hl := digs_len_le 8 v (by rw [pow8]; exact hb)
    simp only [Option.bind_some]
    rw [size_mk, w64 (by omega) (by omega), show (247 + ((digs v).length : Int)) % 256 = 247 + ((digs v).length : Int) from by omega, sn1' _ (by omega) (by omega), show (247 + ((digs v).length : Int)).toNat = 247 + (digs v).length from by omega, if_pos (by rw [size_mk]; simp; omega), mk_app]
    rfl
def numsB (l : List Int) : Bytes := l.flatMap fun x => numB x.toNat
theorem numsB_snoc (l : List Int) (x : Int) : numsB (l ++ [x]) = numsB l ++ numB x.toNat := by simp [numsB]
theorem numsB_len (l : List Int) (h : ∀ x ∈ l, 0 ≤ x ∧ x ≤ 9223372036854775807) : (numsB l).length ≤ 9 * l.length := by
  induction l with
  | nil => simp [numsB]
  | cons a t ih =>
    have := ih (fun x hx => h x (List.mem_cons_of_mem _ hx))
    have ha := h a (List.mem_cons_self ..)
    have := (numB_len a.toNat (by omega)).2
    simp only [numsB, List.flatMap_cons, List.length_append, List.length_cons] at *
    omega
end Go.Proofs.Ytppgbahiolhgbaa
end
section
set_option linter.unusedVariables false
set_option linter.unusedSimpArgs false
namespace Go.Proofs.Ytppgbahiolhgbaa
open Go.RowKit Go.Proofs.YtppgbahiolhgbaaW.PrintWords Go.Proofs.YtppgbahiolhgbaaW.PrintLast Go.Proofs.YtppgbahiolhgbaaW.PrintMore Sp
open PScriptReads
theorem numB_iff (b : UInt8) (d : Bytes) (hb : 247 < b.toNat) (hd : d.length = b.toNat - 247) : numB (val d) = b :: d ↔ ¬(d.head? = some 0 ∨ val d ≤ 247) := by
  have hu := u8_lt b
  constructor
  · intro e h
    unfold numB at e
    split at e
    · rename_i h2
      have := congrArg List.length e
      simp at this; rw [this] at hd; simp at hd; omega
    · rename_i h2
      have e2 : digs (val d) = d := by injection e
      rcases h with h | h
      · rw [← e2] at h; exact digs_head _ h
      · omega
  · intro h
    have h30 : d.head? ≠ some 0 := fun e => h (Or.inl e)
    have h31 : ¬ val d ≤ 247 := fun e => h (Or.inr e)
    have e := digs_val _ h30
    unfold numB
    rw [if_neg (by omega), e, hd, show 247 + (b.toNat - 247) = b.toNat from by omega]
    simp
set_option maxRecDepth 100000 in
theorem rnr_loop (s : ByteArray) (b : UInt8) (t : Bytes) (h : L s = b :: t) (hb : 247 < b.toNat) (h2 : b.toNat - 247 ≤ t.length) (d : Nat) : ∀ (i k : Nat), i + d = b.toNat - 247 → d + 10 ≤ k →
    chirographref01_ReadNum.l0 k s ((b.toNat - 247 + 1 : Nat) : Int) ((val (t.take i) : Nat) : Int) ((i + 1 : Nat) : Int) =
      some (((rdNum (L s)).1 : Int), ((rdNum (L s)).2.1 : Int), ((rdNum (L s)).2.2 : Int)) := by
  have hu := u8_lt b
  have hs := (at0 h).hsz
  induction d with
  | zero =>
    intro i k hi hk
    obtain ⟨k, rfl⟩ : ∃ m, k = m + 1 := ⟨k - 1, by omega⟩
    obtain rfl : i = b.toNat - 247 := by omega
    have hv := val_take_lt t (b.toNat - 247) (by omega)
    have hlen : (t.take (b.toNat - 247)).length = b.toNat - 247 := by rw [List.length_take]; omega
    simp only [chirographref01_ReadNum.l0]
    rw [if_neg (by omega), at_rounds (chirographref01_Num.mono _) (show 9 ≤ k by omega) (Num_ok _ hv)]
    simp only [Option.bind_some]
    rw [if_pos (by omega), if_pos (by omega), toL, toL, L_mk, L_ext, Int.toNat_natCast, h]
    simp only [List.drop_zero, Nat.sub_zero, List.take_succ_cons]
    by_cases h3 : (t.take (b.toNat - 247)).head? = some 0 ∨ val (t.take (b.toNat - 247)) ≤ 247
    · rw [if_neg (fun e => ((numB_iff b _ hb hlen).1 e) h3), rdNum_form hb h2 h3]; rfl
    · rw [if_pos ((numB_iff b _ hb hlen).2 h3), rdNum_fine hb h2 h3]; rfl
  | succ d ih =>
    intro i k hi hk
    obtain ⟨k, rfl⟩ : ∃ m, k = m + 1 := ⟨k - 1, by omega⟩
    have hv := val_take7 t i (by omega)
    have hbt : bt s ((i + 1 : Nat) : Int) = ((t.getD i 0).toNat : Int) := by rw [bt_eq, h]; rfl
    have hb2 := u8_lt (t.getD i 0)
    simp only [chirographref01_ReadNum.l0]
    rw [if_pos (by omega), if_pos (by omega), if_pos (by omega), hbt, wu64 (x := ((t.getD i 0).toNat : Int)) (by omega) (by omega), wu64 (x := ((val (t.take i) : Nat) : Int) * 256) (by omega) (by omega), wu64 (by omega) (by omega), w64 (by omega) (by omega)]
    have e : ((val (t.take i) : Nat) : Int) * 256 + ((t.getD i 0).toNat : Int) = ((val (t.take (i + 1)) : Nat) : Int) := by
      rw [take_succ_getD _ _ (by omega), val_snoc]; omega
    rw [e]
    exact ih (i + 1) k (by omega) (by omega)
theorem rn61_f (s : ByteArray) (k : Nat) (hk : 20 ≤ k) : chirographref01_ReadNum.f k s = some (((rdNum (L s)).1 : Int), ((rdNum (L s)).2.1 : Int), ((rdNum (L s)).2.2 : Int)) := by
  unfold chirographref01_ReadNum.f
  rw [toL]
  cases h : L s with
  | nil => simp [rdNum]
  | cons b t =>
    obtain ⟨c1, hsz, hb0⟩ := at0 h
    have hb := u8_lt b
    rw [if_neg (by simp), if_pos (by omega), hb0]
    by_cases h1 : b.toNat ≤ 247
    · rw [if_pos (by omega), rdNum_small t h1, wu64 (by omega) (by omega)]; rfl
    · rw [if_neg (by omega), w64 (x := (b.toNat : Int)) (by omega) (by omega), w64 (x := 1 + (b.toNat : Int)) (by omega) (by omega), w64 (by omega) (by omega)]
      by_cases h2 : t.length < b.toNat - 247
      · rw [if_pos (by omega), rdNum_short (by omega) h2]; rfl
      · rw [if_neg (by omega)]
        have := rnr_loop s b t h (by omega) (by omega) (b.toNat - 247) 0 k (by omega) (by omega)
        rw [h] at this
        rw [← this, show ((b.toNat - 247 + 1 : Nat) : Int) = 1 + (b.toNat : Int) - 247 from by omega]
        rfl
theorem rt62_f (s : ByteArray) (m : Int) (k : Nat) (hk : 21 ≤ k) (hs : s.size ≤ 9223372036854775807) (h0 : 0 ≤ m) (h1 : m ≤ 1000000) :
    chirographref01_ReadText.f k s m = some (mk (rdText (L s) m.toNat).1, ((rdText (L s) m.toNat).2.1 : Int), ((rdText (L s) m.toNat).2.2 : Int)) := by
  have hlt := rdNum_lt (L s)
  obtain ⟨v, n, e, hr⟩ : ∃ v n e, rdNum (L s) = (v, n, e) := ⟨_, _, _, rfl⟩
  have hl := L_len s
  unfold chirographref01_ReadText.f
  rw [rn61_f s k (by omega), hr]
  rw [hr] at hlt
  unfold rdText
  rw [hr, hl]
  simp only [Option.bind_some] at *
  obtain ⟨k, rfl⟩ : ∃ j, k = j + 1 := ⟨k - 1, by omega⟩
  by_cases c1 : e = 0
  · subst c1
    obtain ⟨a, _, c, _⟩ := rdNum_ok hr
    rw [hl] at a
    have h9 := (numB_len v hlt).2
    rw [if_pos (show ((0 : Nat) : Int) = 0 from rfl), if_neg (by omega), if_pos (by omega), if_neg (by simp), wu64 (by omega) (by omega)]
    simp only [chirographref01_ReadText.j0]
    by_cases c2 : m.toNat < v
    · rw [if_pos (decide_eq_true (by omega)), if_pos c2]; rfl
    · rw [if_neg (by rw [decide_eq_true_eq]; omega), if_neg c2, w64 (x := (s.size : Int) - (n : Int)) (by omega) (by omega), wu64 (by omega) (by omega)]
      by_cases c3 : s.size - n < v
      · rw [if_pos (by omega), if_pos c3]; rfl
      · rw [if_neg (by omega), if_neg c3, if_pos (by omega), w64 (x := (v : Int)) (by omega) (by omega), w64 (by omega) (by omega), if_pos (by omega), if_pos (by omega)]
        have e1 : s.extract n ((n : Int) + (v : Int)).toNat = mk (((L s).drop n).take v) := by
          apply L_inj; rw [L_mk, L_ext]; congr 1; omega
        rw [Int.toNat_natCast, e1]
        simp
  · rw [if_neg (by omega), if_pos c1]; rfl
end Go.Proofs.Ytppgbahiolhgbaa
end
section
namespace Go.Proofs
open Go.Shelf
def Try.lays119_ren : Go.Shelf.Ren := ⟨fun | 119 => 78 | n => n, fun | 21 => 21 | 4 => 4 | n => n, fun | n => n⟩
theorem Try.lays119 : Go.Proofs.Lays.n119 Try.prog Try.lays119_ren := {
  mixed := by kernel_rfl
  f119 := Try.func78.trans (congrArg some (by kernel_rfl))
  t4 := Try.underlying4
  a4 := Try.isAgg4
  z4 := Try.sizeOf4
  v4 := Try.zeroValue4
  t21 := Try.underlying21
  a21 := Try.isAgg21
  z21 := Try.sizeOf21
  v21 := Try.zeroValue21 }
theorem Try.utf8_ValidRune (r : Int) (w : World) :
    Calls Try.prog 78 #[.int .i32 r] w fun e w' => e = .returned (.bool (Lib.validRune r)) ∧ w' = w := Any.utf8_ValidRune Try.lays119 r w
def Try.lays137_ren : Go.Shelf.Ren := ⟨fun | 137 => 77 | 217 => 81 | 266 => 82 | n => n, fun | 9 => 9 | 5 => 5 | 3 => 3 | n => n, fun | n => n⟩
theorem Try.lays137 : Go.Proofs.Lays.n137 Try.prog Try.lays137_ren := {
  mixed := by kernel_rfl
  f137 := Try.func77.trans (congrArg some (by kernel_rfl))
  f217 := Try.func81.trans (congrArg some (by kernel_rfl))
  f266 := Try.func82.trans (congrArg some (by kernel_rfl))
  t3 := Try.underlying3
  a3 := Try.isAgg3
  z3 := Try.sizeOf3
  v3 := Try.zeroValue3
  t5 := Try.underlying5
  a5 := Try.isAgg5
  z5 := Try.sizeOf5
  v5 := Try.zeroValue5
  t9 := Try.underlying9
  a9 := Try.isAgg9
  z9 := Try.sizeOf9
  v9 := Try.zeroValue9 }
open Go.RowKit in
theorem Try.strings_IndexByte (s : ByteArray) (c : Int) (w : World) :
    Calls Try.prog 77 #[.string s, .int .u8 c] w fun e w' => e = .returned (.int .i64 (Lib.indexByte s.data.toList c.toNat.toUInt8)) ∧ w' = w := Any.strings_IndexByte Try.lays137 s c w
def Try.lays151_ren : Go.Shelf.Ren := ⟨fun | 151 => 74 | 152 => 76 | 137 => 77 | 119 => 78 | 224 => 79 | 225 => 80 | 217 => 81 | 266 => 82 | n => n, fun | 9 => 9 | 21 => 21 | 4 => 4 | 3 => 3 | 5 => 5 | 0 => 0 | 46 => 122 | n => n, fun | n => n⟩
theorem Try.lays151 : Go.Proofs.Lays.n151 Try.prog Try.lays151_ren := {
  mixed := by kernel_rfl
  f119 := Try.func78.trans (congrArg some (by kernel_rfl))
  f137 := Try.func77.trans (congrArg some (by kernel_rfl))
  f151 := Try.func74.trans (congrArg some (by kernel_rfl))
  f152 := Try.func76.trans (congrArg some (by kernel_rfl))
  f217 := Try.func81.trans (congrArg some (by kernel_rfl))
  f224 := Try.func79.trans (congrArg some (by kernel_rfl))
  f225 := Try.func80.trans (congrArg some (by kernel_rfl))
  f266 := Try.func82.trans (congrArg some (by kernel_rfl))
  t0 := Try.underlying0
  a0 := Try.isAgg0
  z0 := Try.sizeOf0
  v0 := Try.zeroValue0
  t3 := Try.underlying3
  a3 := Try.isAgg3
  z3 := Try.sizeOf3
  v3 := Try.zeroValue3
  t4 := Try.underlying4
  a4 := Try.isAgg4
  z4 := Try.sizeOf4
  v4 := Try.zeroValue4
  t5 := Try.underlying5
  a5 := Try.isAgg5
  z5 := Try.sizeOf5
  v5 := Try.zeroValue5
  t9 := Try.underlying9
  a9 := Try.isAgg9
  z9 := Try.sizeOf9
  v9 := Try.zeroValue9
  t21 := Try.underlying21
  a21 := Try.isAgg21
  z21 := Try.sizeOf21
  v21 := Try.zeroValue21
  t46 := Try.underlying122
  a46 := Try.isAgg122
  z46 := Try.sizeOf122
  v46 := Try.zeroValue122 }
open Go.RowKit Go.Lib in
theorem Try.strings_ContainsRune_ascii (s : ByteArray) (r : Int) (w : World) (h0 : 0 ≤ r) (h1 : r < 128) :
    Calls Try.prog 74 #[.string s, .int .i32 r] w fun e w' => e = .returned (.bool (decide (0 ≤ Lib.indexByte s.data.toList r.toNat.toUInt8))) ∧ w' = w := Any.strings_ContainsRune_ascii Try.lays151 s r w h0 h1
end Go.Proofs
end
section
set_option linter.unusedVariables false
namespace Go.Proofs.Ytppgbahiolhgbaa.Aid
open Go.RowKit Go.WideShapes Go.ChangeShapes
theorem hide {p : Prop} (h : p) : Hid p := h
theorem unhide {p : Prop} (h : Hid p) : p := h
theorem quiet_add_same {P : Program} {f : FuncId} {args : Array Value} {w : World} {a n : Nat} {v : Value}
    (h : Calls P f args (w.drewN (a + n)) fun e w' => e = .returned v ∧ w' = w.drewN (a + n)) :
    Calls P f args (w.drewN (a + n)) fun e w'' => e = .returned v ∧ ∃ m, w'' = w.drewN (a + m) :=
  h.mono fun _ _ ⟨he, hm⟩ => ⟨he, n, hm⟩
theorem only_drew {a w : World} {row : Option Nat} (h : a.grownBy w row) : a.grownBy w.drew row := ⟨h.os, h.tape, h.output, h.size, h.block⟩
theorem only_alloc {a w : World} {row : Option Nat} (h : a.grownBy w row) (o : Obj) : a.grownBy (w.alloc o) row :=
  ⟨h.os, h.tape, h.output, Nat.le_trans h.size (by simp), fun i hi hne => (Below.heap_alloc w o i (Nat.lt_of_lt_of_le hi h.size)).trans (h.block i hi hne)⟩
theorem only_setCell {a w : World} {g : Nat} (h : a.grownBy w (some g)) {p : Addr} (hp : p.block = g ∨ a.heap.size ≤ p.block) (u : Value) : a.grownBy (w.setCell p u) (some g) :=
  ⟨h.os, h.tape, h.output, by simpa [World.setCell] using h.size, fun i hi hne => (Below.heap_setCell w p u i (by
    rintro rfl
    rcases hp with hp | hp
    · exact hne (by rw [hp])
    · omega)).trans (h.block i hi hne)⟩
section
variable {H : Type} {enc : TypeId × Value → H} {P : Program}
end
end Go.Proofs.Ytppgbahiolhgbaa.Aid
end
section
set_option linter.unusedVariables false
set_option linter.unusedSimpArgs false
namespace Go.Proofs.Ytppgbahiolhgbaa
open Go.RowKit Go.Proofs.YtppgbahiolhgbaaW.PrintWords Sp
set_option maxRecDepth 100000 in
set_option maxHeartbeats 1000000 in
theorem idx_err (s : ByteArray) (w : World) (hs : ∀ (i : Nat) (h : i < s.size), (s[i]'h).toNat < 128) :
    Calls Try.prog 76 #[.string s, .int .i32 65533] w fun e w' => e = .returned (.int .i64 (-1)) ∧ Below w.heap.size w w' := by
  go_enter Try.func76, Try.ntmps76
  go_wp2
  go_loopw [] (fun w' => ∃ pos : Nat, w' = w.iter s pos) (fun w' => s.size - w'.iterPos w.heap.size)
  case atStart => exact ⟨0, rfl⟩
  case round =>
    obtain ⟨pos, rfl⟩ := hrel
    by_cases hp : pos < s.size
    · have hb := hs pos hp
      have hnx : ∀ ty, (Instr.next (.pointer (some ⟨w.heap.size, 0, none⟩)) true ty).run Try.prog (w.iter s pos) = _ := fun ty => run_next_ascii w s pos ty hp hb
      generalize (s[pos]'hp).toNat = n at *
      go_wp2
      go_roundw
      case rel => exact ⟨pos + 1, rfl⟩
      case measure => simp; omega
    · have hnx : ∀ ty, (Instr.next (.pointer (some ⟨w.heap.size, 0, none⟩)) true ty).run Try.prog (w.iter s pos) = _ := fun ty => run_next_end w s pos ty hp
      go_wp2
      go_ret
      exact ⟨rfl, (Below.refl _ _).alloc (Nat.le_refl _) _⟩
theorem ix9 (s : ByteArray) (k : IntKind) (i : Int) (h0 : 0 ≤ i) (h1 : i < s.size) (W : World) : (Instr.index 9 (.string s) (.int k i)).run Try.prog W = .ok (.int .u8 (bt s i)) W := by
  rw [run_index_string W 9 s k i Try.underlying9, dif_pos ⟨h0, h1⟩, bt_at s i (by omega)]
set_option maxRecDepth 100000 in
set_option maxHeartbeats 1000000 in
theorem idx_bad (s : ByteArray) (r : Int) (w : World) (hr : 128 ≤ r) (hn : (r == 65533) = false) (hv : Lib.validRune r = false) :
    Calls Try.prog 76 #[.string s, .int .i32 r] w fun e w' => e = .returned (.int .i64 (-1)) ∧ Below w.heap.size w w' := by
  go_enter Try.func76, Try.ntmps76
  go_wp2_with (go_at_call 78; refine (Try.utf8_ValidRune _ _).mono ?_; rintro e1 w1 ⟨rfl, rfl⟩; rw [hv])
  go_ret
  exact ⟨rfl, Below.refl _ _⟩
theorem indexByte_no (l : List UInt8) (c : UInt8) (h : ∀ b ∈ l, b ≠ c) : Lib.indexByte l c = -1 := by
  induction l with
  | nil => rfl
  | cons a t ih =>
    have h1 : (a == c) = false := by simpa using h a (List.mem_cons_self ..)
    have h2 := ih (fun b hb => h b (List.mem_cons_of_mem _ hb))
    simp [Lib.indexByte, h1, h2]
theorem low_tail (s : ByteArray) (hs : ∀ (i : Nat) (h : i < s.size), (s[i]'h).toNat < 128) (a b : Nat) : ∀ x ∈ L (s.extract a b), x.toNat < 128 := by
  intro x hx
  rw [L_ext] at hx
  have hx2 := List.mem_of_mem_drop (List.mem_of_mem_take hx)
  obtain ⟨i, hi, rfl⟩ := List.getElem_of_mem hx2
  exact hs i (by rw [← L_len]; exact hi)
set_option maxRecDepth 100000 in
set_option maxHeartbeats 2000000 in
theorem idx_high (s : ByteArray) (r : Int) (w : World) (hs : ∀ (i : Nat) (h : i < s.size), (s[i]'h).toNat < 128) (hs1 : 4 ≤ s.size) (hs2 : s.size ≤ 1000) (hr : 128 ≤ r) (hn : (r == 65533) = false) (hv : Lib.validRune r = true) :
    Calls Try.prog 76 #[.string s, .int .i32 r] w fun e w' => e = .returned (.int .i64 (-1)) ∧ Below w.heap.size w w' := by
  have hv2 : Utf8.valid r = true := by
    have := of_decide_eq_true hv
    simp [Utf8.valid]; omega
  obtain ⟨e1, e2, e3⟩ := encode_facts r hv2 hr
  have V := Lib.hid (And.intro hv hv2)
  clear hv hv2
  generalize hq : Utf8.encode r = q at *
  have Q := Lib.hid hq
  clear hq
  go_enter Try.func76, Try.ntmps76
  go_wp2_with (go_at_call 78; refine (Try.utf8_ValidRune _ _).mono ?_; rintro e1 w1 ⟨rfl, rfl⟩; rw [V.out.1])
  have hcv : ∀ W : World, (convert 21 9 (.int .i32 r)).run Try.prog W = .ok (.string q) W := fun W => by
    rw [← Q.out]
    simp [convert, run_underlying Try.underlying21, run_underlying Try.underlying9, Conv.intToString]
  have hi1 := fun W => ix9 s .i64 ((q.size : Int) - 1) (by omega) (by omega) W
  have hi2 := fun W => ix9 q .i64 ((q.size : Int) - 1) (by omega) (by omega) W
  have b0 : bt s ((q.size : Int) - 1) < 128 := by
    rw [← bt_at s ((q.size : Int) - 1) (by omega)]; have := hs ((q.size : Int) - 1).toNat (by omega); omega
  have b1 : 128 ≤ bt q ((q.size : Int) - 1) := by
    rw [← bt_at q ((q.size : Int) - 1) (by omega)]
    have := e3 (by omega)
    have e : ((q.size : Int) - 1).toNat = q.size - 1 := by omega
    simp only [e]; omega
  have b2 := bt_range q ((q.size : Int) - 1)
  have b3 := bt_range s ((q.size : Int) - 1)
  have hcall : ∀ W, Calls Try.prog 77 #[.string (s.extract q.size s.size), .int .u8 (bt q ((q.size : Int) - 1))] W fun e w' => e = .returned (.int .i64 (-1)) ∧ w' = W := fun W => by
    refine (Try.strings_IndexByte _ _ _).mono ?_
    rintro e w' ⟨rfl, rfl⟩
    rw [indexByte_no]
    · exact ⟨rfl, rfl⟩
    · intro b hb e
      have := low_tail s hs _ _ b hb
      rw [e] at this
      simp at this
      omega
  have H := Lib.hid hs
  clear hs e3
  generalize bt s ((q.size : Int) - 1) = x at *
  generalize bt q ((q.size : Int) - 1) = y at *
  have hne : (x != y) = true := by rw [bne_iff_ne]; omega
  have HC := Lib.hid hcall
  clear hcall
  go_step3
  go_wp2
  refine wp_loop_rounds 1 ?_
  rw [rounds_succ]
  go_wp2
  go_step3
  go_wp2
  go_quiet (fail)
  go_wp2
  have hw : IntKind.i64.wrap (q.size : Int) = (q.size : Int) := by rw [IntWalk.i64_in _ ⟨by omega, by omega⟩]
  have hq1 : (q.size : Int) ≤ s.size := by omega
  go_quiet ((go_at_call 77; exact Aid.quiet_add_same (HC.out _)))
  go_wp2
  rw [Exit.noGoto_ret]
  go_wp2
  rw [Exit.noGoto_ret]
  go_wp2
  go_ret
  exact ⟨rfl, by repeat (first | exact Below.refl _ _ | apply pw_below_drewN)⟩
def alpha : ByteArray := { data := #[97, 98, 99, 100, 101, 102, 103, 104, 105, 106, 107, 108, 109, 110, 111, 112, 113, 114, 115, 116, 117, 118, 119, 120, 121, 122, 48, 49, 50, 51, 52, 53, 54, 55, 56, 57, 47, 46, 45] }
theorem alpha_size : alpha.size = 39 := rfl
theorem alpha_low : ∀ (i : Nat) (h : i < alpha.size), (alpha[i]'h).toNat < 128 := by decide
theorem idx_any (r : Int) (w : World) (hr : 128 ≤ r) : Calls Try.prog 76 #[.string alpha, .int .i32 r] w fun e w' => e = .returned (.int .i64 (-1)) ∧ Below w.heap.size w w' := by
  by_cases h : r = 65533
  · subst h; exact idx_err alpha w alpha_low
  · have hn : (r == 65533) = false := by simpa using h
    by_cases hv : Lib.validRune r = true
    · exact idx_high alpha r w alpha_low (by rw [alpha_size]; omega) (by rw [alpha_size]; omega) hr hn hv
    · exact idx_bad alpha r w hr hn (by simpa using hv)
theorem has_high (r : Int) (w : World) (hr : 128 ≤ r) : Calls Try.prog 74 #[.string alpha, .int .i32 r] w fun e w' => e = .returned (.bool false) ∧ Below w.heap.size w w' := by
  generalize hs : alpha = s
  have S := Lib.hid hs
  clear hs
  go_enter Try.func74, Try.ntmps74
  go_wp2_with (go_at_call 76; rw [← S.out]; refine (idx_any _ _ hr).mono ?_; rintro e1 w1 ⟨rfl, hb⟩)
  go_ret
  exact ⟨rfl, hb⟩
def okc (b : UInt8) : Bool := decide ((97 ≤ b.toNat ∧ b.toNat ≤ 122) ∨ (48 ≤ b.toNat ∧ b.toNat ≤ 57) ∨ b.toNat = 47 ∨ b.toNat = 46 ∨ b.toNat = 45)
theorem okc_alpha (b : UInt8) : decide (0 ≤ Lib.indexByte alpha.data.toList b) = okc b := by
  have h : ∀ n : Fin 256, decide (0 ≤ Lib.indexByte alpha.data.toList (UInt8.ofNat n.val)) = okc (UInt8.ofNat n.val) := by decide +kernel
  have := h ⟨b.toNat, b.toNat_lt⟩
  simpa using this
theorem okc_low (b : UInt8) (h : okc b = true) : b.toNat < 128 := by have := of_decide_eq_true h; omega
theorem has_low (n : Nat) (w : World) (hn : n < 128) : Calls Try.prog 74 #[.string alpha, .int .i32 (n : Int)] w fun e w' => e = .returned (.bool (okc (UInt8.ofNat n))) ∧ Below w.heap.size w w' := by
  refine (Try.strings_ContainsRune_ascii alpha (n : Int) w (by omega) (by omega)).mono ?_
  rintro e w' ⟨rfl, rfl⟩
  rw [← okc_alpha]
  exact ⟨rfl, Below.refl _ _⟩
def namedB (l : Bytes) : Bool := l.all okc && !l.isEmpty
end Go.Proofs.Ytppgbahiolhgbaa
end
section
set_option linter.unusedVariables false
set_option linter.unusedSimpArgs false
namespace Go.Proofs.Ytppgbahiolhgbaa
open Go.RowKit Go.Lib Go.Proofs.YtppgbahiolhgbaaW.PrintWords Sp
open PScriptReads
theorem all_take_succ (l : Bytes) (i : Nat) (h : i < l.length) : (l.take (i + 1)).all okc = ((l.take i).all okc && okc (l.getD i 0)) := by
  rw [take_succ_getD l i h, List.all_append]; simp
theorem getD_byte (s : ByteArray) (i : Nat) (h : i < s.size) : (s[i]'h) = (L s).getD i 0 := by
  rw [List.getD_eq_getElem?_getD, List.getElem?_eq_getElem (by rw [L_len]; exact h)]; rfl
theorem all_false (l : Bytes) (i : Nat) (h : i < l.length) (h2 : okc (l.getD i 0) = false) : namedB l = false := by
  unfold namedB
  have : l.all okc = false := by
    rw [List.all_eq_false]
    exact ⟨l.getD i 0, by rw [List.getD_eq_getElem?_getD, List.getElem?_eq_getElem h]; exact List.getElem_mem h, by rw [h2]; simp⟩
  rw [this]; rfl
set_option maxRecDepth 100000 in
set_option maxHeartbeats 1000000 in
theorem named71 (s : ByteArray) (w : World) : Calls Try.prog 71 #[.string s] w fun e w' => e = .returned (.bool (namedB (L s))) ∧ Below w.heap.size w w' := by
  go_enter Try.func71, Try.ntmps71
  go_wp2
  go_loopw [] (fun w' => ∃ (pos : Nat) (W : World), w' = W ∧ W.heap[w.heap.size]? = some (.stringIter s pos) ∧ Below w.heap.size w W ∧ pos ≤ s.size ∧ Hid (((L s).take pos).all okc = true)) (fun w' => s.size - w'.iterPos w.heap.size)
  case atStart =>
    exact ⟨0, _, rfl, by simp [World.iter_heap], (Below.refl _ _).alloc (Nat.le_refl _) _, by omega, rfl⟩
  case round =>
    obtain ⟨pos, W, rfl, hit, hbe, hpos, hall⟩ := hrel
    by_cases hp : pos < s.size
    · have hnx := fun ty => run_next_any_at (P := Try.prog) wr w.heap.size s pos ty hit hp
      have hit2 := iterAt_heap wr w.heap.size s pos (pos + (Utf8.decode s pos).2) hit
      have hbe2 := below_iterAt hbe (Nat.le_refl _) s (pos + (Utf8.decode s pos).2)
      have hg := getD_byte s pos hp
      by_cases hlow : (s[pos]'hp).toNat < 128
      · rw [decode_ascii s pos hp hlow] at hnx hit2 hbe2
        have hn : UInt8.ofNat (s[pos]'hp).toNat = s[pos]'hp := by simp
        have HN := Lib.hid (And.intro hn hg)
        clear hn hg
        generalize (s[pos]'hp).toNat = n at *
        by_cases hok : okc (UInt8.ofNat n) = true
        · generalize hW : wr.iterAt w.heap.size s (pos + 1) = W2 at *
          go_wp2_with (go_at_call 74; refine (has_low _ _ hlow).mono ?_; rintro e1 w1 ⟨rfl, hb1⟩; rw [hok])
          go_roundw
          case rel =>
            refine ⟨pos + 1, w1, rfl, (hb1.block _ (lt_of_block hit2)).trans hit2, hbe2.trans (hb1.mono hbe2.size), by omega, ?_⟩
            show _ = true
            rw [all_take_succ _ _ (by rw [L_len]; exact hp), hall.out, ← HN.out.2, ← HN.out.1, hok]; rfl
          case measure =>
            rw [iterPos_of ((hb1.block _ (lt_of_block hit2)).trans hit2), iterPos_of hit]; omega
        · have hok' : okc (UInt8.ofNat n) = false := by simpa using hok
          have F := Lib.hid (all_false (L s) pos (by rw [L_len]; exact hp) (by rw [← HN.out.2, ← HN.out.1]; exact hok'))
          clear hok
          generalize hW : wr.iterAt w.heap.size s (pos + 1) = W2 at *
          go_wp2_with (go_at_call 74; refine (has_low _ _ hlow).mono ?_; rintro e1 w1 ⟨rfl, hb1⟩; rw [hok'])
          go_ret
          exact ⟨by rw [F.out]; rfl, hbe2.trans (hb1.mono hbe2.size)⟩
      · have hd := (decode_high s pos hp (by omega)).1
        have hok : okc ((L s).getD pos 0) = false := by
          rw [← hg]
          cases h : okc (s[pos]'hp) with
          | false => rfl
          | true => exact absurd (okc_low _ h) hlow
        have F := Lib.hid (all_false (L s) pos (by rw [L_len]; exact hp) hok)
        clear hok hg
        generalize Utf8.decode s pos = dd at *
        obtain ⟨r, n⟩ := dd
        simp only at hd hnx hit2 hbe2
        generalize hW : wr.iterAt w.heap.size s (pos + n) = W2 at *
        go_wp2_with (go_at_call 74; refine (has_high _ _ (by omega)).mono ?_; rintro e1 w1 ⟨rfl, hb1⟩)
        go_ret
        exact ⟨by rw [F.out]; rfl, hbe2.trans (hb1.mono hbe2.size)⟩
    · have hnx := fun ty => run_next_end_at (P := Try.prog) wr w.heap.size s pos ty hit hp
      obtain rfl : pos = s.size := by omega
      have F : namedB (L s) = !s.toList.isEmpty := by
        have h1 := hall.out
        rw [List.take_of_length_le (by rw [L_len]; omega)] at h1
        unfold namedB
        rw [h1, toL]; rfl
      have F' := Lib.hid F
      clear F
      go_wp2
      go_ret
      exact ⟨by rw [F'.out]; rfl, hbe⟩
theorem name_loop (s : ByteArray) (hs : s.size ≤ 9223372036854775807) (d : Nat) : ∀ (i k : Nat), i + d = s.size → d + 1 ≤ k → ((L s).take i).all okc = true →
    chirographref06_name.l0 k s (i : Int) = some (namedB (L s)) := by
  induction d with
  | zero =>
    intro i k hi hk ha
    obtain ⟨k, rfl⟩ : ∃ m, k = m + 1 := ⟨k - 1, by omega⟩
    rw [List.take_of_length_le (by rw [L_len]; omega)] at ha
    simp only [chirographref06_name.l0]
    rw [if_neg (by omega), toL]
    unfold namedB
    rw [ha]
    cases L s <;> rfl
  | succ d ih =>
    intro i k hi hk ha
    obtain ⟨k, rfl⟩ : ∃ m, k = m + 1 := ⟨k - 1, by omega⟩
    have hil : i < (L s).length := by rw [L_len]; omega
    have e := bt_eq s i
    have w1 := w64 (x := (i : Int) + 1) (by omega) (by omega)
    have step := fun h => ih (i + 1) k (by omega) (by omega) h
    have ha2 := all_take_succ (L s) i hil
    have hf := all_false (L s) i hil
    rw [ha, Bool.true_and] at ha2
    rw [show ((i + 1 : Nat) : Int) = (i : Int) + 1 from rfl] at step
    have hkc : okc ((L s).getD i 0) = decide ((97 ≤ ((L s).getD i 0).toNat ∧ ((L s).getD i 0).toNat ≤ 122) ∨ (48 ≤ ((L s).getD i 0).toNat ∧ ((L s).getD i 0).toNat ≤ 57) ∨ ((L s).getD i 0).toNat = 47 ∨ ((L s).getD i 0).toNat = 46 ∨ ((L s).getD i 0).toNat = 45) := rfl
    rw [hkc] at ha2 hf
    clear hkc
    simp only [chirographref06_name.l0]
    rw [if_pos (by omega), if_pos (by omega), e, w1]
    generalize ((L s).getD i 0).toNat = n at *
    repeat' split
    all_goals first
      | exact step (by rw [ha2]; apply decide_eq_true; omega)
      | (rw [hf (by apply decide_eq_false; omega)])
theorem name75_f (s : ByteArray) (hs : s.size ≤ 9223372036854775807) (k : Nat) (hk : s.size + 1 ≤ k) : chirographref06_name.f k s = some (namedB (L s)) := by
  unfold chirographref06_name.f
  exact name_loop s hs s.size 0 k (by omega) hk rfl
end Go.Proofs.Ytppgbahiolhgbaa
end
