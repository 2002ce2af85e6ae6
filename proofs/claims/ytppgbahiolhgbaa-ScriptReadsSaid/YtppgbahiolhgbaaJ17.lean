/- Contracts and plain laws over the seat, laid together (group 17 of what the claim needs). -/
import Derived.Test.YtppgbahiolhgbaaJ0
import Derived.Test.YtppgbahiolhgbaaJ16
import Derived.Laws.BitsAllLaws
import Derived.Lib.Strings
import Derived.WalkLawsBesides
import Derived.WalkSpells
import Derived.Deep.LoopGhost
import Derived.Lib.Hide
import Derived.Test.YtppgbahiolhgbaaJ15
import Derived.Lib.ConvBytes
section
set_option linter.unusedVariables false
set_option linter.unusedSimpArgs false
namespace Go.Proofs.Ytppgbahiolhgbaa.Sp
open Go.RowKit Go.Proofs.YtppgbahiolhgbaaW.PrintWords
open PScriptReads
abbrev L (s : ByteArray) : Bytes := s.data.toList
def mk (l : Bytes) : ByteArray := ⟨l.toArray⟩
theorem L_mk (l : Bytes) : L (mk l) = l := by simp [L, mk]
theorem mk_L (s : ByteArray) : mk (L s) = s := by simp [L, mk]
theorem size_mk (l : Bytes) : (mk l).size = l.length := by simp [mk, ByteArray.size]
theorem L_len (s : ByteArray) : (L s).length = s.size := data_length s
theorem mk_app (a b : Bytes) : mk a ++ mk b = mk (a ++ b) := by
  apply ByteArray.ext
  show (ByteArray.append _ _).data = _
  simp [mk]
theorem L_ext (s : ByteArray) (a b : Nat) : L (s.extract a b) = ((L s).drop a).take (b - a) := Lib.extract_data s a b
theorem L_inj {a b : ByteArray} (h : L a = L b) : a = b := by rw [← mk_L a, ← mk_L b, h]
theorem toL (s : ByteArray) : s.toList = L s := ByteArray.toList_eq s
theorem bt_eq (s : ByteArray) (i : Nat) : bt s (i : Int) = (((L s).getD i 0).toNat : Int) := by
  unfold bt
  split
  · rename_i h
    simp only [Int.toNat_natCast] at h
    congr 2
    rw [List.getD_eq_getElem?_getD, List.getElem?_eq_getElem (by rw [L_len]; exact h)]
    rfl
  · rename_i h
    simp only [Int.toNat_natCast] at h
    rw [List.getD_eq_getElem?_getD, List.getElem?_eq_none (by rw [L_len]; omega)]
    rfl
theorem w64 {x : Int} (h0 : -9223372036854775808 ≤ x) (h1 : x ≤ 9223372036854775807) : wrap64 x = x := IntWalk.wrap64_in x ⟨h0, h1⟩
theorem wu64 {x : Int} (h0 : 0 ≤ x) (h1 : x ≤ 18446744073709551615) : IntKind.u64.wrap x = x := IntWalk.u64_in x ⟨h0, h1⟩
theorem take_succ_getD (l : Bytes) (i : Nat) (h : i < l.length) : l.take (i + 1) = l.take i ++ [l.getD i 0] := by
  rw [List.take_succ_eq_append_getElem h, List.getD_eq_getElem?_getD, List.getElem?_eq_getElem h]; rfl
theorem val_take_lt' (t : Bytes) (i : Nat) : val (t.take i) < 256 ^ i := by
  have h := val_lt (t.take i)
  exact Nat.lt_of_lt_of_le h (Nat.pow_le_pow_right (by omega) (by rw [List.length_take]; omega))
theorem val_take7 (t : Bytes) (i : Nat) (hi : i ≤ 7) : val (t.take i) < 72057594037927936 := by
  have h := val_take_lt' t i
  have h2 := Nat.pow_le_pow_right (n := 256) (by omega) hi
  have h3 : (256 : Nat) ^ 7 = 72057594037927936 := by rfl
  rw [h3] at h2
  omega
theorem or_byte (v b : Nat) (hb : b < 256) (hv : v < 72057594037927936) : Go.bits .or .u64 ((v * 256 : Nat) : Int) (b : Int) = ((v * 256 + b : Nat) : Int) := by
  rw [u64_or_nat _ _ (by omega) (by omega)]
  congr 1
  have := Nat.two_pow_add_eq_or_of_lt (i := 8) (b := b) (by omega) v
  have e : 2 ^ 8 * v = v * 256 := by omega
  rw [e] at this
  exact this.symm
end Go.Proofs.Ytppgbahiolhgbaa.Sp
end
section
set_option linter.unusedVariables false
set_option linter.unusedSimpArgs false
namespace Go.Proofs.Ytppgbahiolhgbaa
open Go.RowKit Go.Proofs.YtppgbahiolhgbaaW.PrintWords Sp
def rnV (r : Nat × Nat × Nat) : Value := .tuple #[.int .u64 (r.1 : Int), .int .i64 (r.2.1 : Int), .int .i64 (r.2.2 : Int)]
theorem rn_empty (s : ByteArray) (w : World) (h : L s = []) : Calls Try.prog 72 #[.string s] w fun e w' => e = .returned (rnV (rdNum (L s))) ∧ w = w' := by
  have c1 : (s.toList == ([] : List UInt8)) = true := by rw [toL, h]; rfl
  have H := Lib.hid h
  clear h
  go_enter Try.func72, Try.ntmps72
  go_wp2
  go_ret3
  exact ⟨by rw [H.out]; rfl, rfl⟩
structure At0 (s : ByteArray) (b : UInt8) (t : Bytes) : Prop where
  c1 : (s.toList == ([] : List UInt8)) = false
  hsz : s.size = t.length + 1
  hb0 : bt s 0 = (b.toNat : Int)
theorem at0 {s : ByteArray} {b : UInt8} {t : Bytes} (h : L s = b :: t) : At0 s b t :=
  ⟨by rw [toL, h]; rfl, by rw [← L_len, h]; rfl, by have := bt_eq s 0; rw [h] at this; simpa using this⟩
theorem rn_small (s : ByteArray) (b : UInt8) (t : Bytes) (w : World) (h : L s = b :: t) (hb : b.toNat ≤ 247) : Calls Try.prog 72 #[.string s] w fun e w' => e = .returned (rnV (rdNum (L s))) ∧ w = w' := by
  obtain ⟨c1, hsz, hb0⟩ := at0 h
  have p0 : (0 < (s.size : Int)) = True := eq_true (by omega)
  have p1 : (0 < s.size) = True := eq_true (by omega)
  have hx : ∀ h : 0 < s.size, ((s[0]'h).toNat : Int) = bt s 0 := fun h => bt_at s 0 h
  have c2 : decide (bt s 0 ≤ 247) = true := decide_eq_true (by omega)
  have c3 : 0 ≤ bt s 0 ∧ bt s 0 ≤ 255 := bt_range s 0
  have hfin : rnV (rdNum (L s)) = .tuple #[.int .u64 (bt s 0), .int .i64 1, .int .i64 0] := by
    rw [h, hb0, rdNum_small t hb]; rfl
  have H := Lib.hid hfin
  clear hfin h hsz hb0 hb
  go_enter Try.func72, Try.ntmps72
  go_wp2
  go_ret3
  exact ⟨by rw [H.out]; rfl, rfl⟩
theorem rn_short (s : ByteArray) (b : UInt8) (t : Bytes) (w : World) (h : L s = b :: t) (hb : 247 < b.toNat) (h2 : t.length < b.toNat - 247) : Calls Try.prog 72 #[.string s] w fun e w' => e = .returned (rnV (rdNum (L s))) ∧ w = w' := by
  obtain ⟨c1, hsz, hb0⟩ := at0 h
  have hu := u8_lt b
  have p0 : (0 < (s.size : Int)) = True := eq_true (by omega)
  have p1 : (0 < s.size) = True := eq_true (by omega)
  have p2 : (1 ≤ s.size) = True := eq_true (by omega)
  have p3 : (1 ≤ (s.size : Int)) = True := eq_true (by omega)
  have hx : ∀ h : 0 < s.size, ((s[0]'h).toNat : Int) = bt s 0 := fun h => bt_at s 0 h
  have c2 : decide (bt s 0 ≤ 247) = false := decide_eq_false (by omega)
  have b1 : 247 < bt s 0 := by omega
  have b2 : bt s 0 ≤ 255 := by omega
  have b3 : (s.size : Int) - 1 < bt s 0 - 247 := by omega
  have hfin : rnV (rdNum (L s)) = .tuple #[.int .u64 0, .int .i64 0, .int .i64 6] := by
    rw [h, rdNum_short hb h2]; rfl
  have H := Lib.hid hfin
  clear hfin h hsz hb0 hb h2 hu
  go_enter Try.func72, Try.ntmps72
  go_wp2
  go_ret3
  exact ⟨by rw [H.out]; rfl, rfl⟩
def VV (l : Bytes) (i : Nat) : Int := ((val (l.take i) : Nat) : Int)
theorem VV_zero (l : Bytes) : VV l 0 = 0 := rfl
theorem VV_nn (l : Bytes) (i : Nat) : 0 ≤ VV l i := by unfold VV; omega
theorem VV_step (t : ByteArray) (i : Nat) (hi : i ≤ 7) (hs : i < t.size) : Go.bits .or .u64 (VV (L t) i * 256) (bt t (i : Int)) = VV (L t) (i + 1) ∧ VV (L t) i * 256 ≤ 18446744073709551615 := by
  have hv := val_take7 (L t) i hi
  have hb := u8_lt ((L t).getD i 0)
  unfold VV
  refine ⟨?_, by omega⟩
  rw [bt_eq, show ((val ((L t).take i) : Nat) : Int) * 256 = ((val ((L t).take i) * 256 : Nat) : Int) from by omega, or_byte _ _ hb hv, ← val_snoc, ← take_succ_getD _ _ (by rw [L_len]; omega)]
set_option maxHeartbeats 1000000 in
theorem rn_long (s : ByteArray) (b : UInt8) (t : Bytes) (w : World) (h : L s = b :: t) (hb : 247 < b.toNat) (h2 : b.toNat - 247 ≤ t.length) : Calls Try.prog 72 #[.string s] w fun e w' => e = .returned (rnV (rdNum (L s))) ∧ w = w' := by
  obtain ⟨c1, hsz, hb0⟩ := at0 h
  have hu := u8_lt b
  have p0 : (0 < (s.size : Int)) = True := eq_true (by omega)
  have p1 : (0 < s.size) = True := eq_true (by omega)
  have p2 : (1 ≤ s.size) = True := eq_true (by omega)
  have p3 : (1 ≤ (s.size : Int)) = True := eq_true (by omega)
  have hx : ∀ h : 0 < s.size, ((s[0]'h).toNat : Int) = bt s 0 := fun h => bt_at s 0 h
  have c2 : decide (bt s 0 ≤ 247) = false := decide_eq_false (by omega)
  have b1 : 247 < bt s 0 := by omega
  have b2 : bt s 0 ≤ 255 := by omega
  have b3 : bt s 0 - 247 ≤ (s.size : Int) - 1 := by omega
  have H := Lib.hid (And.intro h (And.intro hb (And.intro h2 (And.intro hsz hb0))))
  clear h hsz hb0 hb h2 hu
  go_enter Try.func72, Try.ntmps72
  go_wp2
  have he : L (s.extract 1 s.size) = t := by rw [L_ext, H.out.1, H.out.2.2.2.1]; simp
  have hes : (s.extract 1 s.size).size = s.size - 1 := by rw [← L_len, he, H.out.2.2.2.1]; simp
  obtain ⟨n, hn, hn8, hn1⟩ : ∃ n : Nat, bt s 0 - 247 = (n : Int) ∧ n ≤ 8 ∧ 1 ≤ n := ⟨(bt s 0 - 247).toNat, by omega, by omega, by omega⟩
  rw [hn]
  generalize s.extract 1 s.size = u at *
  have hus : n ≤ u.size := by omega
  have hfin : rnV (rdNum (L s)) = if (L u).head? = some 0 ∨ VV (L u) n ≤ 247 then .tuple #[.int .u64 0, .int .i64 0, .int .i64 7] else .tuple #[.int .u64 (VV (L u) n), .int .i64 ((n : Int) + 1), .int .i64 0] := by
    obtain ⟨h, hb, h2, hsz, hb0⟩ := H.out
    have hnb : b.toNat - 247 = n := by omega
    have hth : (t.take (b.toNat - 247)).head? = t.head? := by
      rw [hnb]; cases t with
      | nil => simp
      | cons a r => obtain ⟨j, rfl⟩ : ∃ j, n = j + 1 := ⟨n - 1, by omega⟩; simp
    rw [h, he]
    by_cases h3 : t.head? = some 0 ∨ VV t n ≤ 247
    · rw [if_pos h3, rdNum_form hb h2 (by rw [hth, hnb]; unfold VV at h3; rcases h3 with h3 | h3; exact Or.inl h3; exact Or.inr (by omega))]; rfl
    · rw [if_neg h3, rdNum_fine hb h2 (by rw [hth, hnb]; unfold VV at h3; intro h4; apply h3; rcases h4 with h4 | h4; exact Or.inl h4; exact Or.inr (by omega)), hnb]; rfl
  have F := Lib.hid (And.intro hfin (And.intro hn he))
  clear hfin H hn he hes c1 p0 p1 p2 p3 hx c2 b1 b2 b3
  go_loop [2, 25] (fun v i => ∃ j : Nat, j ≤ n ∧ i = .int .i64 j ∧ v = .int .u64 (VV (L u) j)) (fun _ i => n - (intOf i).toNat)
  case atStart => exact ⟨0, by omega, rfl, by rw [VV_zero]⟩
  case round =>
    obtain ⟨j, hj, rfl, rfl⟩ := hrel
    have hnn := VV_nn (L u) j
    by_cases hlt : j < n
    · obtain ⟨hs1, hs2⟩ := VV_step u j (by omega) (by omega)
      have hx : ∀ h : j < u.size, ((u[j]'h).toNat : Int) = bt u (j : Int) := fun h => bt_at u (j : Int) h
      have hr := bt_range u (j : Int)
      have S := Lib.hid hs1
      clear hs1
      have q1 : (j < u.size) = True := eq_true (by omega)
      go_wp2
      go_round
      case rel => exact ⟨j + 1, by omega, by go_num, by rw [← S.out]⟩
      case measure => simp [intOf]; omega
    · obtain rfl : j = n := by omega
      have p0 : (0 < (u.size : Int)) = True := eq_true (by omega)
      have p1 : (0 < u.size) = True := eq_true (by omega)
      have hx : ∀ h : 0 < u.size, ((u[0]'h).toNat : Int) = bt u 0 := fun h => bt_at u 0 h
      have hz : bt u 0 = 0 ↔ (L u).head? = some 0 := by
        have e := bt_eq u 0
        have hl := L_len u
        cases hL : L u with
        | nil => rw [hL] at hl; simp at hl; omega
        | cons a r =>
          rw [hL] at e
          simp only [List.getD_cons_zero] at e
          have e' : bt u 0 = (a.toNat : Int) := e
          rw [e']
          simp only [List.head?_cons, Option.some.injEq]
          constructor
          · intro h; apply UInt8.toNat_inj.1; simp; omega
          · intro h; rw [h]; rfl
      by_cases c0 : bt u 0 = 0
      · have c : (bt u 0 == 0) = true := by simp [c0]
        have E := Lib.hid (And.intro c0 hz)
        clear c0 hz
        go_wp2
        go_ret3
        exact ⟨by rw [F.out.1, if_pos (Or.inl (E.out.2.1 E.out.1))]; rfl, rfl⟩
      · have c : (bt u 0 == 0) = false := by simp [c0]
        have E := Lib.hid (And.intro c0 hz)
        clear c0 hz
        by_cases c1 : VV (L u) j ≤ 247
        · go_wp2
          go_ret3
          exact ⟨by rw [F.out.1, if_pos (Or.inr c1)]; rfl, rfl⟩
        · go_wp2
          go_ret3
          exact ⟨by rw [F.out.1, if_neg (fun h => h.elim (fun h => E.out.1 (E.out.2.2 h)) (fun h => by omega))]; rfl, rfl⟩
theorem rn72 (s : ByteArray) (w : World) : Calls Try.prog 72 #[.string s] w fun e w' => e = .returned (rnV (rdNum (L s))) ∧ w = w' := by
  cases h : L s with
  | nil => rw [← h]; exact rn_empty s w h
  | cons b t =>
    rw [← h]
    by_cases hb : b.toNat ≤ 247
    · exact rn_small s b t w h hb
    · by_cases h2 : t.length < b.toNat - 247
      · exact rn_short s b t w h (by omega) h2
      · exact rn_long s b t w h (by omega) (by omega)
def rtV (r : Bytes × Nat × Nat) : Value := .tuple #[.string (mk r.1), .int .i64 (r.2.1 : Int), .int .i64 (r.2.2 : Int)]
theorem rt70 (s : ByteArray) (m : Int) (w : World) (hs : s.size ≤ 9223372036854775807) (h0 : 0 ≤ m) (h1 : m ≤ 1000000) :
    Calls Try.prog 70 #[.string s, .int .i64 m] w fun e w' => e = .returned (rtV (rdText (L s) m.toNat)) ∧ w = w' := by
  have hlt := rdNum_lt (L s)
  obtain ⟨v, n, e, hr⟩ : ∃ v n e, rdNum (L s) = (v, n, e) := ⟨_, _, _, rfl⟩
  have hV : rnV (rdNum (L s)) = .tuple #[.int .u64 (v : Int), .int .i64 (n : Int), .int .i64 (e : Int)] := by rw [hr]; rfl
  have hn : e = 0 → n ≤ s.size ∧ n ≤ 9 := by
    intro he; subst he
    obtain ⟨a, _, c, _⟩ := rdNum_ok hr
    rw [L_len] at a
    rw [hr] at hlt
    have := numB_len v hlt
    exact ⟨a, by omega⟩
  rw [hr] at hlt
  have hl := L_len s
  have F : rtV (rdText (L s) m.toNat) = if e ≠ 0 then .tuple #[.string ⟨#[]⟩, .int .i64 0, .int .i64 (e : Int)] else if m.toNat < v then .tuple #[.string ⟨#[]⟩, .int .i64 0, .int .i64 5] else if s.size - n < v then .tuple #[.string ⟨#[]⟩, .int .i64 0, .int .i64 6] else .tuple #[.string (s.extract n (n + v)), .int .i64 ((n : Int) + (v : Int)), .int .i64 0] := by
    unfold rdText
    rw [hr, hl]
    simp only
    by_cases c1 : e ≠ 0
    · rw [if_pos c1, if_pos c1]; rfl
    · rw [if_neg c1, if_neg c1]
      by_cases c2 : m.toNat < v
      · rw [if_pos c2, if_pos c2]; rfl
      · rw [if_neg c2, if_neg c2]
        by_cases c3 : s.size - n < v
        · rw [if_pos c3, if_pos c3]; rfl
        · rw [if_neg c3, if_neg c3]
          unfold rtV
          simp only
          have : mk (((L s).drop n).take v) = s.extract n (n + v) := by
            apply L_inj; rw [L_mk, L_ext]; congr 1; omega
          rw [this]; simp
  have F' := Lib.hid F
  have V' := Lib.hid hV
  have N' := Lib.hid hn
  have e0 : (0 : Int) ≤ (e : Int) := by omega
  clear F hV hr hn hl
  by_cases c1 : e = 0
  · obtain ⟨n1, n9⟩ := N'.out c1
    have c1b : ((e : Int) != 0) = false := by subst c1; rfl
    have C1 := Lib.hid c1
    clear c1
    by_cases c2 : m.toNat < v
    · go_enter Try.func70, Try.ntmps70
      go_wp2_with (go_at_call 72; refine (rn72 _ _).mono ?_; rintro e1 w1 ⟨rfl, rfl⟩; rw [V'.out])
      go_ret3
      exact ⟨by rw [F'.out, if_neg (by simp [C1.out]), if_pos c2]; rfl, rfl⟩
    · have c2' : v ≤ m.toNat := by omega
      by_cases c3 : s.size - n < v
      · go_enter Try.func70, Try.ntmps70
        go_wp2_with (go_at_call 72; refine (rn72 _ _).mono ?_; rintro e1 w1 ⟨rfl, rfl⟩; rw [V'.out])
        go_ret3
        exact ⟨by rw [F'.out, if_neg (by simp [C1.out]), if_neg (by omega), if_pos c3]; rfl, rfl⟩
      · go_enter Try.func70, Try.ntmps70
        go_wp2_with (go_at_call 72; refine (rn72 _ _).mono ?_; rintro e1 w1 ⟨rfl, rfl⟩; rw [V'.out])
        go_ret3
        exact ⟨by rw [F'.out, if_neg (by simp [C1.out]), if_neg (by omega), if_neg c3]; rfl, rfl⟩
  · have c1b : ((e : Int) != 0) = true := by simpa using c1
    go_enter Try.func70, Try.ntmps70
    go_wp2_with (go_at_call 72; refine (rn72 _ _).mono ?_; rintro e1 w1 ⟨rfl, rfl⟩; rw [V'.out])
    go_ret3
    exact ⟨by rw [F'.out, if_pos c1]; rfl, rfl⟩
end Go.Proofs.Ytppgbahiolhgbaa
end
section
set_option linter.unusedVariables false
set_option linter.unusedSimpArgs false
namespace Go.Proofs.Ytppgbahiolhgbaa
open Go.RowKit Go.Proofs.YtppgbahiolhgbaaW.PrintWords Go.Proofs.YtppgbahiolhgbaaW.PrintLast Go.Proofs.YtppgbahiolhgbaaW.PrintMore Sp
theorem sn1 (b : UInt8) : strOfNums [(b.toNat : Int)] = mk [b] := by simp [strOfNums, mk]
theorem sn1' (v : Int) (h0 : 0 ≤ v) (h1 : v ≤ 255) : strOfNums [v] = mk [UInt8.ofNat v.toNat] := by
  rw [← sn1, UInt8.toNat_ofNat']; congr 2; omega
theorem numB_small {v : Nat} (h : v < 248) : numB v = [UInt8.ofNat v] := by unfold numB; rw [if_pos h]
theorem conv_one (W : World) (v : Int) : (convert 70 9 (.slice (some ⟨W.heap.size, 0, none⟩) 1 1)).run Try.prog (W.alloc (.cells #[.int .u8 v] 5)) = .ok (.string (strOfNums [v])) (W.alloc (.cells #[.int .u8 v] 5)) :=
  own_string (P := Try.prog) (n := 1) Try.underlying70 Try.underlying5 Try.underlying9 (own_lit W W.heap.size 5 .u8 [v] (Nat.le_refl _) (by simp))
theorem num_small (v : Int) (w : World) (h0 : 0 ≤ v) (h1 : v ≤ 247) : Calls Try.prog 101 #[.int .u64 v] w fun e w' => e = .returned (.string (mk (numB v.toNat))) ∧ Below w.heap.size w w' := by
  have F : mk (numB v.toNat) = strOfNums [v] := by
    rw [numB_small (by omega), sn1' v h0 (by omega)]
  have F' := Lib.hid F
  clear F
  have hcv := fun W => conv_one W v
  go_enter Try.func101, Try.ntmps101
  go_wp2
  go_ret
  exact ⟨by rw [F'.out]; rfl, below_alloc (Below.refl _ _) _⟩
def dl (v : Nat) : Nat → Bytes
  | 0 => []
  | j + 1 => UInt8.ofNat (v / 256 ^ j % 256) :: dl v j
theorem dl_len (v j : Nat) : (dl v j).length = j := by induction j with | zero => rfl | succ j ih => simp [dl, ih]
theorem digs_dl (v j : Nat) (h : j = 0 ∨ v / 256 ^ (j - 1) ≠ 0) : digs v = digs (v / 256 ^ j) ++ dl v j := by
  induction j with
  | zero => simp [dl]
  | succ j ih =>
    have h1 : v / 256 ^ j ≠ 0 := by simpa using h
    have h2 : j = 0 ∨ v / 256 ^ (j - 1) ≠ 0 := by
      rcases Nat.eq_zero_or_pos j with h0 | h0
      · exact Or.inl h0
      · right
        intro e
        apply h1
        have : 256 ^ j = 256 ^ (j - 1) * 256 := by rw [← Nat.pow_succ]; congr 1; omega
        rw [this, ← Nat.div_div_eq_div_mul, e]
    rw [ih h2, digs_pos h1, dl]
    have : v / 256 ^ (j + 1) = v / 256 ^ j / 256 := by rw [Nat.pow_succ, Nat.div_div_eq_div_mul]
    rw [this]
    simp
def nine (v j : Nat) : Array Value := ((List.replicate (9 - j) (Value.int .u8 0)) ++ (dl v j).map (fun b => Value.int .u8 (b.toNat : Int))).toArray
theorem nine_size (v j : Nat) (h : j ≤ 9) : (nine v j).size = 9 := by simp [nine, dl_len]; omega
theorem nine_step (v j : Nat) (h : j ≤ 8) : (nine v j).setIfInBounds (8 - j) (.int .u8 ((v / 256 ^ j % 256 : Nat) : Int)) = nine v (j + 1) := by
  unfold nine
  apply Array.ext'
  simp only [Array.toList_setIfInBounds]
  rw [show 9 - j = (8 - j) + 1 from by omega, List.replicate_succ', show 9 - (j + 1) = 8 - j from by omega]
  simp only [List.append_assoc, dl, List.map_cons, UInt8.toNat_ofNat']
  rw [List.set_append_right _ _ (by simp)]
  simp
theorem slice143 (b : Nat) (l : Int) (h0 : 0 ≤ l) (h1 : l ≤ 8) (W : World) : (Instr.sliceAt 143 (.pointer (some ⟨b, 0, none⟩)) (some (.int .i64 l)) none none).run Try.prog W = .ok (.slice (some ⟨b, l.toNat, none⟩) (9 - l.toNat) (9 - l.toNat)) W := by
  have ha : Try.prog.arrayLen 143 = 9 := by kernel_rfl
  have he : Try.prog.elem 143 = 5 := by kernel_rfl
  have hs : (sizeOf 5).run Try.prog W = .ok 1 W := by kernel_rfl
  rw [run_sliceAt_array_l W 143 ⟨b, 0, none⟩ (by rw [ha, he]; kernel_rfl) .i64 l h0 (by rw [ha]; omega), he, hs, ha]
  simp only [Result.andThen, slicedAt]
  rw [if_neg (by omega), Nat.mul_one, add_plain]
theorem conv_tail (W : World) (C : Array Value) (T : TypeId) (q n c : Nat) (l : Bytes) (hn : l.length = n) (hm : n ≤ 100) (hC : ∀ i, i < n → C[q + i]? = some (.int .u8 ((l.getD i 0).toNat : Int))) :
    (convert 70 9 (.slice (some ⟨W.heap.size, q, none⟩) n c)).run Try.prog (W.alloc (.cells C T)) = .ok (.string (mk l)) (W.alloc (.cells C T)) := by
  have e : mk l = strOfNums (l.map fun b => (b.toNat : Int)) := by
    unfold mk strOfNums
    rw [List.map_map]
    have : (List.map ((fun n => UInt8.ofNat n.toNat) ∘ fun b => ((b : UInt8).toNat : Int)) l) = l := by
      rw [List.map_congr_left (g := id)]
      · simp
      · intro a _; simp
    rw [this]
  rw [e]
  refine string_of_reads (e := 5) Try.underlying70 Try.underlying5 Try.underlying9 ⟨by simp [hn], by omega, fun _ => ⟨_, rfl, fun j hj => ?_⟩⟩
  have hb : (W.alloc (.cells C T)).heap[W.heap.size]? = some (.cells C T (0, 0)) := heap_alloc_new W _
  have hcell : (W.alloc (.cells C T)).cell? ⟨W.heap.size, q + j, none⟩ = C[q + j]? := blk_cell hb (q + j)
  have ha : (⟨W.heap.size, q, none⟩ : Addr).add j = ⟨W.heap.size, q + j, none⟩ := by unfold Addr.add; split <;> simp_all
  rw [ha, hcell, hC j hj]
  congr 3
  rw [List.getD_eq_getElem?_getD, List.getD_eq_getElem?_getD, List.getElem?_map]
  cases l[j]? <;> simp
theorem nine_at (v j i : Nat) (hj : j ≤ 8) (hi : i < j) : (nine v j)[9 - j + i]? = some (.int .u8 (((dl v j).getD i 0).toNat : Int)) := by
  unfold nine
  rw [List.getElem?_toArray, List.getElem?_append_right (by simp)]
  simp only [List.length_replicate, Nat.add_sub_cancel_left, List.getElem?_map]
  rw [List.getD_eq_getElem?_getD, List.getElem?_eq_getElem (by rw [dl_len]; exact hi)]
  rfl
set_option maxRecDepth 100000 in
set_option maxHeartbeats 1000000 in
theorem num_big (v : Nat) (w : World) (h0 : 247 < v) (h1 : v < 18446744073709551616) : Calls Try.prog 101 #[.int .u64 (v : Int)] w fun e w' => e = .returned (.string (mk (numB v))) ∧ Below w.heap.size w w' := by
  have a1 : (247 : Int) < (v : Int) := by omega
  have a2 : (v : Int) ≤ 18446744073709551615 := by omega
  have h1' := Lib.hid h1
  clear h1
  go_enter Try.func101, Try.ntmps101
  go_wp2
  go_loopw [0, 4] (fun x a wr => ∃ p y : Nat, ∃ C : Array Value, 1 ≤ p ∧ p ≤ 9 ∧ a = .int .i64 (p : Int) ∧ x = .int .u64 (y : Int) ∧ (y : Int) ≤ 18446744073709551615 ∧ wr = w.alloc (.cells C 143) ∧ Hid (y = v / 256 ^ (9 - p) ∧ C = nine v (9 - p) ∧ (p = 9 ∨ v / 256 ^ (9 - p - 1) ≠ 0))) (fun _ a _ => (intOf a).toNat)
  case atStart => exact ⟨9, v, _, by omega, by omega, rfl, rfl, a2, rfl, ⟨by simp, rfl, Or.inl rfl⟩⟩
  case round =>
    obtain ⟨p, y, C, hp1, hp9, rfl, rfl, hy, rfl, H⟩ := hrel
    by_cases hlt : 0 < y
    · have hp2 : 2 ≤ p := by
        obtain ⟨e, _⟩ := H.out
        rcases Nat.lt_or_ge p 2 with h | h
        · exfalso
          have : p = 1 := by omega
          subst this
          have hz : v / 256 ^ 8 = 0 := Nat.div_eq_of_lt (by rw [pow8]; exact h1'.out)
          rw [hz] at e; omega
        · exact h
      have hsz : C.size = 9 := by rw [H.out.2.1]; exact nine_size _ _ (by omega)
      obtain ⟨u, hcell⟩ : ∃ u, C[p - 1]? = some u := ⟨_, Array.getElem?_eq_getElem (by omega)⟩
      have hsz' := Lib.hid hsz
      clear hsz
      go_wp2
      go_roundw
      case rel =>
        obtain ⟨e1, e2, e3⟩ := H.out
        refine ⟨p - 1, y / 256, _, by omega, by omega, ?_, ?_, by omega, rfl, ⟨?_, ?_, ?_⟩⟩
        · rw [show ((p - 1 : Nat) : Int) = (p : Int) - 1 from by omega]
        · rw [show ((y / 256 : Nat) : Int) = (y : Int) / 256 from by omega]
        · rw [e1, Nat.div_div_eq_div_mul, ← Nat.pow_succ]; congr 2; omega
        · rw [e2, show 9 - (p - 1) = 9 - p + 1 from by omega, ← nine_step v (9 - p) (by omega), ← e1, show 8 - (9 - p) = p - 1 from by omega, show ((y % 256 : Nat) : Int) = (y : Int) % 256 from by omega]
        · right; rw [show 9 - (p - 1) - 1 = 9 - p from by omega, ← e1]; omega
      case measure => simp [intOf]; omega
    · obtain rfl : y = 0 := by omega
      have hsz : C.size = 9 := by rw [H.out.2.1]; exact nine_size _ _ (by omega)
      obtain ⟨u, hcell⟩ : ∃ u, C[p - 1]? = some u := ⟨_, Array.getElem?_eq_getElem (by omega)⟩
      have hj : digs v = dl v (9 - p) := by
        rw [digs_dl v (9 - p) (H.out.2.2.imp (by omega) (fun h => h)), ← H.out.1, digs_zero]; rfl
      have hlen : (digs v).length = 9 - p := by rw [hj, dl_len]
      have hp8 : p ≤ 8 := by have := digs_len_pos (v := v) (by omega); omega
      have hsl := fun W => slice143 w.heap.size ((p : Int) - 1) (by omega) (by omega) W
      rw [show ((p : Int) - 1).toNat = p - 1 from by omega] at hsl
      have hcv : (convert 70 9 (.slice (some ⟨w.heap.size, p - 1, none⟩) (9 - (p - 1)) (9 - (p - 1)))).run Try.prog (w.alloc (.cells (C.setIfInBounds (p - 1) (.int .u8 (255 - ((p : Int) - 1)))) 143)) = .ok (.string (mk (numB v))) (w.alloc (.cells (C.setIfInBounds (p - 1) (.int .u8 (255 - ((p : Int) - 1)))) 143)) := by
        refine conv_tail w _ 143 (p - 1) _ _ (numB v) ?_ (by omega) ?_
        · unfold numB; rw [if_neg (by omega), List.length_cons, hlen]; omega
        · intro i hi
          unfold numB
          rw [if_neg (by omega)]
          cases i with
          | zero =>
            rw [Nat.add_zero, Array.getElem?_setIfInBounds_self_of_lt (by omega), List.getD_cons_zero, UInt8.toNat_ofNat', hlen]
            congr 2; omega
          | succ i =>
            rw [Array.getElem?_setIfInBounds_ne (by omega), List.getD_cons_succ, H.out.2.1, hj, show p - 1 + (i + 1) = 9 - (9 - p) + i from by omega]
            exact nine_at v (9 - p) i (by omega) (by omega)
      have hsz' := Lib.hid (And.intro hsz (And.intro hj hlen))
      clear hsz hj hlen
      go_wp2
      go_ret
      exact ⟨rfl, below_alloc (Below.refl _ _) _⟩
end Go.Proofs.Ytppgbahiolhgbaa
end
