/- Contracts and plain laws over the seat, laid together (group 29 of what the claim needs). -/
import Derived.Test.YtppgbahiolhgbaaH24
import Derived.Test.YtppgbahiolhgbaaH22
import Derived.Test.YtppgbahiolhgbaaH23
import Derived.Test.YtppgbahiolhgbaaH27
import Derived.Test.YtppgbahiolhgbaaH28
set_option linter.unusedVariables false
set_option linter.unusedSimpArgs false
namespace Go.Proofs.Ytppgbahiolhgbaa
open Go.RowKit Go.Proofs.YtppgbahiolhgbaaW.PrintWords Sp
open PScriptReads
def orgB (n : Int) : Bool := decide (0 ≤ n ∧ n ≤ 7)
def numOk (n : Int) : Bool := decide (0 ≤ n ∧ n ≤ 2147483647)
def txnB (co ep sq : Int) : Bool := orgB co && decide (1 ≤ ep ∧ ep ≤ 255 ∧ 1 ≤ sq ∧ sq ≤ 65535)
def giveB (g : S48) : Bool := orgB g.f0 && (tcheck (L g.f1) == 0)
def stepB (x : S51) : Bool := decide (1 ≤ x.f0 ∧ x.f0 ≤ 9) && numOk x.f1 && numOk x.f2 && numOk x.f3 && numOk x.f4 && x.f6.all numOk && decide (x.f5.size ≤ 1024) && decide (x.f6.length ≤ 32)
def bareA (a : S37) : Bool := bareB a.f0 a.f1 a.f2 a.f3 a.f4.length a.f5.f0 a.f5.f1 a.f5.f2 a.f6 a.f7.length
def mayHead (a : S37) : Bool := decide (1 ≤ a.f0 ∧ a.f0 ≤ 10) && bareA a && orgB a.f1 && orgB a.f2 && numOk a.f3 && decide (a.f4.length ≤ 6) && decide (a.f7.length ≤ 64)
def mayTxnA (a : S37) : Bool := decide (¬(a.f0 = 2 ∨ a.f0 = 9)) || txnB a.f5.f0 a.f5.f1 a.f5.f2
def mayAct (a : S37) : Bool := mayHead a && mayTxnA a && a.f4.all giveB && a.f7.all stepB
theorem org_f (n : Int) : (if n ≥ 0 then (some (decide (n < 8))) else (some false)) = some (orgB n) := by
  unfold orgB
  split
  · congr 1; rw [Bool.eq_iff_iff]; simp; omega
  · congr 1; symm; apply decide_eq_false; omega
theorem org23 (n : Int) (w : World) : Calls Try.prog 23 #[.int .i64 n] w fun e w' => e = .returned (.bool (orgB n)) ∧ Below w.heap.size w w' :=
  (script_org.calls n _ w (org_f n)).mono fun e w' h => ⟨h.1, h.2.below⟩
theorem org28 (n : Int) (w : World) : Calls Try.prog 28 #[.int .i64 n] w fun e w' => e = .returned (.bool (orgB n)) ∧ Below w.heap.size w w' :=
  (chirographref12_Org.calls n _ w (org_f n)).mono fun e w' h => ⟨h.1, h.2.below⟩
theorem num_f (n : Int) : chirographref32_num.f n = some (numOk n) := by
  unfold chirographref32_num.f numOk
  split
  · congr 1; rw [Bool.eq_iff_iff]; simp; omega
  · congr 1; symm; apply decide_eq_false; omega
theorem num29 (n : Int) (w : World) : Calls Try.prog 29 #[.int .i64 n] w fun e w' => e = .returned (.bool (numOk n)) ∧ Below w.heap.size w w' :=
  (chirographref32_num.calls n _ w (num_f n)).mono fun e w' h => ⟨h.1, h.2.below⟩
theorem txn_f (co ep sq : Int) (o : Option Bool) (ho : o = some (orgB co)) : (o.bind fun t104 => (if t104 = true then (if ep ≥ 1 then (if ep ≤ 255 then (if sq ≥ 1 then (some (decide (sq ≤ 65535))) else (some false)) else (some false)) else (some false)) else (some false))) = some (txnB co ep sq) := by
  rw [ho]
  unfold txnB
  cases orgB co with
  | false => simp
  | true =>
    simp only [Option.bind_some, if_true, Bool.true_and]
    by_cases h1 : ep ≥ 1
    · by_cases h2 : ep ≤ 255
      · by_cases h3 : sq ≥ 1
        · rw [if_pos h1, if_pos h2, if_pos h3]; congr 1; rw [Bool.eq_iff_iff]; simp; omega
        · rw [if_pos h1, if_pos h2, if_neg h3]; congr 1; symm; apply decide_eq_false; omega
      · rw [if_pos h1, if_neg h2]; congr 1; symm; apply decide_eq_false; omega
    · rw [if_neg h1]; congr 1; symm; apply decide_eq_false; omega
theorem txn25 (co ep sq : Int) (w : World) : Calls Try.prog 25 #[.agg #[.int .i64 co, .int .i64 ep, .int .i64 sq]] w fun e w' => e = .returned (.bool (txnB co ep sq)) ∧ Below w.heap.size w w' :=
  wire_MayTxn.calls co ep sq _ w (txn_f co ep sq _ (org_f co))
theorem txn30 (co ep sq : Int) (w : World) : Calls Try.prog 30 #[.agg #[.int .i64 co, .int .i64 ep, .int .i64 sq]] w fun e w' => e = .returned (.bool (txnB co ep sq)) ∧ Below w.heap.size w w' :=
  chirographref12_MayTxn.calls co ep sq _ w (txn_f co ep sq _ (org_f co))
theorem rd_getElem (l : List Int) (i : Nat) (h : i < l.length) : rd l (i : Int) = l[i] := by
  unfold rd; rw [Int.toNat_natCast, List.getD_eq_getElem?_getD, List.getElem?_eq_getElem h]; rfl
theorem snum_loop (l : List Int) (hl : l.length ≤ 4611686018427387904) (d : Nat) : ∀ (i k : Nat), i + d = l.length → d + 1 ≤ k →
    script_num.l0 k l (l.length : Int) (i : Int) = some ((l.drop i).all numOk) := by
  induction d with
  | zero =>
    intro i k hi hk
    obtain ⟨k, rfl⟩ : ∃ m, k = m + 1 := ⟨k - 1, by omega⟩
    unfold script_num.l0
    rw [if_neg (by omega), List.drop_of_length_le (by omega)]; rfl
  | succ d ih =>
    intro i k hi hk
    obtain ⟨k, rfl⟩ : ∃ m, k = m + 1 := ⟨k - 1, by omega⟩
    have hil : i < l.length := by omega
    have hd : (l.drop i).all numOk = (numOk l[i] && (l.drop (i + 1)).all numOk) := by rw [List.drop_eq_getElem_cons hil]; rfl
    have step := ih (i + 1) k (by omega) (by omega)
    have hw : wrap64 ((i : Int) + 1) = ((i + 1 : Nat) : Int) := by rw [w64 (by omega) (by omega)]; omega
    unfold script_num.l0
    rw [if_pos (by omega), if_pos (by omega), if_pos (by omega), rd_getElem l i hil, hd, hw, step]
    unfold numOk
    by_cases h1 : l[i] < 0
    · rw [if_pos h1, decide_eq_false (by omega)]; rfl
    · rw [if_neg h1]
      by_cases h2 : l[i] > 2147483647
      · rw [if_pos h2, decide_eq_false (by omega)]; rfl
      · rw [if_neg h2, decide_eq_true (by omega), Bool.true_and]
theorem num24 (A : Option Addr) (c : Nat) (l : List Int) (w : World) (hr : Kd.C (Kd.int .i64) w A l.length l) (hc : l.length ≤ c) (hl : l.length ≤ 4611686018427387904) :
    Calls Try.prog 24 #[.slice A l.length c] w fun e w' => e = .returned (.bool (l.all numOk)) ∧ Below w.heap.size w w' :=
  (script_num.calls (l.length + 1) A c l _ w hr hc (by
    unfold script_num.f
    have := snum_loop l hl l.length 0 _ (by omega) (Nat.le_refl _)
    simpa using this)).mono fun e w' h => ⟨h.1, h.2.below⟩
def hOrg (d : Int) : Bool := decide (d ≠ 4 ∧ 1 ≤ d ∧ d ≤ 10)
def hAud (d : Int) : Bool := decide (d = 1)
def hN (d : Int) : Bool := decide (d = 4 ∨ d = 6 ∨ d = 7)
def hGives (d : Int) : Bool := decide (d = 1)
def hTxn (d : Int) : Bool := decide (d = 2 ∨ d = 9)
def hYes (d : Int) : Bool := decide (d = 2)
def hSteps (d : Int) : Bool := decide (d = 5 ∨ d = 10)
def hIs (d : Int) : Bool := decide (1 ≤ d ∧ d ≤ 10)
theorem of27 (d : Int) (w : World) : Calls Try.prog 27 #[.int .u8 d] w fun e w' => e = .returned (.tuple #[.agg #[.bool (hOrg d), .bool (hAud d), .bool (hN d), .bool (hGives d), .bool (hTxn d), .bool (hYes d), .bool (hSteps d)], .bool (hIs d)]) ∧ Below w.heap.size w w' := by
  refine chirographref32_Of.calls 10 d _ _ _ _ _ _ _ _ w ?_
  unfold chirographref32_Of.f hOrg hAud hN hGives hTxn hYes hSteps hIs
  by_cases h : d ≤ 0 ∨ 11 ≤ d
  · have e : ∀ k : Int, 1 ≤ k → k ≤ 10 → ¬ d = k := fun k h1 h2 => by omega
    have b : ∀ k : Int, 1 ≤ k → k ≤ 10 → (d == k) = false := fun k h1 h2 => by rw [beq_eq_false_iff_ne]; exact e k h1 h2
    simp [chirographref32_Of.j0, chirographref32_Of.j1, chirographref32_Of.j2, e, b]
    omega
  · have : d = 1 ∨ d = 2 ∨ d = 3 ∨ d = 4 ∨ d = 5 ∨ d = 6 ∨ d = 7 ∨ d = 8 ∨ d = 9 ∨ d = 10 := by omega
    rcases this with rfl | rfl | rfl | rfl | rfl | rfl | rfl | rfl | rfl | rfl <;> rfl
theorem mstep_loop (a b c d e : Int) (s : ByteArray) (l : List Int) (x : Int) (hl : l.length ≤ 4611686018427387904) (n : Nat) : ∀ (i k : Nat), i + n = l.length → n + 1 ≤ k →
    chirographref32_mayStep.l0 k (i : Int) x a b c d s l = some ((l.drop i).all numOk) := by
  induction n with
  | zero =>
    intro i k hi hk
    obtain ⟨k, rfl⟩ : ∃ m, k = m + 1 := ⟨k - 1, by omega⟩
    unfold chirographref32_mayStep.l0
    rw [if_neg (by omega), List.drop_of_length_le (by omega)]; rfl
  | succ n ih =>
    intro i k hi hk
    obtain ⟨k, rfl⟩ : ∃ m, k = m + 1 := ⟨k - 1, by omega⟩
    have hil : i < l.length := by omega
    have hd : (l.drop i).all numOk = (numOk l[i] && (l.drop (i + 1)).all numOk) := by rw [List.drop_eq_getElem_cons hil]; rfl
    have step := ih (i + 1) k (by omega) (by omega)
    have hw : wrap64 ((i : Int) + 1) = ((i + 1 : Nat) : Int) := by rw [w64 (by omega) (by omega)]; omega
    unfold chirographref32_mayStep.l0
    rw [if_pos (by omega), if_pos (by omega), rd_getElem l i hil, num_f, hd, hw, step]
    simp only [Option.bind_some]
    cases numOk l[i] <;> rfl
theorem mstep_j (k : Nat) (b : Bool) (x a1 a2 a3 a4 : Int) (s : ByteArray) (l : List Int) (hl : l.length ≤ 4611686018427387904) (hk : l.length + 2 ≤ k) :
    chirographref32_mayStep.j0 k b x a1 a2 a3 a4 s l = some (!b && l.all numOk) := by
  obtain ⟨k, rfl⟩ : ∃ m, k = m + 1 := ⟨k - 1, by omega⟩
  have h := mstep_loop a1 a2 a3 a4 0 s l x hl l.length 0 k (by omega) (by omega)
  unfold chirographref32_mayStep.j0
  cases b with
  | true => rfl
  | false => simpa using h
theorem step32 (x : S51) (A : Option Addr) (c : Nat) (w : World) (hr : Kd.C (Kd.int .i64) w A x.f6.length x.f6) (hc : x.f6.length ≤ c) (hl : x.f6.length ≤ 4611686018427387904) :
    Calls Try.prog 32 #[.agg #[.int .u8 x.f0, .int .i64 x.f1, .int .i64 x.f2, .int .i64 x.f3, .int .i64 x.f4, .string x.f5, .slice A x.f6.length c]] w fun e w' => e = .returned (.bool (stepB x)) ∧ Below w.heap.size w w' := by
  refine chirographref32_mayStep.calls (x.f6.length + 2) _ _ _ _ _ _ A c x.f6 _ w hr hc ?_
  have hj := fun b => mstep_j (x.f6.length + 2) b x.f0 x.f1 x.f2 x.f3 x.f4 x.f5 x.f6 hl (Nat.le_refl _)
  unfold chirographref32_mayStep.f stepB
  simp only [hj, num_f, Option.bind_some]
  generalize x.f6.all numOk = al
  by_cases h1 : x.f0 < 1
  · rw [if_pos h1, decide_eq_false (by omega)]; rfl
  · rw [if_neg h1]
    by_cases h2 : x.f0 > 9
    · rw [if_pos h2, decide_eq_false (by omega)]; rfl
    · have e0 : decide (1 ≤ x.f0 ∧ x.f0 ≤ 9) = true := decide_eq_true (by omega)
      rw [if_neg h2, e0]
      cases numOk x.f1 <;> cases numOk x.f2 <;> cases numOk x.f3 <;> cases numOk x.f4 <;> simp
      have e1 : decide (32 < (x.f6.length : Int)) = decide (32 < x.f6.length) := by rw [Bool.eq_iff_iff]; simp; omega
      by_cases h3 : 1024 < x.f5.size
      · have h3' : 1024 < (x.f5.size : Int) := by omega
        have e3 : decide (x.f5.size ≤ 1024) = false := decide_eq_false (by omega)
        simp [h3', e3]
        try omega
      · have h3' : ¬ 1024 < (x.f5.size : Int) := by omega
        have e3 : decide (x.f5.size ≤ 1024) = true := decide_eq_true (by omega)
        have e4 : decide (x.f6.length ≤ 32) = !decide (32 < x.f6.length) := by rw [Bool.eq_iff_iff]; simp
        simp only [h3', if_false, e1, e3, e4]
        cases decide (32 < x.f6.length) <;> cases al <;> rfl
end Go.Proofs.Ytppgbahiolhgbaa
