import Derived.Test.YtppgbahiolhgbaaGX13
import Derived.Test.YtppgbahiolhgbaaPScriptReadsx0
import Derived.Test.YtppgbahiolhgbaaG1
import Derived.Test.YtppgbahiolhgbaaG2
section
/- Which numbers, organisations, transactions, steps and acts may be; the contracts of what says so in small. -/
set_option linter.unusedVariables false
set_option linter.unusedSimpArgs false
namespace Go.Proofs.Ytppgbahiolhgbaa
open Go.RowKit Go.Proofs.YtppgbahiolhgbaaW.PrintWords Sp
open PScriptReads

def orgB (n : Int) : Bool := decide (0 ≤ n ∧ n ≤ 7)
def numOk (n : Int) : Bool := decide (0 ≤ n ∧ n ≤ 2147483647)
def txnB (co ep sq : Int) : Bool := orgB co && decide (1 ≤ ep ∧ ep ≤ 255 ∧ 1 ≤ sq ∧ sq ≤ 65535)
def giveB (g : S48) : Bool := orgB g.f0 && (tcheck (L g.f1) == 0)
def stepB (x : S51) : Bool := decide (1 ≤ x.f0 ∧ x.f0 ≤ 9) && numOk x.f1 && numOk x.f2 && numOk x.f3 && numOk x.f4 && x.f6.all numOk && decide (x.f5.size ≤ 1024) && decide (x.f6.length ≤ 32)
def bareA (a : S37) : Bool := bareB a.f0 a.f1 a.f2 a.f3 a.f4.length a.f5.f0 a.f5.f1 a.f5.f2 a.f6 a.f7.length
/-- What stands ahead of the rows. -/
def mayHead (a : S37) : Bool := decide (1 ≤ a.f0 ∧ a.f0 ≤ 10) && bareA a && orgB a.f1 && orgB a.f2 && numOk a.f3 && decide (a.f4.length ≤ 6) && decide (a.f7.length ≤ 64)
def mayTxnA (a : S37) : Bool := decide (¬(a.f0 = 2 ∨ a.f0 = 9)) || txnB a.f5.f0 a.f5.f1 a.f5.f2
/-- May an act be written? -/
def mayAct (a : S37) : Bool := mayHead a && mayTxnA a && a.f4.all giveB && a.f7.all stepB

theorem org_f (n : Int) : (if n ≥ 0 then (some (decide (n < 8))) else (some false)) = some (orgB n) := by
  unfold orgB
  split
  · congr 1; rw [Bool.eq_iff_iff]; simp; omega
  · congr 1; symm; apply decide_eq_false; omega

theorem org23 (n : Int) (w : World) : Calls Try.prog 23 #[.int .i64 n] w fun e w' => e = .returned (.bool (orgB n)) ∧ Below w.heap.size w w' :=
  (script_org.calls n _ w (org_f n)).mono fun e w' h => ⟨h.1, h.2.below⟩
theorem txn_f (co ep sq : Int) (o : Option Bool) (ho : o = some (orgB co)) : (o.bind fun t104 => (if t104 = true then (if ep ≥ 1 then (if ep ≤ 255 then (if sq ≥ 1 then (some (decide (sq ≤ 65535))) else (some false)) else (some false)) else (some false)) else (some false))) = some (txnB co ep sq) := by
  rw [ho]
  unfold txnB
  cases orgB co with
  | false => simp
  | true =>
    simp only [Option.bind_some, if_true, Bool.true_and]
    by_cases h1 : ep ≥ 1
    · by_cases h2 : ep ≤ 255
      · by_cases h3 : sq ≥ 1
        · rw [if_pos h1, if_pos h2, if_pos h3]; congr 1; rw [Bool.eq_iff_iff]; simp; omega
        · rw [if_pos h1, if_pos h2, if_neg h3]; congr 1; symm; apply decide_eq_false; omega
      · rw [if_pos h1, if_neg h2]; congr 1; symm; apply decide_eq_false; omega
    · rw [if_neg h1]; congr 1; symm; apply decide_eq_false; omega
theorem txn25 (co ep sq : Int) (w : World) : Calls Try.prog 25 #[.agg #[.int .i64 co, .int .i64 ep, .int .i64 sq]] w fun e w' => e = .returned (.bool (txnB co ep sq)) ∧ Below w.heap.size w w' :=
  wire_MayTxn.calls co ep sq _ w (txn_f co ep sq _ (org_f co))
theorem rd_getElem (l : List Int) (i : Nat) (h : i < l.length) : rd l (i : Int) = l[i] := by
  unfold rd; rw [Int.toNat_natCast, List.getD_eq_getElem?_getD, List.getElem?_eq_getElem h]; rfl

theorem snum_loop (l : List Int) (hl : l.length ≤ 4611686018427387904) (d : Nat) : ∀ (i k : Nat), i + d = l.length → d + 1 ≤ k →
    script_num.l0 k l (l.length : Int) (i : Int) = some ((l.drop i).all numOk) := by
  induction d with
  | zero =>
    intro i k hi hk
    obtain ⟨k, rfl⟩ : ∃ m, k = m + 1 := ⟨k - 1, by omega⟩
    unfold script_num.l0
    rw [if_neg (by omega), List.drop_of_length_le (by omega)]; rfl
  | succ d ih =>
    intro i k hi hk
    obtain ⟨k, rfl⟩ : ∃ m, k = m + 1 := ⟨k - 1, by omega⟩
    have hil : i < l.length := by omega
    have hd : (l.drop i).all numOk = (numOk l[i] && (l.drop (i + 1)).all numOk) := by rw [List.drop_eq_getElem_cons hil]; rfl
    have step := ih (i + 1) k (by omega) (by omega)
    have hw : wrap64 ((i : Int) + 1) = ((i + 1 : Nat) : Int) := by rw [w64 (by omega) (by omega)]; omega
    unfold script_num.l0
    rw [if_pos (by omega), if_pos (by omega), if_pos (by omega), rd_getElem l i hil, hd, hw, step]
    unfold numOk
    by_cases h1 : l[i] < 0
    · rw [if_pos h1, decide_eq_false (by omega)]; rfl
    · rw [if_neg h1]
      by_cases h2 : l[i] > 2147483647
      · rw [if_pos h2, decide_eq_false (by omega)]; rfl
      · rw [if_neg h2, decide_eq_true (by omega), Bool.true_and]

theorem num24 (A : Option Addr) (c : Nat) (l : List Int) (w : World) (hr : Kd.C (Kd.int .i64) w A l.length l) (hc : l.length ≤ c) (hl : l.length ≤ 4611686018427387904) :
    Calls Try.prog 24 #[.slice A l.length c] w fun e w' => e = .returned (.bool (l.all numOk)) ∧ Below w.heap.size w w' :=
  (script_num.calls (l.length + 1) A c l _ w hr hc (by
    unfold script_num.f
    have := snum_loop l hl l.length 0 _ (by omega) (Nat.le_refl _)
    simpa using this)).mono fun e w' h => ⟨h.1, h.2.below⟩

/-! ### the reference's Of -/
def hOrg (d : Int) : Bool := decide (d ≠ 4 ∧ 1 ≤ d ∧ d ≤ 10)
def hAud (d : Int) : Bool := decide (d = 1)
def hN (d : Int) : Bool := decide (d = 4 ∨ d = 6 ∨ d = 7)
def hGives (d : Int) : Bool := decide (d = 1)
def hTxn (d : Int) : Bool := decide (d = 2 ∨ d = 9)
def hYes (d : Int) : Bool := decide (d = 2)
def hSteps (d : Int) : Bool := decide (d = 5 ∨ d = 10)
/-! ### the reference's mayStep -/
end Go.Proofs.Ytppgbahiolhgbaa
end
