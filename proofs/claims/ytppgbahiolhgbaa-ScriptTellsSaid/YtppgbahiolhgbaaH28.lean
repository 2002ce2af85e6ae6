/- Contracts and plain laws over the seat, laid together (group 28 of what the claim needs). -/
import Derived.Test.YtppgbahiolhgbaaH17
import Derived.Test.YtppgbahiolhgbaaH25
import Derived.WalkLawsBesides
import Derived.WalkSpells
set_option linter.unusedVariables false
set_option linter.unusedSimpArgs false
namespace Go.Proofs.Ytppgbahiolhgbaa
open Go.RowKit Go.Proofs.YtppgbahiolhgbaaW.PrintWords
open PScriptReads
def bareB (d org aud n : Int) (l4 : Nat) (co ep sq : Int) (yes : Bool) (l9 : Nat) : Bool :=
  (decide (d ≠ 4) || decide (org = 0)) && (decide (d = 1) || (decide (aud = 0) && decide (l4 = 0))) && (decide (d = 2 ∨ d = 9) || decide (co = 0 ∧ ep = 0 ∧ sq = 0)) && (decide (d = 2) || !yes) && (decide (d = 5 ∨ d = 10) || decide (l9 = 0)) && (decide (d = 4 ∨ d = 6 ∨ d = 7) || decide (n = 0))
theorem eq34 (co ep sq : Int) (W : World) : (binOp .eql 34 (.agg #[.int .i64 co, .int .i64 ep, .int .i64 sq]) (.agg #[.int .i64 0, .int .i64 0, .int .i64 0])).run Try.prog W = .ok (.bool (decide (co = 0 ∧ ep = 0 ∧ sq = 0))) W := by
  have h := eqA34 (Op.maxDepth - 2) W co 0 ep 0 sq 0
  have e : (co == 0 && (ep == 0 && sq == 0)) = decide (co = 0 ∧ ep = 0 ∧ sq = 0) := by rw [Bool.eq_iff_iff]; simp
  rw [e] at h
  have h2 : (Op.equal 34 (.agg #[.int .i64 co, .int .i64 ep, .int .i64 sq]) (.agg #[.int .i64 0, .int .i64 0, .int .i64 0])).run Try.prog W = .ok (decide (co = 0 ∧ ep = 0 ∧ sq = 0)) W := h
  simp [binOp, h2, go_sem]
abbrev actV (d org aud n : Int) (A4 : Option Addr) (l4 c4 : Nat) (co ep sq : Int) (yes : Bool) (A9 : Option Addr) (l9 c9 : Nat) : Value :=
  .agg #[.int .u8 d, .int .i64 org, .int .i64 aud, .int .i64 n, .slice A4 l4 c4, .int .i64 co, .int .i64 ep, .int .i64 sq, .bool yes, .slice A9 l9 c9]
set_option maxHeartbeats 4000000 in
theorem bare_1 (org aud n : Int) (A4 : Option Addr) (l4 c4 : Nat) (co ep sq : Int) (yes : Bool) (A9 : Option Addr) (l9 c9 : Nat) (w : World) :
    Calls Try.prog 22 #[.agg #[.int .u8 1, .int .i64 org, .int .i64 aud, .int .i64 n, .slice A4 l4 c4, .int .i64 co, .int .i64 ep, .int .i64 sq, .bool yes, .slice A9 l9 c9]] w
      fun e w' => e = .returned (.bool (bareB 1 org aud n l4 co ep sq yes l9)) ∧ Below w.heap.size w w' := by
  have heq := fun W => eq34 co ep sq W
  go_enter Try.func22, Try.ntmps22
  go_wp2
  go_quiet (fail)
  go_wp2
  go_quiet (fail)
  go_wp2
  all_goals
    go_ret
    exact ⟨by first | (simp [bareB, *]; done) | (simp [bareB, *]; rfl), by repeat (first | exact Below.refl _ _ | apply below_alloc | apply pw_below_drewN | apply below_drew)⟩
set_option maxHeartbeats 4000000 in
theorem bare_2 (org aud n : Int) (A4 : Option Addr) (l4 c4 : Nat) (co ep sq : Int) (yes : Bool) (A9 : Option Addr) (l9 c9 : Nat) (w : World) :
    Calls Try.prog 22 #[.agg #[.int .u8 2, .int .i64 org, .int .i64 aud, .int .i64 n, .slice A4 l4 c4, .int .i64 co, .int .i64 ep, .int .i64 sq, .bool yes, .slice A9 l9 c9]] w
      fun e w' => e = .returned (.bool (bareB 2 org aud n l4 co ep sq yes l9)) ∧ Below w.heap.size w w' := by
  have heq := fun W => eq34 co ep sq W
  go_enter Try.func22, Try.ntmps22
  go_wp2
  go_quiet (fail)
  go_wp2
  go_quiet (fail)
  go_wp2
  all_goals
    go_ret
    exact ⟨by first | (simp [bareB, *]; done) | (simp [bareB, *]; rfl), by repeat (first | exact Below.refl _ _ | apply below_alloc | apply pw_below_drewN | apply below_drew)⟩
set_option maxHeartbeats 4000000 in
theorem bare_3 (org aud n : Int) (A4 : Option Addr) (l4 c4 : Nat) (co ep sq : Int) (yes : Bool) (A9 : Option Addr) (l9 c9 : Nat) (w : World) :
    Calls Try.prog 22 #[.agg #[.int .u8 3, .int .i64 org, .int .i64 aud, .int .i64 n, .slice A4 l4 c4, .int .i64 co, .int .i64 ep, .int .i64 sq, .bool yes, .slice A9 l9 c9]] w
      fun e w' => e = .returned (.bool (bareB 3 org aud n l4 co ep sq yes l9)) ∧ Below w.heap.size w w' := by
  have heq := fun W => eq34 co ep sq W
  go_enter Try.func22, Try.ntmps22
  go_wp2
  go_quiet (fail)
  go_wp2
  go_quiet (fail)
  go_wp2
  all_goals
    go_ret
    exact ⟨by first | (simp [bareB, *]; done) | (simp [bareB, *]; rfl), by repeat (first | exact Below.refl _ _ | apply below_alloc | apply pw_below_drewN | apply below_drew)⟩
set_option maxHeartbeats 4000000 in
theorem bare_4 (org aud n : Int) (A4 : Option Addr) (l4 c4 : Nat) (co ep sq : Int) (yes : Bool) (A9 : Option Addr) (l9 c9 : Nat) (w : World) :
    Calls Try.prog 22 #[.agg #[.int .u8 4, .int .i64 org, .int .i64 aud, .int .i64 n, .slice A4 l4 c4, .int .i64 co, .int .i64 ep, .int .i64 sq, .bool yes, .slice A9 l9 c9]] w
      fun e w' => e = .returned (.bool (bareB 4 org aud n l4 co ep sq yes l9)) ∧ Below w.heap.size w w' := by
  have heq := fun W => eq34 co ep sq W
  go_enter Try.func22, Try.ntmps22
  go_wp2
  go_quiet (fail)
  go_wp2
  go_quiet (fail)
  go_wp2
  all_goals
    go_ret
    exact ⟨by first | (simp [bareB, *]; done) | (simp [bareB, *]; rfl), by repeat (first | exact Below.refl _ _ | apply below_alloc | apply pw_below_drewN | apply below_drew)⟩
set_option maxHeartbeats 4000000 in
theorem bare_5 (org aud n : Int) (A4 : Option Addr) (l4 c4 : Nat) (co ep sq : Int) (yes : Bool) (A9 : Option Addr) (l9 c9 : Nat) (w : World) :
    Calls Try.prog 22 #[.agg #[.int .u8 5, .int .i64 org, .int .i64 aud, .int .i64 n, .slice A4 l4 c4, .int .i64 co, .int .i64 ep, .int .i64 sq, .bool yes, .slice A9 l9 c9]] w
      fun e w' => e = .returned (.bool (bareB 5 org aud n l4 co ep sq yes l9)) ∧ Below w.heap.size w w' := by
  have heq := fun W => eq34 co ep sq W
  go_enter Try.func22, Try.ntmps22
  go_wp2
  go_quiet (fail)
  go_wp2
  go_quiet (fail)
  go_wp2
  all_goals
    go_ret
    exact ⟨by first | (simp [bareB, *]; done) | (simp [bareB, *]; rfl), by repeat (first | exact Below.refl _ _ | apply below_alloc | apply pw_below_drewN | apply below_drew)⟩
set_option maxHeartbeats 4000000 in
theorem bare_6 (org aud n : Int) (A4 : Option Addr) (l4 c4 : Nat) (co ep sq : Int) (yes : Bool) (A9 : Option Addr) (l9 c9 : Nat) (w : World) :
    Calls Try.prog 22 #[.agg #[.int .u8 6, .int .i64 org, .int .i64 aud, .int .i64 n, .slice A4 l4 c4, .int .i64 co, .int .i64 ep, .int .i64 sq, .bool yes, .slice A9 l9 c9]] w
      fun e w' => e = .returned (.bool (bareB 6 org aud n l4 co ep sq yes l9)) ∧ Below w.heap.size w w' := by
  have heq := fun W => eq34 co ep sq W
  go_enter Try.func22, Try.ntmps22
  go_wp2
  go_quiet (fail)
  go_wp2
  go_quiet (fail)
  go_wp2
  all_goals
    go_ret
    exact ⟨by first | (simp [bareB, *]; done) | (simp [bareB, *]; rfl), by repeat (first | exact Below.refl _ _ | apply below_alloc | apply pw_below_drewN | apply below_drew)⟩
set_option maxHeartbeats 4000000 in
theorem bare_7 (org aud n : Int) (A4 : Option Addr) (l4 c4 : Nat) (co ep sq : Int) (yes : Bool) (A9 : Option Addr) (l9 c9 : Nat) (w : World) :
    Calls Try.prog 22 #[.agg #[.int .u8 7, .int .i64 org, .int .i64 aud, .int .i64 n, .slice A4 l4 c4, .int .i64 co, .int .i64 ep, .int .i64 sq, .bool yes, .slice A9 l9 c9]] w
      fun e w' => e = .returned (.bool (bareB 7 org aud n l4 co ep sq yes l9)) ∧ Below w.heap.size w w' := by
  have heq := fun W => eq34 co ep sq W
  go_enter Try.func22, Try.ntmps22
  go_wp2
  go_quiet (fail)
  go_wp2
  go_quiet (fail)
  go_wp2
  all_goals
    go_ret
    exact ⟨by first | (simp [bareB, *]; done) | (simp [bareB, *]; rfl), by repeat (first | exact Below.refl _ _ | apply below_alloc | apply pw_below_drewN | apply below_drew)⟩
set_option maxHeartbeats 4000000 in
theorem bare_8 (org aud n : Int) (A4 : Option Addr) (l4 c4 : Nat) (co ep sq : Int) (yes : Bool) (A9 : Option Addr) (l9 c9 : Nat) (w : World) :
    Calls Try.prog 22 #[.agg #[.int .u8 8, .int .i64 org, .int .i64 aud, .int .i64 n, .slice A4 l4 c4, .int .i64 co, .int .i64 ep, .int .i64 sq, .bool yes, .slice A9 l9 c9]] w
      fun e w' => e = .returned (.bool (bareB 8 org aud n l4 co ep sq yes l9)) ∧ Below w.heap.size w w' := by
  have heq := fun W => eq34 co ep sq W
  go_enter Try.func22, Try.ntmps22
  go_wp2
  go_quiet (fail)
  go_wp2
  go_quiet (fail)
  go_wp2
  all_goals
    go_ret
    exact ⟨by first | (simp [bareB, *]; done) | (simp [bareB, *]; rfl), by repeat (first | exact Below.refl _ _ | apply below_alloc | apply pw_below_drewN | apply below_drew)⟩
set_option maxHeartbeats 4000000 in
theorem bare_9 (org aud n : Int) (A4 : Option Addr) (l4 c4 : Nat) (co ep sq : Int) (yes : Bool) (A9 : Option Addr) (l9 c9 : Nat) (w : World) :
    Calls Try.prog 22 #[.agg #[.int .u8 9, .int .i64 org, .int .i64 aud, .int .i64 n, .slice A4 l4 c4, .int .i64 co, .int .i64 ep, .int .i64 sq, .bool yes, .slice A9 l9 c9]] w
      fun e w' => e = .returned (.bool (bareB 9 org aud n l4 co ep sq yes l9)) ∧ Below w.heap.size w w' := by
  have heq := fun W => eq34 co ep sq W
  go_enter Try.func22, Try.ntmps22
  go_wp2
  go_quiet (fail)
  go_wp2
  go_quiet (fail)
  go_wp2
  all_goals
    go_ret
    exact ⟨by first | (simp [bareB, *]; done) | (simp [bareB, *]; rfl), by repeat (first | exact Below.refl _ _ | apply below_alloc | apply pw_below_drewN | apply below_drew)⟩
set_option maxHeartbeats 4000000 in
theorem bare_10 (org aud n : Int) (A4 : Option Addr) (l4 c4 : Nat) (co ep sq : Int) (yes : Bool) (A9 : Option Addr) (l9 c9 : Nat) (w : World) :
    Calls Try.prog 22 #[.agg #[.int .u8 10, .int .i64 org, .int .i64 aud, .int .i64 n, .slice A4 l4 c4, .int .i64 co, .int .i64 ep, .int .i64 sq, .bool yes, .slice A9 l9 c9]] w
      fun e w' => e = .returned (.bool (bareB 10 org aud n l4 co ep sq yes l9)) ∧ Below w.heap.size w w' := by
  have heq := fun W => eq34 co ep sq W
  go_enter Try.func22, Try.ntmps22
  go_wp2
  go_quiet (fail)
  go_wp2
  go_quiet (fail)
  go_wp2
  all_goals
    go_ret
    exact ⟨by first | (simp [bareB, *]; done) | (simp [bareB, *]; rfl), by repeat (first | exact Below.refl _ _ | apply below_alloc | apply pw_below_drewN | apply below_drew)⟩
set_option maxHeartbeats 4000000 in
theorem bare_d (d : Int) (h : d ≤ 0 ∨ 11 ≤ d) (org aud n : Int) (A4 : Option Addr) (l4 c4 : Nat) (co ep sq : Int) (yes : Bool) (A9 : Option Addr) (l9 c9 : Nat) (w : World) :
    Calls Try.prog 22 #[.agg #[.int .u8 d, .int .i64 org, .int .i64 aud, .int .i64 n, .slice A4 l4 c4, .int .i64 co, .int .i64 ep, .int .i64 sq, .bool yes, .slice A9 l9 c9]] w
      fun e w' => e = .returned (.bool (bareB d org aud n l4 co ep sq yes l9)) ∧ Below w.heap.size w w' := by
  have k1 : (d == 1) = false := by rw [beq_eq_false_iff_ne]; omega
  have n1 : d ≠ 1 := by omega
  have k2 : (d == 2) = false := by rw [beq_eq_false_iff_ne]; omega
  have n2 : d ≠ 2 := by omega
  have k3 : (d == 3) = false := by rw [beq_eq_false_iff_ne]; omega
  have n3 : d ≠ 3 := by omega
  have k4 : (d == 4) = false := by rw [beq_eq_false_iff_ne]; omega
  have n4 : d ≠ 4 := by omega
  have k5 : (d == 5) = false := by rw [beq_eq_false_iff_ne]; omega
  have n5 : d ≠ 5 := by omega
  have k6 : (d == 6) = false := by rw [beq_eq_false_iff_ne]; omega
  have n6 : d ≠ 6 := by omega
  have k7 : (d == 7) = false := by rw [beq_eq_false_iff_ne]; omega
  have n7 : d ≠ 7 := by omega
  have k8 : (d == 8) = false := by rw [beq_eq_false_iff_ne]; omega
  have n8 : d ≠ 8 := by omega
  have k9 : (d == 9) = false := by rw [beq_eq_false_iff_ne]; omega
  have n9 : d ≠ 9 := by omega
  have k10 : (d == 10) = false := by rw [beq_eq_false_iff_ne]; omega
  have n10 : d ≠ 10 := by omega
  have kk : (d != 4) = true := by rw [bne_iff_ne]; omega
  have H := Aid.hide (And.intro n1 (And.intro n2 (And.intro n4 (And.intro n5 (And.intro n6 (And.intro n7 (And.intro n9 n10)))))))
  clear h n1 n2 n3 n4 n5 n6 n7 n8 n9 n10
  have heq := fun W => eq34 co ep sq W
  go_enter Try.func22, Try.ntmps22
  go_wp2
  go_quiet (fail)
  go_wp2
  go_quiet (fail)
  go_wp2
  all_goals
    go_ret
    obtain ⟨n1, n2, n4, n5, n6, n7, n9, n10⟩ := Aid.unhide H
    exact ⟨by first | (simp [bareB, *]; done) | (simp [bareB, *]; rfl), by repeat (first | exact Below.refl _ _ | apply below_alloc | apply pw_below_drewN | apply below_drew)⟩
theorem bare22 (d org aud n : Int) (A4 : Option Addr) (l4 c4 : Nat) (co ep sq : Int) (yes : Bool) (A9 : Option Addr) (l9 c9 : Nat) (w : World) :
    Calls Try.prog 22 #[actV d org aud n A4 l4 c4 co ep sq yes A9 l9 c9] w
      fun e w' => e = .returned (.bool (bareB d org aud n l4 co ep sq yes l9)) ∧ Below w.heap.size w w' := by
  by_cases h : d ≤ 0 ∨ 11 ≤ d
  · exact bare_d d h org aud n A4 l4 c4 co ep sq yes A9 l9 c9 w
  · have : d = 1 ∨ d = 2 ∨ d = 3 ∨ d = 4 ∨ d = 5 ∨ d = 6 ∨ d = 7 ∨ d = 8 ∨ d = 9 ∨ d = 10 := by omega
    rcases this with rfl | rfl | rfl | rfl | rfl | rfl | rfl | rfl | rfl | rfl
    · exact bare_1 org aud n A4 l4 c4 co ep sq yes A9 l9 c9 w
    · exact bare_2 org aud n A4 l4 c4 co ep sq yes A9 l9 c9 w
    · exact bare_3 org aud n A4 l4 c4 co ep sq yes A9 l9 c9 w
    · exact bare_4 org aud n A4 l4 c4 co ep sq yes A9 l9 c9 w
    · exact bare_5 org aud n A4 l4 c4 co ep sq yes A9 l9 c9 w
    · exact bare_6 org aud n A4 l4 c4 co ep sq yes A9 l9 c9 w
    · exact bare_7 org aud n A4 l4 c4 co ep sq yes A9 l9 c9 w
    · exact bare_8 org aud n A4 l4 c4 co ep sq yes A9 l9 c9 w
    · exact bare_9 org aud n A4 l4 c4 co ep sq yes A9 l9 c9 w
    · exact bare_10 org aud n A4 l4 c4 co ep sq yes A9 l9 c9 w
end Go.Proofs.Ytppgbahiolhgbaa
