/- Contracts and plain laws over the seat, laid together (group 32 of what the claim needs). -/
import Derived.Test.YtppgbahiolhgbaaH31
set_option linter.unusedVariables false
set_option linter.unusedSimpArgs false
namespace Go.Proofs.Ytppgbahiolhgbaa
open Go.RowKit Go.Proofs.YtppgbahiolhgbaaW.PrintWords Sp
open PScriptReads
theorem neq34 (co ep sq : Int) (W : World) : (binOp .neq 34 (.agg #[.int .i64 co, .int .i64 ep, .int .i64 sq]) (.agg #[.int .i64 0, .int .i64 0, .int .i64 0])).run Try.prog W = .ok (.bool (!decide (co = 0 ∧ ep = 0 ∧ sq = 0))) W := by
  have h := eqA34 (Op.maxDepth - 2) W co 0 ep 0 sq 0
  have e : (co == 0 && (ep == 0 && sq == 0)) = decide (co = 0 ∧ ep = 0 ∧ sq = 0) := by rw [Bool.eq_iff_iff]; simp
  rw [e] at h
  have h2 : (Op.equal 34 (.agg #[.int .i64 co, .int .i64 ep, .int .i64 sq]) (.agg #[.int .i64 0, .int .i64 0, .int .i64 0])).run Try.prog W = .ok (decide (co = 0 ∧ ep = 0 ∧ sq = 0)) W := h
  simp [binOp, h2, go_sem]
set_option maxRecDepth 100000 in
set_option maxHeartbeats 16000000 in
theorem may14 (a : S37) (A4 : Option Addr) (c4 : Nat) (A9 : Option Addr) (c9 : Nat) (w : World) (g4 : k48.C w A4 a.f4.length a.f4) (g9 : k51.C w A9 a.f7.length a.f7)
    (z4 : a.f4.length ≤ 4611686018427387904) (z9 : a.f7.length ≤ 4611686018427387904) (y4 : ∀ x ∈ a.f4, x.f1.size ≤ 4611686018427387904) (y9 : ∀ x ∈ a.f7, x.f5.size ≤ 4611686018427387904 ∧ x.f6.length ≤ 4611686018427387904) :
    Calls Try.prog 14 #[.agg (actC a A4 c4 A9 c9)] w fun e w' => e = .returned (.bool (mayAct a)) ∧ Below w.heap.size w w' := by
  have G4 := Aid.hide g4
  have G9 := Aid.hide g9
  have Y4 := Aid.hide y4
  have Y9 := Aid.hide y9
  clear g4 g9 y4 y9
  have h27 := fun W => of27 a.f0 W
  have H27 := Aid.hide h27
  clear h27
  go_enter Try.func14, Try.ntmps14
  go_upto_region 1 with (fail)
  have hS : St w w.heap.size a A4 c4 A9 c9 (w.alloc (.cells (actC a A4 c4 A9 c9) 37)) := ⟨ActAt.new w, below_alloc (Below.refl _ _) _⟩
  generalize hw0 : w.alloc (.cells (actC a A4 c4 A9 c9) 37) = w0 at *
  clear hw0
  generalize hg : w.heap.size = g at *
  have HG := Aid.hide hg
  clear hg
  obtain ⟨k0, k1, k2, k3, k4, k5, k6, k7, k8, k9⟩ := hS.ten
  go_cut [3, 4] (fun x y wx => ∃ gh : Nat, x = .pointer (some ⟨gh, 0, none⟩) ∧ y = .bool (hIs a.f0) ∧ St2 w g a A4 c4 A9 c9 gh wx)
  case first =>
    go_wp2_with (go_at_call 27; refine ((Aid.unhide H27) _).mono ?_; rintro e1 w1 ⟨rfl, hb1⟩; have hS1 := St.below (by assumption) hb1)
    go_meet
    exact ⟨w1.heap.size, rfl, rfl, ⟨St.alloc hS1 _, by unfold HAt; simpa using heap_alloc_new w1 _⟩⟩
  case rest =>
    obtain ⟨gh, rfl, rfl, hS2⟩ := hcut
    clear k0 k1 k2 k3 k4 k5 k6 k7 k8 k9 hS
    obtain ⟨k0, k1, k2, k3, k4, k5, k6, k7, k8, k9⟩ := hS2.ten
    obtain ⟨q0, q1, q2, q3, q4, q5, q6⟩ := hS2.seven
    go_upto_region 2 with (fail)
    dsimp only [List.append]
    go_cut [4, 86] (fun y x wx => x = .bool (!(decide (1 ≤ a.f0 ∧ a.f0 ≤ 10) && bareA a)) ∧ wx = wc)
    case first =>
      have heq := fun W => neq34 a.f5.f0 a.f5.f1 a.f5.f2 W
      have ZZ := Aid.hide (And.intro z4 z9)
      clear z4 z9
      obtain ⟨y6, hy6⟩ : ∃ b, b = a.f6 := ⟨_, rfl⟩
      rw [← hy6] at k8
      obtain ⟨n4, hn4⟩ : ∃ n, n = a.f4.length := ⟨_, rfl⟩
      rw [← hn4] at k4
      obtain ⟨n7, hn7⟩ : ∃ n, n = a.f7.length := ⟨_, rfl⟩
      rw [← hn7] at k9
      have Y6 := Aid.hide (And.intro hy6 (And.intro hn4 hn7))
      clear hy6 hn4 hn7
      by_cases h : a.f0 ≤ 0 ∨ 11 ≤ a.f0
      · rw [show hIs a.f0 = false from decide_eq_false (p := 1 ≤ a.f0 ∧ a.f0 ≤ 10) (by omega)]
        have HH := Aid.hide h
        clear h
        go_wp2_with (fail)
        go_meet
        refine ⟨congrArg Value.bool ?_, rfl⟩
        have h := Aid.unhide HH
        rw [decide_eq_false (p := 1 ≤ a.f0 ∧ a.f0 ≤ 10) (by omega)]; rfl
      · rw [show hIs a.f0 = true from decide_eq_true (p := 1 ≤ a.f0 ∧ a.f0 ≤ 10) (by omega)]
        have hd : a.f0 = 1 ∨ a.f0 = 2 ∨ a.f0 = 3 ∨ a.f0 = 4 ∨ a.f0 = 5 ∨ a.f0 = 6 ∨ a.f0 = 7 ∨ a.f0 = 8 ∨ a.f0 = 9 ∨ a.f0 = 10 := by omega
        clear h
        rcases hd with h | h | h | h | h | h | h | h | h | h
        · as_aux_lemma =>
          rw [show hOrg a.f0 = true from by rw [h]; rfl] at q0
          rw [show hAud a.f0 = true from by rw [h]; rfl] at q1
          rw [show hN a.f0 = false from by rw [h]; rfl] at q2
          rw [show hGives a.f0 = true from by rw [h]; rfl] at q3
          rw [show hTxn a.f0 = false from by rw [h]; rfl] at q4
          rw [show hYes a.f0 = false from by rw [h]; rfl] at q5
          rw [show hSteps a.f0 = false from by rw [h]; rfl] at q6
          have HH := Aid.hide h
          clear h
          go_wp2_with (fail)
          all_goals
            go_meet
            refine ⟨congrArg Value.bool ?_, rfl⟩
            have h := Aid.unhide HH
            unfold bareA bareB
            rw [h, ← (Aid.unhide Y6).1, ← (Aid.unhide Y6).2.1, ← (Aid.unhide Y6).2.2]
            rw [Bool.eq_iff_iff]
            first | (simp [*]; done) | (simp [*]; omega)
        · as_aux_lemma =>
          rw [show hOrg a.f0 = true from by rw [h]; rfl] at q0
          rw [show hAud a.f0 = false from by rw [h]; rfl] at q1
          rw [show hN a.f0 = false from by rw [h]; rfl] at q2
          rw [show hGives a.f0 = false from by rw [h]; rfl] at q3
          rw [show hTxn a.f0 = true from by rw [h]; rfl] at q4
          rw [show hYes a.f0 = true from by rw [h]; rfl] at q5
          rw [show hSteps a.f0 = false from by rw [h]; rfl] at q6
          have HH := Aid.hide h
          clear h
          go_wp2_with (fail)
          all_goals
            go_meet
            refine ⟨congrArg Value.bool ?_, rfl⟩
            have h := Aid.unhide HH
            unfold bareA bareB
            rw [h, ← (Aid.unhide Y6).1, ← (Aid.unhide Y6).2.1, ← (Aid.unhide Y6).2.2]
            rw [Bool.eq_iff_iff]
            first | (simp [*]; done) | (simp [*]; omega)
        · as_aux_lemma =>
          rw [show hOrg a.f0 = true from by rw [h]; rfl] at q0
          rw [show hAud a.f0 = false from by rw [h]; rfl] at q1
          rw [show hN a.f0 = false from by rw [h]; rfl] at q2
          rw [show hGives a.f0 = false from by rw [h]; rfl] at q3
          rw [show hTxn a.f0 = false from by rw [h]; rfl] at q4
          rw [show hYes a.f0 = false from by rw [h]; rfl] at q5
          rw [show hSteps a.f0 = false from by rw [h]; rfl] at q6
          have HH := Aid.hide h
          clear h
          go_wp2_with (fail)
          all_goals
            go_meet
            refine ⟨congrArg Value.bool ?_, rfl⟩
            have h := Aid.unhide HH
            unfold bareA bareB
            rw [h, ← (Aid.unhide Y6).1, ← (Aid.unhide Y6).2.1, ← (Aid.unhide Y6).2.2]
            rw [Bool.eq_iff_iff]
            first | (simp [*]; done) | (simp [*]; omega)
        · as_aux_lemma =>
          rw [show hOrg a.f0 = false from by rw [h]; rfl] at q0
          rw [show hAud a.f0 = false from by rw [h]; rfl] at q1
          rw [show hN a.f0 = true from by rw [h]; rfl] at q2
          rw [show hGives a.f0 = false from by rw [h]; rfl] at q3
          rw [show hTxn a.f0 = false from by rw [h]; rfl] at q4
          rw [show hYes a.f0 = false from by rw [h]; rfl] at q5
          rw [show hSteps a.f0 = false from by rw [h]; rfl] at q6
          have HH := Aid.hide h
          clear h
          go_wp2_with (fail)
          all_goals
            go_meet
            refine ⟨congrArg Value.bool ?_, rfl⟩
            have h := Aid.unhide HH
            unfold bareA bareB
            rw [h, ← (Aid.unhide Y6).1, ← (Aid.unhide Y6).2.1, ← (Aid.unhide Y6).2.2]
            rw [Bool.eq_iff_iff]
            first | (simp [*]; done) | (simp [*]; omega)
        · as_aux_lemma =>
          rw [show hOrg a.f0 = true from by rw [h]; rfl] at q0
          rw [show hAud a.f0 = false from by rw [h]; rfl] at q1
          rw [show hN a.f0 = false from by rw [h]; rfl] at q2
          rw [show hGives a.f0 = false from by rw [h]; rfl] at q3
          rw [show hTxn a.f0 = false from by rw [h]; rfl] at q4
          rw [show hYes a.f0 = false from by rw [h]; rfl] at q5
          rw [show hSteps a.f0 = true from by rw [h]; rfl] at q6
          have HH := Aid.hide h
          clear h
          go_wp2_with (fail)
          all_goals
            go_meet
            refine ⟨congrArg Value.bool ?_, rfl⟩
            have h := Aid.unhide HH
            unfold bareA bareB
            rw [h, ← (Aid.unhide Y6).1, ← (Aid.unhide Y6).2.1, ← (Aid.unhide Y6).2.2]
            rw [Bool.eq_iff_iff]
            first | (simp [*]; done) | (simp [*]; omega)
        · as_aux_lemma =>
          rw [show hOrg a.f0 = true from by rw [h]; rfl] at q0
          rw [show hAud a.f0 = false from by rw [h]; rfl] at q1
          rw [show hN a.f0 = true from by rw [h]; rfl] at q2
          rw [show hGives a.f0 = false from by rw [h]; rfl] at q3
          rw [show hTxn a.f0 = false from by rw [h]; rfl] at q4
          rw [show hYes a.f0 = false from by rw [h]; rfl] at q5
          rw [show hSteps a.f0 = false from by rw [h]; rfl] at q6
          have HH := Aid.hide h
          clear h
          go_wp2_with (fail)
          all_goals
            go_meet
            refine ⟨congrArg Value.bool ?_, rfl⟩
            have h := Aid.unhide HH
            unfold bareA bareB
            rw [h, ← (Aid.unhide Y6).1, ← (Aid.unhide Y6).2.1, ← (Aid.unhide Y6).2.2]
            rw [Bool.eq_iff_iff]
            first | (simp [*]; done) | (simp [*]; omega)
        · as_aux_lemma =>
          rw [show hOrg a.f0 = true from by rw [h]; rfl] at q0
          rw [show hAud a.f0 = false from by rw [h]; rfl] at q1
          rw [show hN a.f0 = true from by rw [h]; rfl] at q2
          rw [show hGives a.f0 = false from by rw [h]; rfl] at q3
          rw [show hTxn a.f0 = false from by rw [h]; rfl] at q4
          rw [show hYes a.f0 = false from by rw [h]; rfl] at q5
          rw [show hSteps a.f0 = false from by rw [h]; rfl] at q6
          have HH := Aid.hide h
          clear h
          go_wp2_with (fail)
          all_goals
            go_meet
            refine ⟨congrArg Value.bool ?_, rfl⟩
            have h := Aid.unhide HH
            unfold bareA bareB
            rw [h, ← (Aid.unhide Y6).1, ← (Aid.unhide Y6).2.1, ← (Aid.unhide Y6).2.2]
            rw [Bool.eq_iff_iff]
            first | (simp [*]; done) | (simp [*]; omega)
        · as_aux_lemma =>
          rw [show hOrg a.f0 = true from by rw [h]; rfl] at q0
          rw [show hAud a.f0 = false from by rw [h]; rfl] at q1
          rw [show hN a.f0 = false from by rw [h]; rfl] at q2
          rw [show hGives a.f0 = false from by rw [h]; rfl] at q3
          rw [show hTxn a.f0 = false from by rw [h]; rfl] at q4
          rw [show hYes a.f0 = false from by rw [h]; rfl] at q5
          rw [show hSteps a.f0 = false from by rw [h]; rfl] at q6
          have HH := Aid.hide h
          clear h
          go_wp2_with (fail)
          all_goals
            go_meet
            refine ⟨congrArg Value.bool ?_, rfl⟩
            have h := Aid.unhide HH
            unfold bareA bareB
            rw [h, ← (Aid.unhide Y6).1, ← (Aid.unhide Y6).2.1, ← (Aid.unhide Y6).2.2]
            rw [Bool.eq_iff_iff]
            first | (simp [*]; done) | (simp [*]; omega)
        · as_aux_lemma =>
          rw [show hOrg a.f0 = true from by rw [h]; rfl] at q0
          rw [show hAud a.f0 = false from by rw [h]; rfl] at q1
          rw [show hN a.f0 = false from by rw [h]; rfl] at q2
          rw [show hGives a.f0 = false from by rw [h]; rfl] at q3
          rw [show hTxn a.f0 = true from by rw [h]; rfl] at q4
          rw [show hYes a.f0 = false from by rw [h]; rfl] at q5
          rw [show hSteps a.f0 = false from by rw [h]; rfl] at q6
          have HH := Aid.hide h
          clear h
          go_wp2_with (fail)
          all_goals
            go_meet
            refine ⟨congrArg Value.bool ?_, rfl⟩
            have h := Aid.unhide HH
            unfold bareA bareB
            rw [h, ← (Aid.unhide Y6).1, ← (Aid.unhide Y6).2.1, ← (Aid.unhide Y6).2.2]
            rw [Bool.eq_iff_iff]
            first | (simp [*]; done) | (simp [*]; omega)
        · as_aux_lemma =>
          rw [show hOrg a.f0 = true from by rw [h]; rfl] at q0
          rw [show hAud a.f0 = false from by rw [h]; rfl] at q1
          rw [show hN a.f0 = false from by rw [h]; rfl] at q2
          rw [show hGives a.f0 = false from by rw [h]; rfl] at q3
          rw [show hTxn a.f0 = false from by rw [h]; rfl] at q4
          rw [show hYes a.f0 = false from by rw [h]; rfl] at q5
          rw [show hSteps a.f0 = true from by rw [h]; rfl] at q6
          have HH := Aid.hide h
          clear h
          go_wp2_with (fail)
          all_goals
            go_meet
            refine ⟨congrArg Value.bool ?_, rfl⟩
            have h := Aid.unhide HH
            unfold bareA bareB
            rw [h, ← (Aid.unhide Y6).1, ← (Aid.unhide Y6).2.1, ← (Aid.unhide Y6).2.2]
            rw [Bool.eq_iff_iff]
            first | (simp [*]; done) | (simp [*]; omega)
    case rest =>
      obtain ⟨rfl, rfl⟩ := hcut
      clear k0 k1 k2 k3 k4 k5 k6 k7 k8 k9 q0 q1 q2 q3 q4 q5 q6
      obtain ⟨k0, k1, k2, k3, k4, k5, k6, k7, k8, k9⟩ := hS2.ten
      obtain ⟨q0, q1, q2, q3, q4, q5, q6⟩ := hS2.seven
      obtain ⟨pb, hpb⟩ : ∃ b, b = (decide (1 ≤ a.f0 ∧ a.f0 ≤ 10) && bareA a) := ⟨_, rfl⟩
      rw [← hpb]
      cases pb with
      | false =>
        have PB := Aid.hide hpb
        clear hpb
        go_wp2
        go_ret
        exact ⟨by unfold mayAct mayHead; rw [← Aid.unhide PB]; rfl, by rw [Aid.unhide HG]; exact hS2.s.hB⟩
      | true =>
        have PB := Aid.hide hpb
        clear hpb
        rw [show (!true) = false from rfl]
        obtain ⟨tn, htn⟩ : ∃ b, b = hTxn a.f0 := ⟨_, rfl⟩
        rw [← htn] at q4
        have TN := Aid.hide htn
        obtain ⟨b1, hb1⟩ : ∃ b, b = orgB a.f1 := ⟨_, rfl⟩
        obtain ⟨b2, hb2⟩ : ∃ b, b = orgB a.f2 := ⟨_, rfl⟩
        obtain ⟨b3, hb3⟩ : ∃ b, b = numOk a.f3 := ⟨_, rfl⟩
        obtain ⟨tb, htb⟩ : ∃ b, b = txnB a.f5.f0 a.f5.f1 a.f5.f2 := ⟨_, rfl⟩
        have h1 := fun W => org28 a.f1 W
        rw [← hb1] at h1
        have h2 := fun W => org28 a.f2 W
        rw [← hb2] at h2
        have h3 := fun W => num29 a.f3 W
        rw [← hb3] at h3
        have h4 := fun W => txn30 a.f5.f0 a.f5.f1 a.f5.f2 W
        rw [← htb] at h4
        have hmt : (mayHead a && mayTxnA a) = (b1 && b2 && b3 && (!tn || tb) && decide (a.f4.length ≤ 6) && decide (a.f7.length ≤ 64)) := by
          unfold mayHead mayTxnA
          rw [← Aid.unhide PB, ← hb1, ← hb2, ← hb3, ← htb]
          have : tn = decide (a.f0 = 2 ∨ a.f0 = 9) := htn
          rw [Bool.eq_iff_iff]
          by_cases h : a.f0 = 2 ∨ a.f0 = 9 <;> simp [this, h, and_assoc, and_comm, and_left_comm]
        obtain ⟨m1, hm1⟩ : ∃ b, b = (mayHead a && mayTxnA a) := ⟨_, rfl⟩
        rw [← hm1] at hmt
        have F := Aid.hide (And.intro h1 (And.intro h2 (And.intro h3 (And.intro h4 hmt))))
        have M1 := Aid.hide hm1
        clear h1 h2 h3 h4 hmt hm1 hb1 hb2 hb3 htb htn
        go_upto_region 4 with (fail)
        go_cut [124] (fun x wx => x = .bool (!m1) ∧ St2 w g a A4 c4 A9 c9 gh wx)
        case first =>
          go_wp2_with (first
            | (go_at_call_of 28 a.f1; refine ((Aid.unhide F).1 _).mono ?_; rintro e1 w1 ⟨rfl, hb1⟩; have hS1 := St2.below (by assumption) hb1; obtain ⟨k0, k1, k2, k3, k4, k5, k6, k7, k8, k9⟩ := hS1.ten; obtain ⟨q0, q1, q2, q3, q4, q5, q6⟩ := hS1.seven; clear hb1)
            | (go_at_call_of 28 a.f2; refine ((Aid.unhide F).2.1 _).mono ?_; rintro e1 w2 ⟨rfl, hb1⟩; have hS1 := St2.below (by assumption) hb1; obtain ⟨k0, k1, k2, k3, k4, k5, k6, k7, k8, k9⟩ := hS1.ten; obtain ⟨q0, q1, q2, q3, q4, q5, q6⟩ := hS1.seven; clear hb1)
            | (go_at_call 29; refine ((Aid.unhide F).2.2.1 _).mono ?_; rintro e1 w3 ⟨rfl, hb1⟩; have hS1 := St2.below (by assumption) hb1; obtain ⟨k0, k1, k2, k3, k4, k5, k6, k7, k8, k9⟩ := hS1.ten; obtain ⟨q0, q1, q2, q3, q4, q5, q6⟩ := hS1.seven; rw [← Aid.unhide TN] at q4; clear hb1)
            | (go_at_call 30; refine ((Aid.unhide F).2.2.2.1 _).mono ?_; rintro e1 w4 ⟨rfl, hb1⟩; have hS1 := St2.below (by assumption) hb1; obtain ⟨k0, k1, k2, k3, k4, k5, k6, k7, k8, k9⟩ := hS1.ten; obtain ⟨q0, q1, q2, q3, q4, q5, q6⟩ := hS1.seven; clear hb1))
          all_goals
            go_meet
            refine ⟨congrArg Value.bool ?_, by assumption⟩
            rw [(Aid.unhide F).2.2.2.2, Bool.eq_iff_iff]
            first | (simp [*]; done) | (simp [*]; omega)
        case rest =>
          obtain ⟨rfl, hS2⟩ := hcut
          clear k0 k1 k2 k3 k4 k5 k6 k7 k8 k9 q0 q1 q2 q3 q4 q5 q6
          obtain ⟨k0, k1, k2, k3, k4, k5, k6, k7, k8, k9⟩ := hS2.ten
          cases m1 with
          | false =>
            go_wp2
            go_ret
            exact ⟨by unfold mayAct; rw [← Aid.unhide M1]; rfl, by rw [Aid.unhide HG]; exact hS2.s.hB⟩
          | true =>
            rw [show (!true) = false from rfl]
            go_wp2_with (fail)
            go_loopw [2, 5] (fun _ i wr => ∃ j : Nat, i = .int .i64 (j : Int) ∧ j ≤ a.f4.length ∧ (a.f4.take j).all giveB = true ∧ St2 w g a A4 c4 A9 c9 gh wr) (fun _ i _ => a.f4.length - (intOf i).toNat)
            case atStart => exact ⟨0, rfl, by omega, rfl, hS2⟩
            case round =>
              obtain ⟨j, rfl, hj, hall, hSr⟩ := hrel
              clear k0 k1 k2 k3 k4 k5 k6 k7 k8 k9 hS2
              obtain ⟨k0, k1, k2, k3, k4, k5, k6, k7, k8, k9⟩ := hSr.ten
              have HA := Aid.hide hall
              clear hall
              by_cases hlt : j < a.f4.length
              · have hbe : Below w.heap.size w wr := by rw [Aid.unhide HG]; exact hSr.s.hB
                obtain ⟨ad, hA, e0, e1⟩ := at_T48 (Kd.C_below (Aid.unhide G4) hbe) (j : Int) (by omega) (by omega)
                have hm : rd_T48 a.f4 (j : Int) ∈ a.f4 := by
                  unfold rd_T48; rw [Int.toNat_natCast, List.getD_eq_getElem?_getD, List.getElem?_eq_getElem hlt]; exact List.getElem_mem hlt
                have htk : (a.f4.take (j + 1)).all giveB = ((a.f4.take j).all giveB && giveB (rd_T48 a.f4 (j : Int))) := by
                  rw [List.take_succ_eq_append_getElem hlt, List.all_append]
                  unfold rd_T48; rw [Int.toNat_natCast, List.getD_eq_getElem?_getD, List.getElem?_eq_getElem hlt]; simp
                rw [Aid.unhide HA, Bool.true_and] at htk
                have hno : giveB (rd_T48 a.f4 (j : Int)) = false → mayAct a = false := by
                  intro hg
                  have : a.f4.all giveB = false := by rw [List.all_eq_false]; exact ⟨_, hm, by simp [hg]⟩
                  unfold mayAct; rw [this]; simp
                have hsz := Aid.unhide Y4 _ hm
                have hge : giveB (rd_T48 a.f4 (j : Int)) = (orgB (rd_T48 a.f4 (j : Int)).f0 && (tcheck (L (rd_T48 a.f4 (j : Int)).f1) == 0)) := rfl
                rw [hge] at htk hno
                clear hge
                generalize rd_T48 a.f4 (j : Int) = x at *
                rw [Int.toNat_natCast] at e0 e1
                have h28 := fun W => org28 x.f0 W
                have h31 := fun W => may31 x.f1 W hsz
                obtain ⟨tc, htc⟩ : ∃ n, n = (tcheck (L x.f1) == 0) := ⟨_, rfl⟩
                obtain ⟨ob, hob⟩ : ∃ b, b = orgB x.f0 := ⟨_, rfl⟩
                rw [← htc] at h31 htk hno
                rw [← hob] at h28 htk hno
                obtain ⟨x0, x1⟩ := x
                simp only at e0 e1 h28 h31
                have F3 := Aid.hide (And.intro h28 (And.intro h31 (And.intro htk hno)))
                clear h28 h31 htc hob htk hm hsz hbe hno
                subst hA
                go_wp2_with (first
                  | (go_at_call 28; refine ((Aid.unhide F3).1 _).mono ?_; rintro e1 w1 ⟨rfl, hb1⟩; have hS1 := St2.below (by assumption) hb1; obtain ⟨k0, k1, k2, k3, k4, k5, k6, k7, k8, k9⟩ := hS1.ten; have kk0 := (hb1.cell (World.block_lt_of_cell? _ _ e0)).trans e0; have kk1 := (hb1.cell (World.block_lt_of_cell? _ _ e1)).trans e1)
                  | (go_at_call 31; refine ((Aid.unhide F3).2.1 _).mono ?_; rintro e1 w2 ⟨rfl, hb2⟩; have hS2 := St2.below (by assumption) hb2))
                all_goals first
                  | (go_ret
                     exact ⟨by rw [(Aid.unhide F3).2.2.2 (by cases ob <;> cases tc <;> (first | rfl | exact absurd ‹(!true) = true› (by decide) | exact absurd ‹(!false) = false› (by decide) | exact absurd ‹false = true› (by decide) | exact absurd ‹true = false› (by decide) | exact absurd ‹¬(true = true)› (by decide)))]; rfl, by rw [Aid.unhide HG]; exact St.hB (St2.s (by assumption))⟩)
                  | skip
                all_goals
                  go_roundw
                  case rel => exact ⟨j + 1, by go_num, by omega, by rw [(Aid.unhide F3).2.2.1]; cases ob <;> cases tc <;> (first | rfl | exact absurd ‹(!true) = true› (by decide) | exact absurd ‹(!false) = false› (by decide) | exact absurd ‹false = true› (by decide) | exact absurd ‹true = false› (by decide) | exact absurd ‹¬(true = true)› (by decide)), by assumption⟩
                  case measure => simp [intOf]; omega
              · obtain rfl : j = a.f4.length := by omega
                have hall := Aid.unhide HA
                rw [List.take_length] at hall
                have HA4 := Aid.hide hall
                clear hall HA
                go_wp2_with (fail)
                go_loopw [2, 6] (fun _ i wr => ∃ j : Nat, i = .int .i64 (j : Int) ∧ j ≤ a.f7.length ∧ (a.f7.take j).all stepB = true ∧ St2 w g a A4 c4 A9 c9 gh wr) (fun _ i _ => a.f7.length - (intOf i).toNat)
                case atStart => exact ⟨0, rfl, by omega, rfl, hSr⟩
                case round =>
                  clear k0 k1 k2 k3 k4 k5 k6 k7 k8 k9 hSr hlt hj
                  obtain ⟨j, rfl, hj, hall, hSr⟩ := hrel
                  obtain ⟨k0, k1, k2, k3, k4, k5, k6, k7, k8, k9⟩ := hSr.ten
                  have HA := Aid.hide hall
                  clear hall
                  by_cases hlt : j < a.f7.length
                  · have hbe : Below w.heap.size w wr := by rw [Aid.unhide HG]; exact hSr.s.hB
                    obtain ⟨ad, A6, c6, hA, e0, e1, e2, e3, e4, e5, e6, hc6, g6⟩ := at_T51 (Kd.C_below (Aid.unhide G9) hbe) (j : Int) (by omega) (by omega)
                    have hm : rd_T51 a.f7 (j : Int) ∈ a.f7 := by
                      unfold rd_T51; rw [Int.toNat_natCast, List.getD_eq_getElem?_getD, List.getElem?_eq_getElem hlt]; exact List.getElem_mem hlt
                    have htk : (a.f7.take (j + 1)).all stepB = ((a.f7.take j).all stepB && stepB (rd_T51 a.f7 (j : Int))) := by
                      rw [List.take_succ_eq_append_getElem hlt, List.all_append]
                      unfold rd_T51; rw [Int.toNat_natCast, List.getD_eq_getElem?_getD, List.getElem?_eq_getElem hlt]; simp
                    rw [Aid.unhide HA, Bool.true_and] at htk
                    have hno : stepB (rd_T51 a.f7 (j : Int)) = false → mayAct a = false := by
                      intro hg
                      have : a.f7.all stepB = false := by rw [List.all_eq_false]; exact ⟨_, hm, by simp [hg]⟩
                      unfold mayAct; rw [this]; simp
                    obtain ⟨hs5, hs6⟩ := Aid.unhide Y9 _ hm
                    generalize rd_T51 a.f7 (j : Int) = x at *
                    rw [Int.toNat_natCast] at e0 e1 e2 e3 e4 e5 e6
                    have h32 := step32 x A6 c6 wr g6 hc6 hs6
                    obtain ⟨sb, hsb⟩ : ∃ b, b = stepB x := ⟨_, rfl⟩
                    rw [← hsb] at h32 htk hno
                    obtain ⟨x0, x1, x2, x3, x4, x5, x6⟩ := x
                    simp only at e0 e1 e2 e3 e4 e5 e6 h32 hs5 hs6 hc6
                    have F3 := Aid.hide (And.intro h32 (And.intro htk hno))
                    clear h32 hsb htk hm hbe hno g6
                    subst hA
                    go_wp2_with (go_at_call 32; refine ((Aid.unhide F3).1).mono ?_; rintro e1 w1 ⟨rfl, hb1⟩; have hS1 := St2.below (by assumption) hb1)
                    all_goals first
                      | (go_ret
                         exact ⟨by rw [(Aid.unhide F3).2.2 (by cases sb <;> (first | rfl | exact absurd ‹(!true) = true› (by decide) | exact absurd ‹(!false) = false› (by decide) | exact absurd ‹false = true› (by decide) | exact absurd ‹true = false› (by decide) | exact absurd ‹¬(true = true)› (by decide)))]; rfl, by rw [Aid.unhide HG]; exact St.hB (St2.s (by assumption))⟩)
                      | skip
                    all_goals
                      go_roundw
                      case rel => exact ⟨j + 1, by go_num, by omega, by rw [(Aid.unhide F3).2.1]; cases sb <;> (first | rfl | exact absurd ‹(!true) = true› (by decide) | exact absurd ‹(!false) = false› (by decide) | exact absurd ‹false = true› (by decide) | exact absurd ‹true = false› (by decide) | exact absurd ‹¬(true = true)› (by decide)), by assumption⟩
                      case measure => simp [intOf]; omega
                  · obtain rfl : j = a.f7.length := by omega
                    have hall := Aid.unhide HA
                    rw [List.take_length] at hall
                    have hfin : mayAct a = true := by
                      unfold mayAct; rw [← Aid.unhide M1, Aid.unhide HA4, hall]; rfl
                    have HF := Aid.hide hfin
                    clear hfin hall HA
                    go_wp2
                    go_ret
                    exact ⟨by rw [Aid.unhide HF]; rfl, by rw [Aid.unhide HG]; exact hSr.s.hB⟩
end Go.Proofs.Ytppgbahiolhgbaa
