/- Contracts and plain laws over the seat, laid together (group 41 of what the claim needs). -/
import Derived.Test.YtppgbahiolhgbaaJ40
import Derived.Outline
set_option linter.unusedVariables false
set_option linter.unusedSimpArgs false
namespace Go.Proofs.Ytppgbahiolhgbaa
open Go.RowKit Go.Proofs.YtppgbahiolhgbaaW.PrintWords Go.Proofs.YtppgbahiolhgbaaW.PrintLast Sp
open PScriptReads
def ActPost (w0 w : World) (r : Nat) (y : TA) (e : Ending) (w' : World) : Prop :=
  ∃ v4 v9, e = .returned (.agg (actW y.1 v4 v9)) ∧ k48.R 48 w' w.heap.size (fun _ => True) v4 y.1.f4 ∧ k51.R 51 w' w.heap.size (fun _ => True) v9 y.1.f7 ∧ IsS67 w0 w' r y.2.1 y.2.2 ∧ Below w0.heap.size w0 w' ∧ KeepBut w w' r none
def ACut (w0 w : World) (g gh c r : Nat) (d : Int) (y : TA) (W : World) : Prop := ∃ v4 v9, ASt w0 w g gh c r d y.1 v4 v9 y.2 W
section
variable {w0 w : World} {g gh c r : Nat} {d : Int} {a a' : S37} {v4 v9 u : Value} {x y : TS} {W W1 : World}
theorem ASt.text (h : ASt w0 w g gh c r d a v4 v9 x W) (hs : x.1.size ≤ 1000000) : Calls Try.prog 44 #[.pointer (some ⟨r, 0, none⟩), .int .i64 16384] W fun e W1 => e = .returned (.string (textT 16384 x).1) ∧ ASt w0 w g gh c r d a v4 v9 (textT 16384 x).2 W1 ∧ KeepBut W W1 r none :=
  (chirographref32_taker_text.calls 21 r x.1 x.2 16384 _ _ _ w0 W h.hT h.hB (ttext_f x 16384 21 (Nat.le_refl _) hs (by omega))).mono fun _ _ ⟨he, h1, h2, h3⟩ => ⟨he, h.call h1 h2 h3, h3⟩
theorem ASt.step (h : ASt w0 w g gh c r d a v4 v9 x W) (hs : x.1.size ≤ 1000000) : Calls Try.prog 45 #[.pointer (some ⟨r, 0, none⟩)] W fun e W1 => ∃ v6, e = .returned (.agg #[.int .u8 (stepT x).1.f0, .int .i64 (stepT x).1.f1, .int .i64 (stepT x).1.f2, .int .i64 (stepT x).1.f3, .int .i64 (stepT x).1.f4, .string (stepT x).1.f5, v6]) ∧ Kd.R (Kd.int .i64) 3 W1 W.heap.size (fun _ => True) v6 (stepT x).1.f6 ∧ ASt w0 w g gh c r d a v4 v9 (stepT x).2 W1 ∧ KeepBut W W1 r none :=
  (chirographref32_taker_step.calls 1000100 r x.1 x.2 _ _ _ _ _ _ _ _ _ w0 W h.hT h.hB (tstep_f x 1000100 hs (Nat.le_refl _))).mono fun _ _ ⟨v6, he, hR, h1, h2, h3⟩ => ⟨v6, he, hR, h.call h1 h2 h3, h3⟩
theorem ASt.far48 (h : ASt w0 w g gh c r d a v4 v9 x W) {b o : Nat} {cs : Array Value} (hb : W.heap[b]? = some (.cells cs 48 (0, 0))) (hbw : w.heap.size ≤ b) (hG : k48.R 48 (W.setCell ⟨b, o, none⟩ u) w.heap.size (fun _ => True) v4 a.f4) : ASt w0 w g gh c r d a v4 v9 x (W.setCell ⟨b, o, none⟩ u) :=
  ⟨blk_far h.hA (blk_ne h.hA hb (by decide)), h.hT.far (p := ⟨b, o, none⟩) (h.hT.ne_blk hb (by decide)) _, blk_far h.hH (blk_ne h.hH hb (by decide)), blk_far h.hC (blk_ne h.hC hb (by decide)), hG, Kd.R_set h.hS hb (by decide) _ _,
   h.hB.setCell (Nat.le_trans h.l0 hbw) _, keep_set h.hK hbw, h.l0, h.lg, h.lc, h.lcw⟩
end
theorem bs51 (x0 x1 x2 x3 x4 : Int) (x5 : ByteArray) (v6 : Value) (w : World) : (Instr.buildSlice 35 1 #[(0, .agg #[.int .u8 x0, .int .i64 x1, .int .i64 x2, .int .i64 x3, .int .i64 x4, .string x5, v6])]).run Try.prog w = .ok (.slice (some ⟨w.heap.size, 0, none⟩) 1 1) (w.alloc (.cells #[.int .u8 x0, .int .i64 x1, .int .i64 x2, .int .i64 x3, .int .i64 x4, .string x5, v6] 51)) := by kernel_rfl
theorem run_build51 {a : Act} {o : Oper} {w : World} {x : Operand} {x0 x1 x2 x3 x4 : Int} {x5 : ByteArray} {v6 : Value} (ho : o.op = .buildSlice 35 1 #[(0, x)]) (hx : a.eval x = .agg #[.int .u8 x0, .int .i64 x1, .int .i64 x2, .int .i64 x3, .int .i64 x4, .string x5, v6]) :
    (execOp a.eval o).run Try.prog w = .ok (.value (.slice (some ⟨w.heap.size, 0, none⟩) 1 1)) (w.alloc (.cells #[.int .u8 x0, .int .i64 x1, .int .i64 x2, .int .i64 x3, .int .i64 x4, .string x5, v6] 51)) := by
  unfold execOp
  rw [ho]
  simp only [List.map_toArray, List.map_cons, List.map_nil, hx, Sem.run_bind, Sem.run_pure, bs51, Result.andThen_ok]
set_option maxRecDepth 100000 in
set_option maxHeartbeats 16000000 in
theorem act34 (w0 : World) (r : Nat) (d : Int) (x : TS) (w : World) (hI : IsS67 w0 w r x.1 x.2) (hB : Below w0.heap.size w0 w) (hd : 0 ≤ d ∧ d ≤ 255) (hs : x.1.size ≤ 100000) :
    Calls Try.prog 34 #[.pointer (some ⟨r, 0, none⟩), .int .u8 d] w (ActPost w0 w r (act7 d x)) := by
  have HI := Aid.hide (And.intro hI hB)
  have h27 := fun W => of27 d W
  have H27 := Aid.hide h27
  obtain ⟨y0, hy0⟩ : ∃ y : TA, y = (ac0 d, x) := ⟨_, rfl⟩
  have hz0 : y0.2.1.size ≤ 100000 := by rw [hy0]; exact hs
  have N7_0 := Aid.hide (show y0.1.f7 = [] by rw [hy0]; rfl)
  have Y0 := Aid.hide hy0
  clear hI hB hs h27 hy0
  go_enter Try.func34, Try.ntmps34
  go_upto_region 3 with (go_at_call 27; refine ((Aid.unhide H27) _).mono ?_; rintro e1 w1 ⟨rfl, hb1⟩)
  have hS : ACut w0 w (w1.heap.size + 1) w1.heap.size w.heap.size r d y0 ((w1.alloc (.cells #[.bool (hOrg d), .bool (hAud d), .bool (hN d), .bool (hGives d), .bool (hTxn d), .bool (hYes d), .bool (hSteps d)] 59)).alloc (.cells #[.int .u8 d, .int .i64 0, .int .i64 0, .int .i64 0, .slice none 0 0, .int .i64 0, .int .i64 0, .int .i64 0, .bool false, .slice none 0 0] 37)) := by
    rw [Aid.unhide Y0]
    have hsz := hb1.size
    have hlt : w.heap.size < w1.heap.size := by simp at hsz; omega
    have hw1 : Below w.heap.size w w1 := (below_alloc (Below.refl _ _) _).trans (hb1.mono (by simp))
    have hC1 : ActV w1 w.heap.size act0 (.slice none 0 0) (.slice none 0 0) := (hb1.block w.heap.size (by simp)).trans (heap_alloc_new w _)
    have hb2 : ∀ A B, Below w1.heap.size w1 ((w1.alloc A).alloc B) := fun A B => below_alloc (below_alloc (Below.refl _ _) A) B
    have hw2 : ∀ A B, Below w.heap.size w ((w1.alloc A).alloc B) := fun A B => hw1.trans ((hb2 A B).mono (by omega))
    exact ⟨.slice none 0 0, .slice none 0 0, blk_new (by simp), (Aid.unhide HI).1.below (hw2 _ _), blk_alloc (blk_new rfl), hC1.below (hb2 _ _), Kd.R_nil _ _ _ _ _, Kd.R_nil _ _ _ _ _, (Aid.unhide HI).2.trans ((hw2 _ _).mono (Aid.unhide HI).2.size), KeepBut.of_below (hw2 _ _) _ _, (Aid.unhide HI).2.size, by omega, by omega, Nat.le_refl _⟩
  generalize ((w1.alloc (.cells #[.bool (hOrg d), .bool (hAud d), .bool (hN d), .bool (hGives d), .bool (hTxn d), .bool (hYes d), .bool (hSteps d)] 59)).alloc (.cells #[.int .u8 d, .int .i64 0, .int .i64 0, .int .i64 0, .slice none 0 0, .int .i64 0, .int .i64 0, .int .i64 0, .bool false, .slice none 0 0] 37)) = wx at *
  generalize w1.heap.size + 1 = g at *
  generalize w1.heap.size = gh at *
  obtain ⟨c, hc⟩ : ∃ c, c = w.heap.size := ⟨_, rfl⟩
  rw [← hc] at hS ⊢
  clear hb1 hc
  obtain ⟨v4, v9, hS⟩ := hS
  obtain ⟨q0, q1, q2, q3, q4, q5, q6⟩ := hS.seven
  obtain ⟨fl1, hf⟩ : ∃ b, b = hOrg d := ⟨_, rfl⟩
  rw [← hf] at q0
  obtain ⟨y1, hy⟩ : ∃ y : TA, y = ifT fl1 (oneT fun a v => { a with f1 := v }) y0 := ⟨_, rfl⟩
  have Y1 := Aid.hide (And.intro hf hy)
  have hz1 : y1.2.1.size ≤ 100000 := by
    rw [hy]; unfold ifT
    split
    · exact Nat.le_trans (numT_le y0.2).1 hz0
    · exact hz0
  have N7_1 := Aid.hide (show y1.1.f7 = [] by rw [hy]; unfold ifT; split <;> exact Aid.unhide N7_0)
  clear hf hy
  go_upto_if 22 with (fail)
  go_cut [] (fun wx => ACut w0 w g gh c r d y1 wx)
  case first =>
    as_aux_lemma =>
    have e0 := (Aid.unhide Y1).2
    have E0 := Aid.hide e0
    clear e0
    cases fl1 with
    | false =>
      go_wp2_with (fail)
      go_meet
      rw [Aid.unhide E0]
      exact ⟨v4, v9, hS⟩
    | true =>
      have M := Aid.hide (hS.num (by omega))
      clear hS
      go_wp2_with (go_at_call 43; refine (Aid.unhide M).mono ?_; rintro e1 w1 ⟨rfl, hS1⟩; obtain ⟨k0, k1, k2, k3, k4, k5, k6, k7, k8, k9⟩ := hS1.hA.ten; have z0 := hS1.hA.frz 1)
      go_meet
      rw [Aid.unhide E0]
      exact ⟨v4, v9, hS1.put (o := 1) rfl rfl rfl⟩
  case rest =>
    clear hS q0 q1 q2 q3 q4 q5 q6
    obtain ⟨v4, v9, hS⟩ := hcut
    obtain ⟨q0, q1, q2, q3, q4, q5, q6⟩ := hS.seven
    obtain ⟨fl2, hf⟩ : ∃ b, b = hAud d := ⟨_, rfl⟩
    rw [← hf] at q1
    obtain ⟨y2, hy⟩ : ∃ y : TA, y = ifT fl2 (oneT fun a v => { a with f2 := v }) y1 := ⟨_, rfl⟩
    have Y2 := Aid.hide (And.intro hf hy)
    have hz2 : y2.2.1.size ≤ 100000 := by
      rw [hy]; unfold ifT
      split
      · exact Nat.le_trans (numT_le y1.2).1 hz1
      · exact hz1
    have N7_2 := Aid.hide (show y2.1.f7 = [] by rw [hy]; unfold ifT; split <;> exact Aid.unhide N7_1)
    clear hf hy
    go_upto_if 27 with (fail)
    go_cut [] (fun wx => ACut w0 w g gh c r d y2 wx)
    case first =>
      as_aux_lemma =>
      have e0 := (Aid.unhide Y2).2
      have E0 := Aid.hide e0
      clear e0
      cases fl2 with
      | false =>
        go_wp2_with (fail)
        go_meet
        rw [Aid.unhide E0]
        exact ⟨v4, v9, hS⟩
      | true =>
        have M := Aid.hide (hS.num (by omega))
        clear hS
        go_wp2_with (go_at_call 43; refine (Aid.unhide M).mono ?_; rintro e1 w1 ⟨rfl, hS1⟩; obtain ⟨k0, k1, k2, k3, k4, k5, k6, k7, k8, k9⟩ := hS1.hA.ten; have z0 := hS1.hA.frz 2)
        go_meet
        rw [Aid.unhide E0]
        exact ⟨v4, v9, hS1.put (o := 2) rfl rfl rfl⟩
    case rest =>
      clear hS q0 q1 q2 q3 q4 q5 q6
      obtain ⟨v4, v9, hS⟩ := hcut
      obtain ⟨q0, q1, q2, q3, q4, q5, q6⟩ := hS.seven
      obtain ⟨fl3, hf⟩ : ∃ b, b = hN d := ⟨_, rfl⟩
      rw [← hf] at q2
      obtain ⟨y3, hy⟩ : ∃ y : TA, y = ifT fl3 (oneT fun a v => { a with f3 := v }) y2 := ⟨_, rfl⟩
      have Y3 := Aid.hide (And.intro hf hy)
      have hz3 : y3.2.1.size ≤ 100000 := by
        rw [hy]; unfold ifT
        split
        · exact Nat.le_trans (numT_le y2.2).1 hz2
        · exact hz2
      have N7_3 := Aid.hide (show y3.1.f7 = [] by rw [hy]; unfold ifT; split <;> exact Aid.unhide N7_2)
      clear hf hy
      go_upto_if 32 with (fail)
      go_cut [] (fun wx => ACut w0 w g gh c r d y3 wx)
      case first =>
        as_aux_lemma =>
        have e0 := (Aid.unhide Y3).2
        have E0 := Aid.hide e0
        clear e0
        cases fl3 with
        | false =>
          go_wp2_with (fail)
          go_meet
          rw [Aid.unhide E0]
          exact ⟨v4, v9, hS⟩
        | true =>
          have M := Aid.hide (hS.num (by omega))
          clear hS
          go_wp2_with (go_at_call 43; refine (Aid.unhide M).mono ?_; rintro e1 w1 ⟨rfl, hS1⟩; obtain ⟨k0, k1, k2, k3, k4, k5, k6, k7, k8, k9⟩ := hS1.hA.ten; have z0 := hS1.hA.frz 3)
          go_meet
          rw [Aid.unhide E0]
          exact ⟨v4, v9, hS1.put (o := 3) rfl rfl rfl⟩
      case rest =>
        clear hS q0 q1 q2 q3 q4 q5 q6
        obtain ⟨v4, v9, hS⟩ := hcut
        obtain ⟨q0, q1, q2, q3, q4, q5, q6⟩ := hS.seven
        obtain ⟨fl4, hf⟩ : ∃ b, b = hGives d := ⟨_, rfl⟩
        rw [← hf] at q3
        obtain ⟨y4, hy⟩ : ∃ y : TA, y = ifT fl4 (gvT) y3 := ⟨_, rfl⟩
        have Y4 := Aid.hide (And.intro hf hy)
        have hz4 : y4.2.1.size ≤ 100000 := by
          rw [hy]; unfold ifT
          split
          · exact Nat.le_trans (Nat.le_trans (givesT_le _ _).1 (numT_le y3.2).1) hz3
          · exact hz3
        have N7_4 := Aid.hide (show y4.1.f7 = [] by rw [hy]; unfold ifT; split <;> exact Aid.unhide N7_3)
        clear hf hy
        go_upto_if 37 with (fail)
        go_cut [] (fun wx => ACut w0 w g gh c r d y4 wx)
        case first =>
          as_aux_lemma =>
          have e0 := (Aid.unhide Y4).2
          have en : y3.1.f4 = [] := by
            rw [(Aid.unhide Y3).2, (Aid.unhide Y2).2, (Aid.unhide Y1).2, Aid.unhide Y0]; unfold ifT oneT
            repeat' split
            all_goals rfl
          have E0 := Aid.hide (And.intro e0 en)
          clear e0 en Y0 Y1 Y2 Y3 Y4 q0 q1 q2 q4 q5 q6
          cases fl4 with
          | false =>
            go_wp2_with (fail)
            go_meet
            rw [(Aid.unhide E0).1]
            exact ⟨v4, v9, hS⟩
          | true =>
            have M := Aid.hide (hS.num (by omega))
            have hn := (numT_le y3.2).2.2
            have hx := (numT_le y3.2).1
            obtain ⟨N, hN⟩ : ∃ N : Nat, (numT y3.2).1 = (N : Int) := ⟨(numT y3.2).1.toNat, (Int.toNat_of_nonneg hn.1).symm⟩
            obtain ⟨x1, hx1⟩ : ∃ x : TS, x = (numT y3.2).2 := ⟨_, rfl⟩
            rw [hN, ← hx1] at M
            rw [← hx1] at hx
            rw [hN] at hn
            have hgv : y4 = ({ y3.1 with f4 := (givesT N x1).1 }, (givesT N x1).2) := by
              rw [(Aid.unhide E0).1]; unfold ifT gvT; rw [if_pos rfl, hN, ← hx1, Int.toNat_natCast]
            have GV := Aid.hide (And.intro hgv (Aid.unhide E0).2)
            clear hS hN hx1 hgv E0
            go_wp2_with (go_at_call 43; refine (Aid.unhide M).mono ?_; rintro e1 w1 ⟨rfl, hS1⟩)
            go_loopw [9] (fun i wr => ∃ (j : Nat) (pre : List S48) (xj : TS) (v4 : Value), i = .int .i64 (j : Int) ∧ j ≤ N ∧ ASt w0 w g gh c r d { y3.1 with f4 := pre } v4 v9 xj wr ∧ Hid (givesT N x1 = (pre ++ (givesT (N - j) xj).1, (givesT (N - j) xj).2)) ∧ xj.1.size ≤ 100000 ∧ (xj.2 = true → pre.length + xj.1.size ≤ 100000)) (fun i _ => N - (intOf i).toNat)
            case atStart => exact ⟨0, [], x1, v4, rfl, Nat.zero_le _, by have h1 := hS1; rw [show y3.1 = { y3.1 with f4 := [] } from by rw [← (Aid.unhide GV).2]] at h1; exact h1, by show _ = _; rw [List.nil_append, Nat.sub_zero], by omega, fun _ => by simp; omega⟩
            case round =>
              clear hS1 M
              obtain ⟨j, pre, xj, v4, rfl, hj, hSr, hgo, hzj, hlen⟩ := hrel
              have kis := hSr.is
              cases hb : xj.2 with
              | false =>
                rw [hb] at kis
                go_wp2_with (fail)
                all_goals
                  go_meet
                  refine ⟨v4, v9, ?_⟩
                  rw [(Aid.unhide GV).1, hgo.out]
                  have e : givesT (N - j) xj = ([], xj) := by
                    cases N - j with
                    | zero => rfl
                    | succ n => rw [givesT, if_neg (by rw [hb]; simp)]
                  rw [e, List.append_nil]
                  exact hSr
              | true =>
                rw [hb] at kis
                by_cases hlt : j < N
                · have hl := hlen hb
                  have M1 := Aid.hide (hSr.num (by omega))
                  have hn1 := numT_le xj
                  have e : givesT N x1 = (pre ++ ⟨(numT xj).1, (textT 16384 (numT xj).2).1⟩ :: (givesT (N - (j + 1)) (textT 16384 (numT xj).2).2).1, (givesT (N - (j + 1)) (textT 16384 (numT xj).2).2).2) := by
                    rw [hgo.out, show N - j = (N - (j + 1)) + 1 from by omega, givesT, if_pos hb]
                  have ht1 := textT_le 16384 (numT xj).2
                  generalize (numT xj).2 = x2 at *
                  generalize (numT xj).1 = n1 at *
                  have M2 := Aid.hide (fun (v : Value) (a : S37) (W : World) (h : ASt w0 w g gh c r d a v v9 x2 W) => h.text (by omega))
                  generalize (textT 16384 x2).2 = x3 at *
                  generalize (textT 16384 x2).1 = p1 at *
                  have E1 := Aid.hide e
                  obtain ⟨A4, c4, rfl⟩ := Kd.R_slice hSr.hG
                  clear e hgo hlen hSr
                  go_upto_region 15 with (go_at_call 43; refine (Aid.unhide M1).mono ?_; rintro e1 w1 ⟨rfl, hS1⟩)
                  have hS2 := hS1.below (below_alloc (Below.refl _ _) (.cells #[.int .i64 n1, .string ⟨#[]⟩] 48))
                  have hb10 : (w1.alloc (.cells #[.int .i64 n1, .string ⟨#[]⟩] 48)).heap[w1.heap.size]? = some (.cells #[.int .i64 n1, .string ⟨#[]⟩] 48 (0, 0)) := blk_new rfl
                  have hR2 : k48.R 48 (w1.alloc (.cells #[.int .i64 n1, .string ⟨#[]⟩] 48)) w.heap.size (fun k => k ≠ w1.heap.size) (.slice A4 pre.length c4) pre := Kd.R_below (Kd.R_mono (Kd.R_bound hS1.hG) (fun k hk => Nat.ne_of_lt hk.2.2.1)) (below_alloc (Below.refl _ _) _)
                  have hlb : w.heap.size ≤ w1.heap.size := hS1.hK.1
                  generalize w1.alloc (.cells #[.int .i64 n1, .string ⟨#[]⟩] 48) = w2 at *
                  generalize w1.heap.size = b at *
                  have K2 := Aid.hide (And.intro hS2 (And.intro hb10 (And.intro hR2 hlb)))
                  clear hS1 hS2 hb10 hR2 hlb M1 kis
                  go_upto_region 16 with (go_at_call 44; refine ((Aid.unhide M2) _ _ _ (Aid.unhide K2).1).mono ?_; rintro e1 w3 ⟨rfl, hS3, hk3⟩; have hb3 := hk3.blk (Aid.unhide K2).2.1 (Ne.symm ((Aid.unhide K2).1.hT.ne_blk (Aid.unhide K2).2.1 (by decide))) (by simp); have k0 : w3.cell? ⟨b, 0, none⟩ = some (.int .i64 n1) := (blk_cell hb3 0).trans rfl; have k1 : w3.cell? ⟨b, 1, none⟩ = some (.string ⟨#[]⟩) := (blk_cell hb3 1).trans rfl; have f1 : w3.frozen? ⟨b, 1, none⟩ = false := by simp [World.frozen?, hb3])
                  have hR3 := Kd.R_far (p := ⟨b, 1, none⟩) (Kd.R_keep ((Aid.unhide K2).1.hT.apart (Aid.unhide K2).2.2.1 (by decide)) hk3 (fun _ h => h.2)) (fun _ h => h.1) (.string p1)
                  have hS4 := hS3.far48 (o := 1) (u := .string p1) hb3 (Aid.unhide K2).2.2.2 (Kd.R_mono hR3 (fun _ _ => trivial))
                  have hb4 : (w3.setCell ⟨b, 1, none⟩ (.string p1)).heap[b]? = some (.cells #[.int .i64 n1, .string p1] 48 (0, 0)) := by rw [blk_set hb3]; rfl
                  generalize w3.setCell ⟨b, 1, none⟩ (.string p1) = w4 at *
                  clear k0 k1 f1 hb3 hR3 hS3 hk3 K2 M2
                  have k0 : w4.cell? ⟨b, 0, none⟩ = some (.int .i64 n1) := (blk_cell hb4 0).trans rfl
                  have k1 : w4.cell? ⟨b, 1, none⟩ = some (.string p1) := (blk_cell hb4 1).trans rfl
                  have k4 := hS4.hA.ten.k4
                  have K4 := Aid.hide hS4
                  clear hS4 hb4
                  go_wp2_with ((at_builtin; refine Kd.R_append k48 (w0 := w4) (W := w4) w.heap.size rfl (.tmp 58) (.tmp 60) 32 48 (.agg #[.int .i64 0, .string ⟨#[]⟩]) 24 rfl Try.underlying32 inf48 rfl (by decide) (by decide) (.slice A4 pre.length c4) pre ⟨n1, p1⟩ [.int .i64 n1, .string p1] (fun _ => True) (fun _ => False) rfl rfl (k48_mkM _ _ _ ⟨n1, p1⟩) (fun _ hk => hk.elim) (fun _ _ => trivial) (Aid.unhide K4).hG (Below.refl _ _) (Aid.unhide K4).hK.1 ?c3 ?_; (case c3 => omega); intro u5 w5 hR5 hB5 hg5 hat5; have hA5 := (Aid.unhide K4).hA.grown hg5 (Kd.R_ne (Aid.unhide K4).hG (Aid.unhide K4).hA (by decide)); have k4' := hA5.ten.k4; have f4 := hA5.frz 4; clear k4; obtain ⟨A5, c5, rfl⟩ := Kd.R_slice hR5))
                  have hS6 := (Aid.unhide K4).app4 hR5 ((Aid.unhide K4).hB.trans (hB5.mono (Aid.unhide K4).l0)) hg5
                  simp only [List.length_append, List.length_singleton] at hS6
                  go_roundw
                  case rel =>
                    refine ⟨j + 1, pre ++ [⟨n1, p1⟩], x3, _, by go_num, by omega, hS6, ?_, by omega, fun h3 => ?_⟩
                    · show _ = _
                      rw [Aid.unhide E1]; simp
                    · have := hn1.2.1 (ht1.2.1 h3)
                      rw [List.length_append]; simp only [List.length_cons, List.length_nil]; omega
                  case measure => simp [intOf]; omega
                · obtain rfl : j = N := by omega
                  go_wp2_with (fail)
                  go_meet
                  refine ⟨v4, v9, ?_⟩
                  rw [(Aid.unhide GV).1, hgo.out, Nat.sub_self, givesT, List.append_nil]
                  exact hSr
        case rest =>
          clear hS q0 q1 q2 q3 q4 q5 q6
          obtain ⟨v4, v9, hS⟩ := hcut
          obtain ⟨q0, q1, q2, q3, q4, q5, q6⟩ := hS.seven
          obtain ⟨fl5, hf⟩ : ∃ b, b = hTxn d := ⟨_, rfl⟩
          rw [← hf] at q4
          obtain ⟨y5, hy⟩ : ∃ y : TA, y = ifT fl5 (txT) y4 := ⟨_, rfl⟩
          have Y5 := Aid.hide (And.intro hf hy)
          have hz5 : y5.2.1.size ≤ 100000 := by
            rw [hy]; unfold ifT
            split
            · exact Nat.le_trans (numT_le _).1 (Nat.le_trans (numT_le _).1 (Nat.le_trans (numT_le y4.2).1 hz4))
            · exact hz4
          have N7_5 := Aid.hide (show y5.1.f7 = [] by rw [hy]; unfold ifT; split <;> exact Aid.unhide N7_4)
          clear hf hy
          go_upto_if 64 with (fail)
          go_cut [] (fun wx => ACut w0 w g gh c r d y5 wx)
          case first =>
            as_aux_lemma =>
            have e0 := (Aid.unhide Y5).2
            have E0 := Aid.hide e0
            clear e0 Y0 Y1 Y2 Y3 Y4 Y5
            cases fl5 with
            | false =>
              go_wp2_with (fail)
              go_meet
              rw [Aid.unhide E0]
              exact ⟨v4, v9, hS⟩
            | true =>
              have M := Aid.hide (hS.num (by omega))
              have l1 := (numT_le y4.2).1
              have l2 := (numT_le (numT y4.2).2).1
              have hyy : y5 = ({ y4.1 with f5 := ⟨(numT y4.2).1, (numT (numT y4.2).2).1, (numT (numT (numT y4.2).2).2).1⟩ }, (numT (numT (numT y4.2).2).2).2) := by
                rw [Aid.unhide E0]; unfold ifT txT; rw [if_pos rfl]
              have M2 := Aid.hide (fun (a : S37) (W : World) (h : ASt w0 w g gh c r d a v4 v9 (numT y4.2).2 W) => h.num (by omega))
              have M3 := Aid.hide (fun (a : S37) (W : World) (h : ASt w0 w g gh c r d a v4 v9 (numT (numT y4.2).2).2 W) => h.num (by omega))
              generalize (numT (numT (numT y4.2).2).2).2 = x3 at *
              generalize (numT (numT (numT y4.2).2).2).1 = n3 at *
              generalize (numT (numT y4.2).2).2 = x2 at *
              generalize (numT (numT y4.2).2).1 = n2 at *
              generalize (numT y4.2).2 = x1 at *
              generalize (numT y4.2).1 = n1 at *
              have E1 := Aid.hide hyy
              clear hS hyy l1 l2 E0
              go_upto_region 19 with (go_at_call 43; refine (Aid.unhide M).mono ?_; rintro e1 w1 ⟨rfl, hS1⟩; have k5 := hS1.hA.ten.k5; have z5 := hS1.hA.frz 5)
              have hS2 := hS1.put (o := 5) (u := .int .i64 n1) (a' := { y4.1 with f5 := ⟨n1, y4.1.f5.f1, y4.1.f5.f2⟩ }) rfl rfl rfl
              generalize w1.setCell ⟨g, 5, none⟩ (.int .i64 n1) = w2 at *
              clear hS1 k5 z5 M
              go_upto_region 20 with (go_at_call 43; refine ((Aid.unhide M2) _ _ hS2).mono ?_; rintro e1 w3 ⟨rfl, hS3⟩; have k6 := hS3.hA.ten.k6; have z6 := hS3.hA.frz 6)
              have hS4 := hS3.put (o := 6) (u := .int .i64 n2) (a' := { y4.1 with f5 := ⟨n1, n2, y4.1.f5.f2⟩ }) rfl rfl rfl
              generalize w3.setCell ⟨g, 6, none⟩ (.int .i64 n2) = w4 at *
              clear hS3 hS2 k6 z6 M2
              go_wp2_with (go_at_call 43; refine ((Aid.unhide M3) _ _ hS4).mono ?_; rintro e1 w5 ⟨rfl, hS5⟩; have k7 := hS5.hA.ten.k7; have z7 := hS5.hA.frz 7)
              go_meet
              rw [Aid.unhide E1]
              exact ⟨v4, v9, hS5.put (o := 7) (a' := { y4.1 with f5 := ⟨n1, n2, n3⟩ }) rfl rfl rfl⟩
          case rest =>
            clear hS q0 q1 q2 q3 q4 q5 q6
            obtain ⟨v4, v9, hS⟩ := hcut
            obtain ⟨q0, q1, q2, q3, q4, q5, q6⟩ := hS.seven
            obtain ⟨fl6, hf⟩ : ∃ b, b = hYes d := ⟨_, rfl⟩
            rw [← hf] at q5
            obtain ⟨y6, hy⟩ : ∃ y : TA, y = ifT fl6 (ysT) y5 := ⟨_, rfl⟩
            have Y6 := Aid.hide (And.intro hf hy)
            have hz6 : y6.2.1.size ≤ 100000 := by
              rw [hy]; unfold ifT
              split
              · exact Nat.le_trans (numT_le y5.2).1 hz5
              · exact hz5
            have N7_6 := Aid.hide (show y6.1.f7 = [] by rw [hy]; unfold ifT; split <;> exact Aid.unhide N7_5)
            clear hf hy
            go_upto_if 78 with (fail)
            go_cut [] (fun wx => ACut w0 w g gh c r d y6 wx)
            case first =>
              as_aux_lemma =>
              have e0 := (Aid.unhide Y6).2
              have E0 := Aid.hide e0
              clear e0 Y0 Y1 Y2 Y3 Y4 Y5 Y6
              cases fl6 with
              | false =>
                go_wp2_with (fail)
                go_meet
                rw [Aid.unhide E0]
                exact ⟨v4, v9, hS⟩
              | true =>
                have M := Aid.hide (hS.num (by omega))
                have hn := (numT_le y5.2).2.2
                have hyy : y6 = ({ y5.1 with f6 := decide ((numT y5.2).1 = 1) }, ((numT y5.2).2.1, (numT y5.2).2.2 && decide ((numT y5.2).1 < 2))) := by
                  rw [Aid.unhide E0]; unfold ifT ysT; rw [if_pos rfl]
                generalize (numT y5.2).2 = x1 at *
                generalize (numT y5.2).1 = n1 at *
                obtain ⟨s1, b1⟩ := x1
                have E1 := Aid.hide hyy
                clear hS hyy E0
                by_cases h1 : n1 = 1
                · subst h1
                  cases b1
                  all_goals
                    go_upto_region 24 with (go_at_call 43; refine (Aid.unhide M).mono ?_; rintro e1 w1 ⟨rfl, hS1⟩; have k8 := hS1.hA.ten.k8; have z8 := hS1.hA.frz 8)
                    have hS2 := hS1.put (o := 8) (u := .bool true) (a' := { y5.1 with f6 := true }) rfl rfl rfl
                    generalize w1.setCell ⟨g, 8, none⟩ (.bool true) = w2 at *
                    clear hS1 k8 z8 M
                    have ki := hS2.is
                    have kz := hS2.frzT 1
                    go_wp2_with (fail)
                    go_meet
                    rw [Aid.unhide E1]
                    exact ⟨v4, v9, hS2.setT _⟩
                · have c1 : (n1 == 1) = false := by rw [beq_eq_false_iff_ne]; exact h1
                  by_cases h2 : n1 < 2
                  · have D := Aid.hide (And.intro (decide_eq_false h1) (decide_eq_true h2))
                    clear h1
                    cases b1
                    all_goals
                      go_upto_region 24 with (go_at_call 43; refine (Aid.unhide M).mono ?_; rintro e1 w1 ⟨rfl, hS1⟩; have k8 := hS1.hA.ten.k8; have z8 := hS1.hA.frz 8)
                      have hS2 := hS1.put (o := 8) (u := .bool false) (a' := { y5.1 with f6 := false }) rfl rfl rfl
                      generalize w1.setCell ⟨g, 8, none⟩ (.bool false) = w2 at *
                      clear hS1 k8 z8 M
                      have ki := hS2.is
                      have kz := hS2.frzT 1
                      go_wp2_with (fail)
                      go_meet
                      rw [Aid.unhide E1, (Aid.unhide D).1, (Aid.unhide D).2]
                      exact ⟨v4, v9, hS2.setT _⟩
                  · have D := Aid.hide (And.intro (decide_eq_false h1) (decide_eq_false h2))
                    have h3 : 2 ≤ n1 := by omega
                    clear h1 h2
                    cases b1
                    all_goals
                      go_upto_region 24 with (go_at_call 43; refine (Aid.unhide M).mono ?_; rintro e1 w1 ⟨rfl, hS1⟩; have k8 := hS1.hA.ten.k8; have z8 := hS1.hA.frz 8)
                      have hS2 := hS1.put (o := 8) (u := .bool false) (a' := { y5.1 with f6 := false }) rfl rfl rfl
                      generalize w1.setCell ⟨g, 8, none⟩ (.bool false) = w2 at *
                      clear hS1 k8 z8 M
                      have ki := hS2.is
                      have kz := hS2.frzT 1
                      go_wp2_with (fail)
                      go_meet
                      rw [Aid.unhide E1, (Aid.unhide D).1, (Aid.unhide D).2]
                      exact ⟨v4, v9, hS2.setT _⟩
            case rest =>
              clear hS q0 q1 q2 q3 q4 q5 q6
              obtain ⟨v4, v9, hS⟩ := hcut
              obtain ⟨q0, q1, q2, q3, q4, q5, q6⟩ := hS.seven
              obtain ⟨fl7, hf⟩ : ∃ b, b = hSteps d := ⟨_, rfl⟩
              rw [← hf] at q6
              obtain ⟨y7, hy⟩ : ∃ y : TA, y = ifT fl7 (stT) y6 := ⟨_, rfl⟩
              have Y7 := Aid.hide (And.intro hf hy)
              have hz7 : y7.2.1.size ≤ 100000 := by
                rw [hy]; unfold ifT
                split
                · exact Nat.le_trans (Nat.le_trans (stepsT_le _ _).1 (numT_le y6.2).1) hz6
                · exact hz6
              
              clear hf hy
              go_upto_if 96 with (fail)
              go_cut [] (fun wx => ACut w0 w g gh c r d y7 wx)
              case first =>
                as_aux_lemma =>
                have e0 := (Aid.unhide Y7).2
                have en : y6.1.f7 = [] := Aid.unhide N7_6
                have E0 := Aid.hide (And.intro e0 en)
                clear e0 en Y0 Y1 Y2 Y3 Y4 Y5 Y6 Y7 q0 q1 q2 q3 q4 q5
                cases fl7 with
                | false =>
                  go_wp2_with (fail)
                  go_meet
                  rw [(Aid.unhide E0).1]
                  exact ⟨v4, v9, hS⟩
                | true =>
                  have M := Aid.hide (hS.num (by omega))
                  have hn := (numT_le y6.2).2.2
                  have hx := (numT_le y6.2).1
                  obtain ⟨N, hN⟩ : ∃ N : Nat, (numT y6.2).1 = (N : Int) := ⟨(numT y6.2).1.toNat, (Int.toNat_of_nonneg hn.1).symm⟩
                  obtain ⟨x1, hx1⟩ : ∃ x : TS, x = (numT y6.2).2 := ⟨_, rfl⟩
                  rw [hN, ← hx1] at M
                  rw [← hx1] at hx
                  rw [hN] at hn
                  have hgv : y7 = ({ y6.1 with f7 := (stepsT N x1).1 }, (stepsT N x1).2) := by
                    rw [(Aid.unhide E0).1]; unfold ifT stT; rw [if_pos rfl, hN, ← hx1, Int.toNat_natCast]
                  have GV := Aid.hide (And.intro hgv (Aid.unhide E0).2)
                  clear hS hN hx1 hgv E0
                  go_wp2_with (go_at_call 43; refine (Aid.unhide M).mono ?_; rintro e1 w1 ⟨rfl, hS1⟩)
                  go_loopw [13] (fun i wr => ∃ (j : Nat) (pre : List S51) (xj : TS) (v9 : Value), i = .int .i64 (j : Int) ∧ j ≤ N ∧ ASt w0 w g gh c r d { y6.1 with f7 := pre } v4 v9 xj wr ∧ Hid (stepsT N x1 = (pre ++ (stepsT (N - j) xj).1, (stepsT (N - j) xj).2)) ∧ xj.1.size ≤ 100000 ∧ (xj.2 = true → pre.length + xj.1.size ≤ 100000)) (fun i _ => N - (intOf i).toNat)
                  case atStart => exact ⟨0, [], x1, v9, rfl, Nat.zero_le _, by have h1 := hS1; rw [show y6.1 = { y6.1 with f7 := [] } from by rw [← (Aid.unhide GV).2]] at h1; exact h1, by show _ = _; rw [List.nil_append, Nat.sub_zero], by omega, fun _ => by simp; omega⟩
                  case round =>
                    clear hS1 M
                    obtain ⟨j, pre, xj, v9, rfl, hj, hSr, hgo, hzj, hlen⟩ := hrel
                    have kis := hSr.is
                    cases hb : xj.2 with
                    | false =>
                      rw [hb] at kis
                      go_wp2_with (fail)
                      all_goals
                        go_meet
                        refine ⟨v4, v9, ?_⟩
                        rw [(Aid.unhide GV).1, hgo.out]
                        have e : stepsT (N - j) xj = ([], xj) := by
                          cases N - j with
                          | zero => rfl
                          | succ n => rw [stepsT, if_neg (by rw [hb]; simp)]
                        rw [e, List.append_nil]
                        exact hSr
                    | true =>
                      rw [hb] at kis
                      by_cases hlt : j < N
                      · have hl := hlen hb
                        have hn1 := stepT_le xj
                        have e : stepsT N x1 = (pre ++ (stepT xj).1 :: (stepsT (N - (j + 1)) (stepT xj).2).1, (stepsT (N - (j + 1)) (stepT xj).2).2) := by
                          rw [hgo.out, show N - j = (N - (j + 1)) + 1 from by omega, stepsT, if_pos hb]
                        obtain ⟨A9, c9, rfl⟩ := Kd.R_slice hSr.hS
                        have E1 := Aid.hide e
                        clear e hgo hlen
                        go_upto_region 30 with (fail)
                        have hS3 := hSr.below (below_drew (Below.refl _ _))
                        have k9 := hS3.hA.ten.k9
                        have hlb : wr.heap.size = wr.drew.heap.size := rfl
                        refine start_ (n := 8) (S := fun w' => w'.cell? ⟨g, 9, none⟩ = some (.slice A9 pre.length c9)) (ds := [7]) #[false, false, false, false, false, false, false, false] (by kernel_rfl) rfl rfl k9 (fun hHeld => ?_)
                        generalize wr.drew = w3 at *
                        have K3 := Aid.hide hS3
                        have M1 := Aid.hide (hS3.step (by omega))
                        generalize (stepT xj).2 = x2 at *
                        generalize (stepT xj).1 = st at *
                        clear hSr hS3 k9 kis hlb
                        refine pure_ (i := 0) (N := some 110) (v := ?_) (a' := ?_) #[true, false, false, false, false, false, false, false] rfl rfl (by kernel_rfl) (fun _ _ _ h => h) (Or.inl ⟨by rfl, ?_⟩) ?_ ?_
                        rotate_left
                        · intro w'
                          go_simp
                          with_reducible rfl
                        rotate_left
                        · simp only [Act.put, List.setIfInBounds_toArray, List.set_cons_zero, List.set_cons_succ, i64_w, i32_w]
                          rfl
                        refine pure_ (i := 2) (N := some 112) (v := ?_) (a' := ?_) #[true, false, true, false, false, false, false, false] rfl rfl (by kernel_rfl) (fun _ _ _ h => h) (Or.inl ⟨by rfl, ?_⟩) ?_ ?_
                        rotate_left
                        · intro w'
                          go_simp
                          with_reducible rfl
                        rotate_left
                        · simp only [Act.put, List.setIfInBounds_toArray, List.set_cons_zero, List.set_cons_succ, i64_w, i32_w]
                          rfl
                        refine take_ (i := 1) (N := some 111) (v := ?_) (a' := ?_) #[true, true, true, false, false, false, false, false] rfl rfl (by kernel_rfl) (fun _ _ _ h => h) (Or.inl ⟨by rfl, ?_⟩) hHeld ?_ ?_
                        rotate_left
                        · intro w' s9
                          go_simp
                          with_reducible rfl
                        rotate_left
                        · simp only [Act.put, List.setIfInBounds_toArray, List.set_cons_zero, List.set_cons_succ, i64_w, i32_w]
                          rfl
                        refine one_ (i := 3) (N := some 113) #[true, true, true, true, false, false, false, false] rfl rfl (by kernel_rfl) (by decide) (fun K hK => ?_)
                        refine goes_ Try.func45 (by kernel_rfl) rfl #[.pointer (some ⟨r, 0, none⟩)] (by rfl) rfl rfl (by (try simp only [List.map_toArray, List.map_cons, List.map_nil]); first | done | rfl) ?_
                        refine (Aid.unhide M1).mono ?_
                        rintro e w4 ⟨v6, rfl, hR6, hS4, hk4⟩
                        refine ⟨_, rfl, ?_⟩
                        have K4 := Aid.hide (And.intro hS4 hR6)
                        have k9 := hS4.hA.ten.k9
                        have hsz4 := hk4.1
                        refine hK.out _ _ k9 (fun hHeld => ?_)
                        clear hS4 hR6 hk4 k9
                        clear hK K
                        refine norm_ (a' := ?_) ?_ ?_
                        rotate_left
                        · show Act.put _ (some 113) _ = _
                          simp only [Act.put, List.setIfInBounds_toArray, List.set_cons_zero, List.set_cons_succ, i64_w, i32_w]
                          rfl
                        refine one_ (i := 4) (N := some 114) #[true, true, true, true, true, false, false, false] rfl rfl (by kernel_rfl) (by decide) (fun K hK => ?_)
                        refine value_ (by rfl) rfl (run_build51 rfl (by rfl)) ?_
                        refine hK.out _ _ (((Aid.unhide K4).1.below (below_alloc (Below.refl _ _) _)).hA.ten.k9) (fun hHeld => ?_)
                        clear hK K
                        refine norm_ (a' := ?_) ?_ ?_
                        rotate_left
                        · show Act.put _ (some 114) _ = _
                          simp only [Act.put, List.setIfInBounds_toArray, List.set_cons_zero, List.set_cons_succ, i64_w, i32_w]
                          rfl
                        refine one_ (i := 5) (N := some 115) #[true, true, true, true, true, true, false, false] rfl rfl (by kernel_rfl) (by decide) (fun K hK => ?_)
                        refine Kd.R_append_step k51 (w0 := w4) (W := w4) w.heap.size (by rfl) (.tmp 111) (.tmp 114) 35 51 (.agg #[.int .u8 0, .int .i64 0, .int .i64 0, .int .i64 0, .int .i64 0, .string ⟨#[]⟩, .slice none 0 0]) 80 rfl Try.underlying35 inf51 rfl (by decide) (by omega) (.slice A9 pre.length c9) pre st [.int .u8 st.f0, .int .i64 st.f1, .int .i64 st.f2, .int .i64 st.f3, .int .i64 st.f4, .string st.f5, v6] (fun _ => True) (fun b => w3.heap.size ≤ b) rfl rfl ?aP ?aK (fun _ _ => trivial) (Aid.unhide K4).1.hS (Below.refl _ _) (Aid.unhide K4).1.hK.1 ?aL ?_
                        (case aP => exact k51_mkM _ _ _ st (Kd.R_lower (Kd.R_mono (Kd.R_bound (Aid.unhide K4).2) (fun _ hk => hk.2.1)) (Aid.unhide K3).hK.1))
                        (case aK =>
                          intro b hb
                          refine ⟨trivial, fun e => ?_⟩
                          obtain ⟨inner, ho⟩ := Kd.R_own (Aid.unhide K3).hS
                          have := own_lt ho b e.symm
                          omega)
                        (case aL => omega)
                        intro v5 w5 hR5 hB5 hg5 hat5
                        have hA5 := (Aid.unhide K4).1.hA.grown hg5 (Kd.R_ne (Aid.unhide K4).1.hS (Aid.unhide K4).1.hA (by decide))
                        have k9 := hA5.ten.k9
                        have f9 := hA5.frz 9
                        obtain ⟨A5, c5, rfl⟩ := Kd.R_slice hR5
                        have hS6 := (Aid.unhide K4).1.app9 hR5 ((Aid.unhide K4).1.hB.trans (hB5.mono (Aid.unhide K4).1.l0)) hg5
                        have K6 := Aid.hide hS6
                        refine hK.out _ _ k9 (fun hHeld => ?_)
                        clear hR5 hB5 hg5 hat5 hA5 hS6 K4 K3 M1
                        clear hK K
                        refine norm_ (a' := ?_) ?_ ?_
                        rotate_left
                        · show Act.put _ (some 115) _ = _
                          simp only [Act.put, List.setIfInBounds_toArray, List.set_cons_zero, List.set_cons_succ, i64_w, i32_w]
                          rfl
                        refine pure_ (i := 6) (N := some 116) (v := ?_) (a' := ?_) #[true, true, true, true, true, true, true, false] rfl rfl (by kernel_rfl) (fun _ _ _ h => h) (Or.inl ⟨by rfl, ?_⟩) ?_ ?_
                        rotate_left
                        · intro w'
                          go_simp
                          with_reducible rfl
                        rotate_left
                        · simp only [Act.put, List.setIfInBounds_toArray, List.set_cons_zero, List.set_cons_succ, i64_w, i32_w]
                          rfl
                        refine last_ (i := 7) (N := none) #[true, true, true, true, true, true, true, true] rfl rfl (by kernel_rfl) (by decide) (fun K hK => ?_)
                        refine skip_ (w1 := ?_) (by rfl) rfl ?_ ?_
                        rotate_left
                        · go_simp
                          rfl
                        refine hK.out _ _ ?_
                        clear hK K
                        refine done_ (by kernel_rfl) ?_
                        have hS7 := Aid.unhide K6
                        simp only [List.length_append, List.length_singleton] at hS7
                        clear k9 f9
                        go_wp2_with (fail)
                        go_roundw
                        case rel =>
                          refine ⟨j + 1, pre ++ [st], x2, _, by go_num, by omega, hS7, ?_, by omega, fun h3 => ?_⟩
                          · show _ = _
                            rw [Aid.unhide E1]; simp
                          · have := hn1.2 h3
                            rw [List.length_append]; simp only [List.length_cons, List.length_nil]; omega
                        case measure => simp [intOf]; omega
                      · obtain rfl : j = N := by omega
                        go_wp2_with (fail)
                        go_meet
                        refine ⟨v4, v9, ?_⟩
                        rw [(Aid.unhide GV).1, hgo.out, Nat.sub_self, stepsT, List.append_nil]
                        exact hSr
              case rest =>
                clear hS q0 q1 q2 q3 q4 q5 q6
                obtain ⟨v4, v9, hS⟩ := hcut
                have e7 : act7 d x = y7 := by
                  rw [(Aid.unhide Y7).2, (Aid.unhide Y6).2, (Aid.unhide Y5).2, (Aid.unhide Y4).2, (Aid.unhide Y3).2, (Aid.unhide Y2).2, (Aid.unhide Y1).2, Aid.unhide Y0, (Aid.unhide Y7).1, (Aid.unhide Y6).1, (Aid.unhide Y5).1, (Aid.unhide Y4).1, (Aid.unhide Y3).1, (Aid.unhide Y2).1, (Aid.unhide Y1).1]
                  rfl
                have E7 := Aid.hide e7
                clear e7 Y0 Y1 Y2 Y3 Y4 Y5 Y6 Y7 HI H27
                obtain ⟨A4, c4, rfl⟩ := Kd.R_slice hS.hG
                obtain ⟨A9, c9, rfl⟩ := Kd.R_slice hS.hS
                obtain ⟨k0, k1, k2, k3, k4, k5, k6, k7, k8, k9⟩ := hS.hA.ten
                have K := Aid.hide hS
                clear hS
                go_wp2_with ((with_reducible refine wpList_store_act (g := c) (a := act0) (a' := y7.1) (v4 := .slice none 0 0) (v9 := .slice none 0 0) (u4 := .slice A4 y7.1.f4.length c4) (u9 := .slice A9 y7.1.f7.length c9) rfl rfl (.tmp 4) (.tmp 117) rfl rfl rfl rfl rfl (Aid.unhide K).hC ?_); intro w2 hA2 hfar hsame; obtain ⟨r0, r1, r2, r3, r4, r5, r6, r7, r8, r9⟩ := hA2.ten)
                have hS := Aid.unhide K
                refine bodyPost_ret (v := .agg (actW y7.1 (.slice A4 y7.1.f4.length c4) (.slice A9 y7.1.f7.length c9))) (by simp [results, Try.results34, go_sem, r0, r1, r2, r3, r4, r5, r6, r7, r8, r9]) rfl ?_
                rw [Aid.unhide E7]
                have hl : w.heap.size ≤ wc.heap.size := hS.hK.1
                refine ⟨_, _, rfl, Kd.R_mono (Kd.R_step (Kd.R_types hS.hG hS.hC (by decide)) (fun k hk _ => hfar k hk.2)) (fun _ _ => trivial), Kd.R_mono (Kd.R_step (Kd.R_types hS.hS hS.hC (by decide)) (fun k hk _ => hfar k hk.2)) (fun _ _ => trivial), ⟨(hfar r (Ne.symm hS.cr)).trans hS.hT.1, hS.hT.2⟩, hS.hB.trans ⟨hsame.1, hsame.2.1, hsame.2.2.1, Nat.le_of_eq hsame.2.2.2.symm, fun k hk => hfar k (by have := hS.lcw; have := hS.l0; omega)⟩, ?_⟩
                exact ⟨by rw [hsame.2.2.2]; exact hl, fun k hk hr hn => (hfar k (by have := hS.lcw; omega)).trans (hS.hK.2 k hk hr hn)⟩
end Go.Proofs.Ytppgbahiolhgbaa
