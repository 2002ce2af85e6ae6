/- Contracts and plain laws over the seat, laid together (group 46 of what the claim needs). -/
import Derived.Test.YtppgbahiolhgbaaH39
import Derived.Test.YtppgbahiolhgbaaH45
set_option linter.unusedVariables false
set_option linter.unusedSimpArgs false
namespace Go.Proofs.Ytppgbahiolhgbaa
open Go.RowKit Go.Proofs.YtppgbahiolhgbaaW.PrintWords Sp
open PScriptReads
def TellsPost (w : World) (e : Ending) (w' : World) : Prop := e = .returned (.bool true) ∧ Below w.heap.size w w'
def EncRT (W : World) (x : ByteArray) (n : Int) (e : Ending) (w' : World) : Prop := e = .returned (.tuple #[.string x, .int .i64 n]) ∧ Below W.heap.size W w'
structure TEnv (w : World) (A1 : Option Addr) (c1 : Nat) (l1 : List S37) (x : ByteArray) (n : Int) : Prop where
  r1 : k37.C w A1 l1.length l1
  L1 : ∀ W, Below w.heap.size w W → Calls Try.prog 7 #[.slice A1 l1.length c1] W fun e w' => e = .returned (.bool false) ∧ Below W.heap.size W w'
  O1 : ∀ W, Below w.heap.size w W → Calls Try.prog 9 #[.slice A1 l1.length c1] W (OwnPost W l1)
  E1 : ∀ W A c, AC W A l1.length l1 → Calls Try.prog 10 #[.slice A l1.length c] W (EncRT W x n)
  R1 : ∀ W, Below w.heap.size w W → Calls Try.prog 11 #[.slice A1 l1.length c1] W (EncRT W x n)
  S1 : ∀ W A c, k37.C W A l1.length l1 → l1.length ≤ c → Below w.heap.size w W → Calls Try.prog 12 #[.slice A l1.length c, .slice A1 l1.length c1] W fun e w' => e = .returned (.bool true) ∧ Below W.heap.size W w'
  sm : SmallA l1
set_option maxRecDepth 100000 in
set_option maxHeartbeats 8000000 in
theorem tells_main {w : World} {A1 : Option Addr} {c1 : Nat} {l1 : List S37} {x : ByteArray} {n : Int} (H0 : TEnv w A1 c1 l1 x n) (K : n = 0 ∨ n = 5 ∨ n = 2) :
    Calls Try.prog 3 #[.slice A1 l1.length c1] w (TellsPost w) := by
  have hl60 := H0.sm.1
  have H := Aid.hide H0
  clear H0
  have cs1 : (x.toList == x.toList) = true := beq_self_eq_true _
  have cs2 : (x.toList != x.toList) = false := by simp
  have hW : Below w.heap.size w w := Below.refl _ _
  rcases K with rfl | rfl | rfl
  all_goals
    go_enter Try.func3, Try.ntmps3
    go_wp2_with (first
      | (go_at_call 7; (with_reducible refine ((Aid.unhide H).L1 _ hW).mono ?_); rintro e1 w1 ⟨rfl, hb1⟩; replace hW := below_bt hW hb1; clear hb1)
      | (go_at_call 9; (with_reducible refine ((Aid.unhide H).O1 _ hW).mono ?_); rintro e1 wa ⟨va, rfl, hRa, hBa⟩; obtain ⟨A3, c3, rfl, hca, haca⟩ := AC_of_R hRa; replace hW := below_bt hW hBa; clear hBa hRa)
      | (go_at_call 10; (with_reducible refine ((Aid.unhide H).E1 _ A3 c3 haca).mono ?_); rintro e1 w1 ⟨rfl, hb1⟩; replace hW := below_bt hW hb1; replace haca := haca.below hb1; clear hb1)
      | (go_at_call 11; (with_reducible refine ((Aid.unhide H).R1 _ hW).mono ?_); rintro e1 w1 ⟨rfl, hb1⟩; replace hW := below_bt hW hb1; replace haca := haca.below hb1; clear hb1)
      | (go_at_call 12; (with_reducible refine ((Aid.unhide H).S1 _ A3 c3 haca.C hca hW).mono ?_); rintro e1 w1 ⟨rfl, hb1⟩; replace hW := below_bt hW hb1; clear hb1 haca))
    go_loopw [8, 9] (fun i e wr => ∃ k : Nat, i = .int .i64 (k : Int) ∧ k ≤ l1.length ∧ Below w.heap.size w wr) (fun i _ _ => l1.length - (intOf i).toNat)
    case atStart => exact ⟨0, rfl, by omega, hW⟩
    case round =>
      clear hW cs1 cs2
      obtain ⟨k, rfl, hk, hB⟩ := hrel
      by_cases hlt : k < l1.length
      · obtain ⟨ad, A4, c4, A9, c9, hA, hE, h4, h9⟩ := C_get37 (Kd.C_below (Aid.unhide H).r1 hB) k hlt
        obtain ⟨z4, z7, y4, y7⟩ := (Aid.unhide H).sm.2 l1[k] (List.getElem_mem hlt)
        generalize l1[k] = x at *
        have HE := Aid.hide hE
        obtain ⟨e0, e1, e2, e3, e4, e5, e6, e7, e8, e9⟩ := hE
        have C := Aid.hide (fun W (hW : Below wr.heap.size wr W) => And.intro (check13 x A4 c4 A9 c9 W (Kd.C_below h4 hW) (Kd.C_below h9 hW) (by omega) (by omega) (fun y hy => by have := y4 y hy; omega) (fun y hy => by have := y7 y hy; omega)) (may14 x A4 c4 A9 c9 W (Kd.C_below h4 hW) (Kd.C_below h9 hW) (by omega) (by omega) (fun y hy => by have := y4 y hy; omega) (fun y hy => by have := y7 y hy; omega)))
        clear h4 h9 z4 z7 y4 y7
        subst hA
        cases hmx : mayAct x
        all_goals
          go_wp2_with (first
            | (go_at_call 13; refine (Aid.unhide C _ (by (repeat first | exact Below.refl _ _ | apply below_drew | apply below_alloc | refine below_bt ?_ (by assumption)))).1.mono ?_; rintro e0' w1 ⟨rfl, hb1⟩; rw [hmx]; obtain ⟨q0, q1, q2, q3, q4, q5, q6, q7, q8, q9⟩ := (Aid.unhide HE).below hb1; clear e0 e1 e2 e3 e4 e5 e6 e7 e8 e9; first | rw [show errC true = 0 from rfl] | rw [show errC false = 2 from rfl])
            | (go_at_call 14; refine (Aid.unhide C _ (by (repeat first | exact Below.refl _ _ | apply below_drew | apply below_alloc | refine below_bt ?_ (by assumption)))).2.mono ?_; rintro e1 w2 ⟨rfl, hb2⟩; rw [hmx]))
          go_roundw
          case rel => exact ⟨k + 1, by go_num, by omega, hB.trans (Below.mono (B := wr.heap.size) ((by (repeat first | exact Below.refl _ _ | apply below_drew | apply below_alloc | refine below_bt ?_ (by assumption)))) hB.size)⟩
          case measure => simp [intOf]; omega
      · obtain rfl : k = l1.length := by omega
        go_wp2_with (go_at_call 8; refine (alive8 _).mono ?_; rintro e1 w1 ⟨rfl, hb1⟩; replace hB := below_bt hB hb1; clear hb1)
        go_ret
        exact ⟨rfl, hB⟩
end Go.Proofs.Ytppgbahiolhgbaa
