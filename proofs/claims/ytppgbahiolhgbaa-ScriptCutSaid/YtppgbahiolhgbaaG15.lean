import Derived.Test.YtppgbahiolhgbaaG14
section
/- The walk of the law ScriptBack. -/
set_option linter.unusedVariables false
set_option linter.unusedSimpArgs false
namespace Go.Proofs.Ytppgbahiolhgbaa
open Go.RowKit Go.Proofs.YtppgbahiolhgbaaW.PrintWords Sp
open PScriptReads

def BackPost (w : World) (e : Ending) (w' : World) : Prop := e = .returned (.bool true) ∧ Below w.heap.size w w'
def EncR (W : World) (x : ByteArray) (n : Int) (e : Ending) (w' : World) : Prop := e = .returned (.tuple #[.string x, .int .i64 n]) ∧ Below W.heap.size W w'
def DecR (W : World) (l : List S37) (n : Int) (e : Ending) (w' : World) : Prop := ∃ v, e = .returned (.tuple #[v, .int .i64 n]) ∧ k37.R 37 w' W.heap.size (fun _ => True) v l ∧ Below W.heap.size W w'
def KaseS (x1 x2 xb : ByteArray) (n1 n2 nb : Int) : Prop :=
  (n1 = 0 ∧ n2 = 0 ∧ nb = 0 ∧ xb = x1 ++ x2) ∨ (n1 = 0 ∧ n2 = 0 ∧ nb = 5 ∧ 65536 < x1.size + x2.size) ∨ (n1 = 0 ∧ n2 = 5 ∧ nb = 5) ∨ (n1 = 5 ∧ n2 = 0 ∧ nb = 5) ∨ (n1 = 5 ∧ n2 = 5 ∧ nb = 5) ∨
  (n1 = 2 ∧ n2 = 0 ∧ nb = 2) ∨ (n1 = 2 ∧ n2 = 5 ∧ nb = 2) ∨ (n1 = 2 ∧ n2 = 2 ∧ nb = 2) ∨ (n1 = 0 ∧ n2 = 2 ∧ nb = 2) ∨ (n1 = 5 ∧ n2 = 2 ∧ nb = 2)
/-- What the walk leans on. -/
structure BEnv (w : World) (A1 : Option Addr) (c1 : Nat) (l1 : List S37) (A2 : Option Addr) (c2 : Nat) (l2 : List S37) (x1 x2 xb : ByteArray) (n1 n2 nb : Int) (s : ByteArray) (l3 : List S37) (n3 : Int) : Prop where
  r1 : k37.C w A1 l1.length l1
  q1 : l1.length ≤ c1
  L1 : ∀ W, Below w.heap.size w W → Calls Try.prog 7 #[.slice A1 l1.length c1] W fun e w' => e = .returned (.bool false) ∧ Below W.heap.size W w'
  L2 : ∀ W, Below w.heap.size w W → Calls Try.prog 7 #[.slice A2 l2.length c2] W fun e w' => e = .returned (.bool false) ∧ Below W.heap.size W w'
  O1 : ∀ W, Below w.heap.size w W → Calls Try.prog 9 #[.slice A1 l1.length c1] W (OwnPost W l1)
  O2 : ∀ W, Below w.heap.size w W → Calls Try.prog 9 #[.slice A2 l2.length c2] W (OwnPost W l2)
  E1 : ∀ W A c, AC W A l1.length l1 → Calls Try.prog 10 #[.slice A l1.length c] W (EncR W x1 n1)
  E2 : ∀ W A c, AC W A l2.length l2 → Calls Try.prog 10 #[.slice A l2.length c] W (EncR W x2 n2)
  Eb : ∀ W A c, AC W A (l1 ++ l2).length (l1 ++ l2) → Calls Try.prog 10 #[.slice A (l1.length + l2.length) c] W (EncR W xb nb)
  D1 : n1 = 0 → ∀ W, Calls Try.prog 17 #[.string x1] W (DecR W l1 0)
  S1 : ∀ W A c, k37.C W A l1.length l1 → l1.length ≤ c → Below w.heap.size w W → Calls Try.prog 12 #[.slice A l1.length c, .slice A1 l1.length c1] W fun e w' => e = .returned (.bool true) ∧ Below W.heap.size W w'
  D3 : ∀ W, Calls Try.prog 17 #[.string s] W (DecR W l3 n3)
  E3 : n3 = 0 → ∀ W A c, AC W A l3.length l3 → Calls Try.prog 10 #[.slice A l3.length c] W (EncR W s 0)
  hl : l1.length + l2.length ≤ 1000

set_option maxRecDepth 100000 in
set_option maxHeartbeats 8000000 in
theorem back_main {w : World} {A1 : Option Addr} {c1 : Nat} {l1 : List S37} {A2 : Option Addr} {c2 : Nat} {l2 : List S37} {x1 x2 xb : ByteArray} {n1 n2 nb : Int} {s : ByteArray} {l3 : List S37} {n3 : Int} (H0 : BEnv w A1 c1 l1 A2 c2 l2 x1 x2 xb n1 n2 nb s l3 n3) (K : KaseS x1 x2 xb n1 n2 nb) (K3 : n3 = 0 ∨ n3 = 7 ∧ l3 = []) (z1 : x1.size ≤ 65536) (z2 : x2.size ≤ 65536) (hs : s.size ≤ 16384) :
    Calls Try.prog 5 #[.slice A1 l1.length c1, .slice A2 l2.length c2, .string s] w (BackPost w) := by
  have hl60 := H0.hl
  have H := Aid.hide H0
  clear H0
  have cs1 : (s.toList == s.toList) = true := beq_self_eq_true _
  have cs2 : ((x1 ++ x2).toList == (x1 ++ x2).toList) = true := beq_self_eq_true _
  have hnil : ([] : List S37).length = 0 := rfl
  have ha1 : ¬ (9223372036854775807 < x1.size + x2.size) := by omega
  have hW : Below w.heap.size w w := Below.refl _ _
  unfold KaseS at K
  rcases K with K
  rcases K with ⟨rfl, rfl, rfl, rfl⟩ | ⟨rfl, rfl, rfl, z3⟩ | ⟨rfl, rfl, rfl⟩ | ⟨rfl, rfl, rfl⟩ | ⟨rfl, rfl, rfl⟩ | ⟨rfl, rfl, rfl⟩ | ⟨rfl, rfl, rfl⟩ | ⟨rfl, rfl, rfl⟩ | ⟨rfl, rfl, rfl⟩ | ⟨rfl, rfl, rfl⟩
  all_goals rcases K3 with rfl | ⟨rfl, rfl⟩
  all_goals
    go_enter Try.func5, Try.ntmps5
    go_wp2_with (first
      | (go_at_call 7; (with_reducible refine ((Aid.unhide H).L1 _ hW).mono ?_); rintro e1 w1 ⟨rfl, hb1⟩; replace hW := below_bt hW hb1; clear hb1)
      | (go_at_call 7; (with_reducible refine ((Aid.unhide H).L2 _ hW).mono ?_); rintro e1 w1 ⟨rfl, hb1⟩; replace hW := below_bt hW hb1; clear hb1)
      | (go_at_call 9; (with_reducible refine ((Aid.unhide H).O1 _ hW).mono ?_); rintro e1 wa ⟨va, rfl, hRa, hBa⟩; obtain ⟨A3, c3, rfl, hca, haca⟩ := AC_of_R hRa; have hpa := hW.size; replace hW := below_bt hW hBa; clear hBa)
      | (go_at_call 9; (with_reducible refine ((Aid.unhide H).O2 _ hW).mono ?_); rintro e1 wb ⟨vb, rfl, hRb, hBb⟩; obtain ⟨A4, c4, rfl, hcb, hacb⟩ := AC_of_R hRb; replace hW := below_bt hW hBb)
      | (go_at_call 10; (with_reducible refine ((Aid.unhide H).E1 _ A3 c3 haca).mono ?_); rintro e1 w1 ⟨rfl, hb1⟩; replace hW := below_bt hW hb1; clear hb1 hRa haca hpa)
      | (go_at_call 10; (with_reducible refine ((Aid.unhide H).E2 _ A4 c4 hacb).mono ?_); rintro e1 w1 ⟨rfl, hb1⟩; replace hW := below_bt hW hb1; clear hb1 hRb hacb hBb)
      | (at_builtin; refine append_acts (w0 := w) (W := wb) _ _ rfl (.tmp 45) (.tmp 47) rfl (.slice A3 l1.length c3) l1 l2 A4 c4 rfl rfl (Kd.R_below hRa hBb) hRb hpa ?c1 hW hl60 ?_; (case c1 => intro k hk; obtain ⟨inner, ho⟩ := Kd.R_own hRa; exact own_lt ho k hk); intro A5 c5 w5 hac5 hc5 hB5; (try rw [List.length_append]); replace hW := hB5)
      | (go_at_call 10; (with_reducible refine ((Aid.unhide H).Eb _ A5 c5 hac5).mono ?_); rintro e1 w1 ⟨rfl, hb1⟩; replace hW := below_bt hW hb1; clear hb1 hac5)
      | (go_at_call 17; (with_reducible refine ((Aid.unhide H).D1 rfl _).mono ?_); rintro e1 w1 ⟨v6, rfl, hR6, hb1⟩; obtain ⟨A6, c6, rfl, hc6, hac6⟩ := AC_of_R hR6; replace hW := below_bt hW hb1; clear hb1 hR6)
      | (go_at_call 12; (with_reducible refine ((Aid.unhide H).S1 _ A6 c6 hac6.C hc6 hW).mono ?_); rintro e1 w1 ⟨rfl, hb1⟩; replace hW := below_bt hW hb1; clear hb1 hac6)
      | (go_at_call 17; (with_reducible refine ((Aid.unhide H).D3 _).mono ?_); rintro e1 w1 ⟨v7, rfl, hR7, hb1⟩; obtain ⟨A7, c7, rfl, hc7, hac7⟩ := AC_of_R hR7; (try rw [hnil]); replace hW := below_bt hW hb1; clear hb1 hR7)
      | (go_at_call 10; (with_reducible refine ((Aid.unhide H).E3 rfl _ A7 c7 hac7).mono ?_); rintro e1 w1 ⟨rfl, hb1⟩; replace hW := below_bt hW hb1; clear hb1 hac7)
      | (go_at_call 8; refine (alive8 _).mono ?_; rintro e1 w1 ⟨rfl, hb1⟩; replace hW := below_bt hW hb1; clear hb1))
    go_ret
    exact ⟨rfl, hW⟩
end Go.Proofs.Ytppgbahiolhgbaa
end
