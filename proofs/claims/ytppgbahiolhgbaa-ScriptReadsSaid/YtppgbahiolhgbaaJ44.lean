/- Contracts and plain laws over the seat, laid together (group 44 of what the claim needs). -/
import Derived.Test.YtppgbahiolhgbaaJ43
import Derived.Test.YtppgbahiolhgbaaJ40
set_option linter.unusedVariables false
set_option linter.unusedSimpArgs false
namespace Go.Proofs.Ytppgbahiolhgbaa
open Go.RowKit Go.Proofs.YtppgbahiolhgbaaW.PrintWords Sp
open PScriptReads
theorem frontF (s : ByteArray) (w : World) (hs : s.size ≤ 1000000) : Calls Try.prog 15 #[.string s] w (FrontPost w (L s)) := front15 rpart52 s w hs
def decP (l : Bytes) : List S37 × Int := if 65536 < l.length then ([], 5) else if (frontP l).2.length ≠ 0 then ([], 7) else ((frontP l).1, 0)
def DecPost (w : World) (l : Bytes) (e : Ending) (w' : World) : Prop :=
  ∃ v, e = .returned (.tuple #[v, .int .i64 (decP l).2]) ∧ k37.R 37 w' w.heap.size (fun _ => True) v (decP l).1 ∧ Below w.heap.size w w'
set_option maxRecDepth 100000 in
set_option maxHeartbeats 8000000 in
theorem decode17 (s : ByteArray) (w : World) (hs : s.size ≤ 9223372036854775807) : Calls Try.prog 17 #[.string s] w (DecPost w (L s)) := by
  obtain ⟨l, hl⟩ : ∃ l, l = L s := ⟨_, rfl⟩
  rw [← hl]
  have hz : s.size = l.length := by rw [hl, L_len]
  by_cases hbig : 65536 < l.length
  · have hp : decP l = ([], 5) := by unfold decP; rw [if_pos hbig]
    have HP := Aid.hide hp
    clear hp
    clear hl
    go_enter Try.func17, Try.ntmps17
    go_wp2
    go_ret2
    exact ⟨_, by rw [Aid.unhide HP]; rfl, by rw [Aid.unhide HP]; exact Kd.R_nil _ _ _ _ _, by first | exact Below.refl _ _ | (repeat first | exact Below.refl _ _ | apply below_drew | apply below_alloc)⟩
  · have hF := fun W => frontF s W (by omega)
    rw [← hl] at hF
    obtain ⟨m, hm⟩ : ∃ m, m = (frontP l).2.length := ⟨_, rfl⟩
    have hle := frontP_le l
    rw [← hm] at hle
    by_cases hr : m = 0
    · have hp : decP l = ((frontP l).1, 0) := by unfold decP; rw [if_neg hbig, if_neg (by omega)]
      have HP := Aid.hide (And.intro hp (And.intro hm hF))
      clear hp hm hF hl
      subst hr
      go_enter Try.func17, Try.ntmps17
      go_wp2_with (go_at_call 15; refine ((Aid.unhide HP).2.2 _).mono ?_; rintro e1 w1 ⟨v, rfl, hR, hB⟩; rw [← (Aid.unhide HP).2.1]; have HR := Aid.hide (And.intro hR hB); clear hR hB)
      go_ret2
      obtain ⟨hp, hm, hF⟩ := Aid.unhide HP
      exact ⟨_, by rw [hp]; rfl, by rw [hp]; exact (Aid.unhide HR).1, (Aid.unhide HR).2⟩
    · have hp : decP l = ([], 7) := by unfold decP; rw [if_neg hbig, if_pos (by omega)]
      have HP := Aid.hide (And.intro hp (And.intro hm hF))
      clear hp hm hF hl
      go_enter Try.func17, Try.ntmps17
      go_wp2_with (go_at_call 15; refine ((Aid.unhide HP).2.2 _).mono ?_; rintro e1 w1 ⟨v, rfl, hR, hB⟩; rw [← (Aid.unhide HP).2.1]; have HR := Aid.hide (And.intro hR hB); clear hR hB)
      go_ret2
      obtain ⟨hp, hm, hF⟩ := Aid.unhide HP
      exact ⟨_, by rw [hp]; rfl, by rw [hp]; exact Kd.R_nil _ _ _ _ _, (Aid.unhide HR).2⟩
end Go.Proofs.Ytppgbahiolhgbaa
