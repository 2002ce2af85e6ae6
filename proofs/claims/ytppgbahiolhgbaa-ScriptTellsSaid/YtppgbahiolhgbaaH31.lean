/- Contracts and plain laws over the seat, laid together (group 31 of what the claim needs). -/
import Derived.Test.YtppgbahiolhgbaaH30
set_option linter.unusedVariables false
set_option linter.unusedSimpArgs false
namespace Go.Proofs.Ytppgbahiolhgbaa
open Go.RowKit Go.Proofs.YtppgbahiolhgbaaW.PrintWords Sp
open PScriptReads
def HAt (W : World) (gh : Nat) (d : Int) : Prop := W.heap[gh]? = some (.cells #[.bool (hOrg d), .bool (hAud d), .bool (hN d), .bool (hGives d), .bool (hTxn d), .bool (hYes d), .bool (hSteps d)] 59 (0, 0))
structure St2 (w : World) (g : Nat) (a : S37) (A4 : Option Addr) (c4 : Nat) (A9 : Option Addr) (c9 : Nat) (gh : Nat) (W : World) : Prop where
  s : St w g a A4 c4 A9 c9 W
  h : HAt W gh a.f0
section
variable {w : World} {g : Nat} {a : S37} {A4 : Option Addr} {c4 : Nat} {A9 : Option Addr} {c9 : Nat} {gh : Nat} {W : World}
theorem St2.below {w1 : World} (h : St2 w g a A4 c4 A9 c9 gh W) (hb : Below W.heap.size W w1) : St2 w g a A4 c4 A9 c9 gh w1 := ⟨h.s.below hb, (hb.block gh (blk_lt h.h)).trans h.h⟩
theorem St2.alloc (h : St2 w g a A4 c4 A9 c9 gh W) (o : Obj) : St2 w g a A4 c4 A9 c9 gh (W.alloc o) := h.below (below_alloc (Below.refl _ _) o)
theorem St2.ten (h : St2 w g a A4 c4 A9 c9 gh W) : Ten W g a A4 c4 A9 c9 := h.s.ten
theorem St2.seven (h : St2 w g a A4 c4 A9 c9 gh W) : W.cell? ⟨gh, 0, none⟩ = some (.bool (hOrg a.f0)) ∧ W.cell? ⟨gh, 1, none⟩ = some (.bool (hAud a.f0)) ∧ W.cell? ⟨gh, 2, none⟩ = some (.bool (hN a.f0)) ∧ W.cell? ⟨gh, 3, none⟩ = some (.bool (hGives a.f0)) ∧ W.cell? ⟨gh, 4, none⟩ = some (.bool (hTxn a.f0)) ∧ W.cell? ⟨gh, 5, none⟩ = some (.bool (hYes a.f0)) ∧ W.cell? ⟨gh, 6, none⟩ = some (.bool (hSteps a.f0)) :=
  ⟨(blk_cell h.h 0).trans rfl, (blk_cell h.h 1).trans rfl, (blk_cell h.h 2).trans rfl, (blk_cell h.h 3).trans rfl, (blk_cell h.h 4).trans rfl, (blk_cell h.h 5).trans rfl, (blk_cell h.h 6).trans rfl⟩
end
end Go.Proofs.Ytppgbahiolhgbaa
