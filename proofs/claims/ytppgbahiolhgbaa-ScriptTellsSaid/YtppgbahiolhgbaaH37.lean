/- Contracts and plain laws over the seat, laid together (group 37 of what the claim needs). -/
import Derived.Test.YtppgbahiolhgbaaH35
set_option linter.unusedVariables false
set_option linter.unusedSimpArgs false
namespace Go.Proofs.Ytppgbahiolhgbaa
open Go.RowKit Go.Proofs.YtppgbahiolhgbaaW.PrintWords Sp
open PScriptReads
theorem heap_set_same {W : World} {p : Addr} {v : Value} (h : W.cell? p = some v) (i : Nat) : (W.setCell p v).heap[i]? = W.heap[i]? := by
  by_cases e : i = p.block
  · subst e
    unfold World.cell? at h
    cases hh : W.heap[p.block]? with
    | none => rw [hh] at h; simp at h
    | some o =>
      rw [hh] at h
      cases o with
      | cells c e fr =>
        simp only at h
        by_cases hs : p.spot.isSome = true
        · rw [if_pos hs] at h; simp at h
        · rw [if_neg hs] at h
          have e2 : c.setIfInBounds p.off v = c := by
            obtain ⟨hl, hv⟩ := Array.getElem?_eq_some_iff.1 h
            rw [Array.setIfInBounds, dif_pos hl]
            have hv' := hv
            subst hv'
            exact Array.set_getElem_self hl
          simp [World.setCell, Array.getElem?_modify, hh, hs, e2]
      | _ => simp at h
  · exact Below.heap_setCell W p v i e
theorem below_same {W : World} {p : Addr} {v : Value} (h : W.cell? p = some v) : Below W.heap.size W (W.setCell p v) :=
  ⟨rfl, rfl, rfl, by simp [World.setCell], fun k _ => heap_set_same h k⟩
def Blk (W : World) (h : Nat) (cs : Array Value) (t : TypeId) : Prop := W.heap[h]? = some (.cells cs t (0, 0))
theorem Blk.below {W W1 : World} {h : Nat} {cs : Array Value} {t : TypeId} (k : Blk W h cs t) (hb : Below W.heap.size W W1) : Blk W1 h cs t := blk_of k hb
theorem Blk.alloc {W : World} {h : Nat} {cs : Array Value} {t : TypeId} (k : Blk W h cs t) (o : Obj) : Blk (W.alloc o) h cs t := blk_alloc k
theorem Blk.drew {W : World} {h : Nat} {cs : Array Value} {t : TypeId} (k : Blk W h cs t) : Blk W.drew h cs t := k
theorem Blk.new (W : World) (cs : Array Value) (t : TypeId) : Blk (W.alloc (.cells cs t)) W.heap.size cs t := blk_new rfl
theorem Blk.cell {W : World} {h : Nat} {cs : Array Value} {t : TypeId} (k : Blk W h cs t) (o : Nat) : W.cell? ⟨h, o, none⟩ = cs[o]? := blk_cell k o
theorem Blk.grown {W W1 : World} {h r : Nat} {cs : Array Value} {t : TypeId} {s : ByteArray} (k : Blk W h cs t) (ht : t ≠ 72) (hR : WrAt W r s) (hg : W.grownBy W1 (some r)) : Blk W1 h cs t := by
  refine blk_grown k hg (fun e => ?_)
  injection e with e
  subst e
  unfold Blk at k; unfold WrAt at hR
  rw [k] at hR
  injection hR with hR
  injection hR with _ hR
  exact ht hR
end Go.Proofs.Ytppgbahiolhgbaa
