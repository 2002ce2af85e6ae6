/- Contracts and plain laws over the seat, laid together (group 35 of what the claim needs). -/
import Derived.Test.YtppgbahiolhgbaaH25
import Derived.Deep.RegionHeld3
import Derived.Deep.RegionLaw
import Derived.Deep.DrawnRows
import Derived.Outline
import Derived.Test.YtppgbahiolhgbaaH33
section
set_option linter.unusedVariables false
set_option linter.unusedSimpArgs false
namespace Go.Proofs.Ytppgbahiolhgbaa
open Go.RowKit Go.Proofs.YtppgbahiolhgbaaW.PrintWords Sp
theorem grownBy_trans {a b c : World} {row : Option Nat} (h : a.grownBy b row) (k : b.grownBy c row) : a.grownBy c row :=
  ⟨k.os.trans h.os, k.tape.trans h.tape, k.output.trans h.output, Nat.le_trans h.size k.size, fun i hi hne => (k.block i (Nat.lt_of_lt_of_le hi h.size) hne).trans (h.block i hi hne)⟩
def WrAt (W : World) (r : Nat) (s : ByteArray) : Prop := W.heap[r]? = some (.cells #[.string s] 72 (0, 0))
theorem WrAt.cell {W : World} {r : Nat} {s : ByteArray} (h : WrAt W r s) : W.cell? ⟨r, 0, none⟩ = some (.string s) := (blk_cell h 0).trans rfl
theorem WrAt.frozen {W : World} {r : Nat} {s : ByteArray} (h : WrAt W r s) : W.frozen? ⟨r, 0, none⟩ = false := by
  unfold WrAt at h
  simp [World.frozen?, h]
theorem WrAt.lt {W : World} {r : Nat} {s : ByteArray} (h : WrAt W r s) : r < W.heap.size := blk_lt h
theorem WrAt.below {W w1 : World} {r : Nat} {s : ByteArray} (h : WrAt W r s) (hb : Below W.heap.size W w1) : WrAt w1 r s := (hb.block r h.lt).trans h
theorem WrAt.set {W : World} {r : Nat} {s : ByteArray} (h : WrAt W r s) (t : ByteArray) : WrAt (W.setCell ⟨r, 0, none⟩ (.string t)) r t := by
  unfold WrAt at *
  simp [World.setCell, Array.getElem?_modify, h]
theorem below_bt {n : Nat} {w W W1 : World} (h : Below n w W) (k : Below W.heap.size W W1) (hn : n ≤ w.heap.size := by exact Nat.le_refl _) : Below n w W1 := h.trans (k.mono (Nat.le_trans hn h.size))
set_option maxHeartbeats 400000 in
theorem wnum99 (r : Nat) (p : Addr) (n m : Int) (s : ByteArray) (w : World) (hr : WrAt w r s) (hp : w.cell? p = some (.int .i64 n)) (h0 : 0 ≤ n) (h1 : n ≤ 2147483647) (hs : s.size ≤ 4611686018427387904) :
    Calls Try.prog 99 #[.pointer (some ⟨r, 0, none⟩), .pointer (some p), .int .i64 m] w fun e w' => e = .returned (.tuple #[]) ∧ WrAt w' r (s ++ mk (numB n.toNat)) ∧ w.grownBy w' (some r) := by
  have hc := hr.cell
  have hfz : w.frozen? ⟨r, 0, none⟩ = false := hr.frozen
  have hlr := hr.lt
  have hlp := World.block_lt_of_cell? _ _ hp
  have hn := fun W => num101 n W h0 (by omega)
  obtain ⟨t, ht⟩ : ∃ t, t = mk (numB n.toNat) := ⟨_, rfl⟩
  rw [← ht] at hn ⊢
  have zt : t.size ≤ 9 := by rw [ht, size_mk]; exact (numB_len _ (by omega)).2
  have F := Aid.hide (And.intro hn (And.intro ht hr))
  have ha1 : ¬ (9223372036854775807 < s.size + t.size) := by omega
  clear hn ht hr
  have hwn : IntKind.u64.wrap n = n := IntWalk.u64_in n ⟨h0, by omega⟩
  go_enter Try.func99, Try.ntmps99
  go_region_with ((go_at_call 101; refine ((Aid.unhide F).1 _).mono ?_; rintro e1 w1 ⟨rfl, hb1⟩; have k1 := (hb1.cell (p := ⟨r, 0, none⟩) hlr).trans hc; have k2 := (hb1.frozen (p := ⟨r, 0, none⟩) hlr).trans hfz))
  all_goals
    go_end0
    have hb0 : Below w.heap.size w w1 := by (repeat first | exact Below.refl _ _ | apply below_drew | refine below_bt ?_ (by assumption))
    exact ⟨rfl, ((Aid.unhide F).2.2.below hb0).set _, Aid.only_setCell (grown_of_below hb0 _) (Or.inl rfl) _⟩
set_option maxHeartbeats 2000000 in
theorem wtext100 (r : Nat) (p : Addr) (x : ByteArray) (m : Int) (s : ByteArray) (w : World) (hr : WrAt w r s) (hp : w.cell? p = some (.string x)) (hx : x.size ≤ 1000000) (hs : s.size ≤ 4611686018427387904) :
    Calls Try.prog 100 #[.pointer (some ⟨r, 0, none⟩), .pointer (some p), .int .i64 m] w fun e w' => e = .returned (.tuple #[]) ∧ WrAt w' r (s ++ mk (textB (L x))) ∧ w.grownBy w' (some r) := by
  have hc := hr.cell
  have hfz : w.frozen? ⟨r, 0, none⟩ = false := hr.frozen
  have hlr := hr.lt
  have hlp := World.block_lt_of_cell? _ _ hp
  have hn := fun W => text102 x W (by omega)
  obtain ⟨t, ht⟩ : ∃ t, t = mk (textB (L x)) := ⟨_, rfl⟩
  rw [← ht] at hn ⊢
  have zt : t.size ≤ 9 + x.size := by
    rw [ht, size_mk]
    have := (numB_len x.size (by omega)).2
    unfold textB; rw [List.length_append, L_len]; omega
  have F := Aid.hide (And.intro hn (And.intro ht hr))
  have ha1 : ¬ (9223372036854775807 < s.size + t.size) := by omega
  clear hn ht hr
  go_enter Try.func100, Try.ntmps100
  go_region_with ((go_at_call 102; refine ((Aid.unhide F).1 _).mono ?_; rintro e1 w1 ⟨rfl, hb1⟩; have k1 := (hb1.cell (p := ⟨r, 0, none⟩) hlr).trans hc; have k2 := (hb1.frozen (p := ⟨r, 0, none⟩) hlr).trans hfz))
  all_goals
    go_end0
    have hb0 : Below w.heap.size w w1 := by (repeat first | exact Below.refl _ _ | apply below_drew | refine below_bt ?_ (by assumption))
    exact ⟨rfl, ((Aid.unhide F).2.2.below hb0).set _, Aid.only_setCell (grown_of_below hb0 _) (Or.inl rfl) _⟩
end Go.Proofs.Ytppgbahiolhgbaa
end
section
set_option linter.unusedVariables false
set_option linter.unusedSimpArgs false
namespace Go.Proofs.Ytppgbahiolhgbaa
open Go.RowKit Go.Proofs.YtppgbahiolhgbaaW.PrintWords Sp
open PScriptReads
abbrev formV (g T r : Nat) : Value := .agg #[.pointer (some ⟨g, 0, none⟩), .iface T (.pointer (some ⟨r, 0, none⟩))]
theorem meth_wnum (a : Addr) (W : World) : (method 246 69 (.pointer (some a)) "chirograph/script.num").run Try.prog W = .ok (99, .pointer (some a)) W := by kernel_rfl
theorem meth_wtext (a : Addr) (W : World) : (method 246 69 (.pointer (some a)) "chirograph/script.text").run Try.prog W = .ok (100, .pointer (some a)) W := by kernel_rfl
theorem meth_rnum (a : Addr) (W : World) : (method 246 88 (.pointer (some a)) "chirograph/script.num").run Try.prog W = .ok (103, .pointer (some a)) W := by kernel_rfl
theorem meth_rtext (a : Addr) (W : World) : (method 246 88 (.pointer (some a)) "chirograph/script.text").run Try.prog W = .ok (104, .pointer (some a)) W := by kernel_rfl
structure WSt (w0 : World) (g r : Nat) (a : S37) (A4 : Option Addr) (c4 : Nat) (A9 : Option Addr) (c9 : Nat) (s : ByteArray) (W : World) : Prop where
  hA : ActAt W g a A4 c4 A9 c9
  hR : WrAt W r s
  hB : Below w0.heap.size w0 W
  lr : w0.heap.size ≤ r
  lg : w0.heap.size ≤ g
section
variable {w0 : World} {g r : Nat} {a : S37} {A4 : Option Addr} {c4 : Nat} {A9 : Option Addr} {c9 : Nat} {s s' : ByteArray} {W W1 : World}
theorem WSt.ne (h : WSt w0 g r a A4 c4 A9 c9 s W) : g ≠ r := by
  rintro rfl
  have h1 := h.hA
  have h2 := h.hR
  unfold ActAt at h1; unfold WrAt at h2
  rw [h1] at h2
  injection h2 with h2
  injection h2 with _ h2
  exact absurd h2 (by decide)
theorem WSt.below (h : WSt w0 g r a A4 c4 A9 c9 s W) (hb : Below W.heap.size W W1) : WSt w0 g r a A4 c4 A9 c9 s W1 :=
  ⟨h.hA.below hb, h.hR.below hb, h.hB.trans (hb.mono h.hB.size), h.lr, h.lg⟩
theorem WSt.alloc (h : WSt w0 g r a A4 c4 A9 c9 s W) (o : Obj) : WSt w0 g r a A4 c4 A9 c9 s (W.alloc o) := h.below (below_alloc (Below.refl _ _) o)
theorem WSt.drew (h : WSt w0 g r a A4 c4 A9 c9 s W) : WSt w0 g r a A4 c4 A9 c9 s W.drew := h.below (below_drew (Below.refl _ _))
theorem WSt.step (h : WSt w0 g r a A4 c4 A9 c9 s W) (hw : WrAt W1 r s') (hg : W.grownBy W1 (some r)) : WSt w0 g r a A4 c4 A9 c9 s' W1 :=
  ⟨blk_grown h.hA hg (by intro e; injection e with e; exact h.ne e), hw, h.hB.grown hg h.hB.size (by intro k e; injection e with e; subst e; exact h.lr), h.lr, h.lg⟩
theorem WSt.ten (h : WSt w0 g r a A4 c4 A9 c9 s W) : Ten W g a A4 c4 A9 c9 := h.hA.ten
theorem WSt.gs (h : WSt w0 g r a A4 c4 A9 c9 s W) : g < W.heap.size := blk_lt h.hA
end
def FAt (W : World) (b g T r : Nat) : Prop := W.heap[b]? = some (.cells #[.pointer (some ⟨g, 0, none⟩), .iface T (.pointer (some ⟨r, 0, none⟩))] 78 (0, 0))
theorem FAt.lt {W : World} {b g T r : Nat} (h : FAt W b g T r) : b < W.heap.size := blk_lt h
theorem FAt.below {W W1 : World} {b g T r : Nat} (h : FAt W b g T r) (hb : Below W.heap.size W W1) : FAt W1 b g T r := (hb.block b h.lt).trans h
theorem FAt.new (W : World) (g T r : Nat) : FAt (W.alloc (.cells #[.pointer (some ⟨g, 0, none⟩), .iface T (.pointer (some ⟨r, 0, none⟩))] 78)) W.heap.size g T r := by unfold FAt; simpa using heap_alloc_new W _
theorem FAt.c0 {W : World} {b g T r : Nat} (h : FAt W b g T r) : W.cell? ⟨b, 0, none⟩ = some (.pointer (some ⟨g, 0, none⟩)) := (blk_cell h 0).trans rfl
theorem FAt.c1 {W : World} {b g T r : Nat} (h : FAt W b g T r) : W.cell? ⟨b, 1, none⟩ = some (.iface T (.pointer (some ⟨r, 0, none⟩))) := (blk_cell h 1).trans rfl
structure WFt (w0 : World) (b g r : Nat) (a : S37) (A4 : Option Addr) (c4 : Nat) (A9 : Option Addr) (c9 : Nat) (s : ByteArray) (W : World) : Prop where
  S : WSt w0 g r a A4 c4 A9 c9 s W
  F : FAt W b g 69 r
section
variable {w0 : World} {b g r : Nat} {a : S37} {A4 : Option Addr} {c4 : Nat} {A9 : Option Addr} {c9 : Nat} {s s' : ByteArray} {W W1 : World}
theorem WFt.ne (h : WFt w0 b g r a A4 c4 A9 c9 s W) : b ≠ r := by
  rintro rfl
  have h1 := h.F
  have h2 := h.S.hR
  unfold FAt at h1; unfold WrAt at h2
  rw [h1] at h2
  injection h2 with h2
  injection h2 with _ h2
  exact absurd h2 (by decide)
theorem WFt.below (h : WFt w0 b g r a A4 c4 A9 c9 s W) (hb : Below W.heap.size W W1) : WFt w0 b g r a A4 c4 A9 c9 s W1 := ⟨h.S.below hb, h.F.below hb⟩
theorem WFt.alloc (h : WFt w0 b g r a A4 c4 A9 c9 s W) (o : Obj) : WFt w0 b g r a A4 c4 A9 c9 s (W.alloc o) := h.below (below_alloc (Below.refl _ _) o)
theorem WFt.drew (h : WFt w0 b g r a A4 c4 A9 c9 s W) : WFt w0 b g r a A4 c4 A9 c9 s W.drew := h.below (below_drew (Below.refl _ _))
theorem WFt.step (h : WFt w0 b g r a A4 c4 A9 c9 s W) (hw : WrAt W1 r s') (hg : W.grownBy W1 (some r)) : WFt w0 b g r a A4 c4 A9 c9 s' W1 :=
  ⟨h.S.step hw hg, blk_grown h.F hg (by intro e; injection e with e; exact h.ne e)⟩
theorem WSt.boxed (h : WSt w0 g r a A4 c4 A9 c9 s W) : WFt w0 W.heap.size g r a A4 c4 A9 c9 s (W.alloc (.cells #[.pointer (some ⟨g, 0, none⟩), .iface 69 (.pointer (some ⟨r, 0, none⟩))] 78)) := ⟨h.alloc _, FAt.new _ _ _ _⟩
end
def Uns (w0 : World) (A : Option Addr) : Prop := ∀ ad, A = some ad → ∃ cs t, w0.heap[ad.block]? = some (.cells cs t (0, 0))
def WPart (f : Nat) (part : S37 → Bytes) : Prop := ∀ (w0 : World) (g r : Nat) (a : S37) (A4 : Option Addr) (c4 : Nat) (A9 : Option Addr) (c9 : Nat) (s : ByteArray) (W : World),
  mayAct a = true → k48.C w0 A4 a.f4.length a.f4 → k51.C w0 A9 a.f7.length a.f7 → Uns w0 A9 → s.size ≤ 1000000 → WSt w0 g r a A4 c4 A9 c9 s W →
  Calls Try.prog f #[formV g 69 r] W fun e w' => e = .returned (.tuple #[]) ∧ WSt w0 g r a A4 c4 A9 c9 (s ++ mk (part a)) w' ∧ W.grownBy w' (some r)
theorem numsB_one {x : Int} : numsB [x] = numB x.toNat := by simp [numsB]
set_option maxRecDepth 100000 in
set_option maxHeartbeats 400000 in
theorem wpart46 : WPart 46 (fun a => numsB [a.f1]) := by
  intro w0 g r a A4 c4 A9 c9 s w hm g4 g9 hu hs hS
  obtain ⟨hd, hf, _, _⟩ := may_facts hm
  have hf : 0 ≤ a.f1 ∧ a.f1 ≤ 2147483647 := by omega
  have hp : w.cell? ⟨g, 1, none⟩ = some (.int .i64 a.f1) := hS.ten.k1
  have hlp := hS.gs
  have hm := meth_wnum
  have hn : ∀ W, WSt w0 g r a A4 c4 A9 c9 s W → Calls Try.prog 99 #[.pointer (some ⟨r, 0, none⟩), .pointer (some ⟨g, 1, none⟩), .int .i64 7] W _ := fun W h => wnum99 r ⟨g, 1, none⟩ a.f1 7 s W h.hR h.ten.k1 hf.1 hf.2 (by omega)
  have F := Aid.hide hn
  have HS := Aid.hide hS
  simp only [numsB_one]
  clear hn g4 g9 hu hf hd
  go_enter Try.func46, Try.ntmps46
  go_wp2
  go_region_with ((go_at_call 99; refine ((Aid.unhide F) _ (by (repeat first | assumption | apply WSt.drew | apply WSt.alloc))).mono ?_; rintro e1 w1 ⟨rfl, hw1, hg1⟩))
  all_goals
    go_end0
    exact ⟨rfl, WSt.step (s := s) (by (repeat first | assumption | apply WSt.drew | apply WSt.alloc)) hw1 hg1, grownBy_trans (grown_of_below (by (repeat first | exact Below.refl _ _ | apply below_drew | apply below_alloc)) _) hg1⟩
set_option maxRecDepth 100000 in
set_option maxHeartbeats 400000 in
theorem wpart47 : WPart 47 (fun a => numsB [a.f2]) := by
  intro w0 g r a A4 c4 A9 c9 s w hm g4 g9 hu hs hS
  obtain ⟨hd, hf, _, _⟩ := may_facts hm
  have hf : 0 ≤ a.f2 ∧ a.f2 ≤ 2147483647 := by omega
  have hp : w.cell? ⟨g, 2, none⟩ = some (.int .i64 a.f2) := hS.ten.k2
  have hlp := hS.gs
  have hm := meth_wnum
  have hn : ∀ W, WSt w0 g r a A4 c4 A9 c9 s W → Calls Try.prog 99 #[.pointer (some ⟨r, 0, none⟩), .pointer (some ⟨g, 2, none⟩), .int .i64 7] W _ := fun W h => wnum99 r ⟨g, 2, none⟩ a.f2 7 s W h.hR h.ten.k2 hf.1 hf.2 (by omega)
  have F := Aid.hide hn
  have HS := Aid.hide hS
  simp only [numsB_one]
  clear hn g4 g9 hu hf hd
  go_enter Try.func47, Try.ntmps47
  go_wp2
  go_region_with ((go_at_call 99; refine ((Aid.unhide F) _ (by (repeat first | assumption | apply WSt.drew | apply WSt.alloc))).mono ?_; rintro e1 w1 ⟨rfl, hw1, hg1⟩))
  all_goals
    go_end0
    exact ⟨rfl, WSt.step (s := s) (by (repeat first | assumption | apply WSt.drew | apply WSt.alloc)) hw1 hg1, grownBy_trans (grown_of_below (by (repeat first | exact Below.refl _ _ | apply below_drew | apply below_alloc)) _) hg1⟩
set_option maxRecDepth 100000 in
set_option maxHeartbeats 400000 in
theorem wpart51 : WPart 51 (fun a => numsB [a.f3]) := by
  intro w0 g r a A4 c4 A9 c9 s w hm g4 g9 hu hs hS
  obtain ⟨hd, hf, _, _⟩ := may_facts hm
  have hf : 0 ≤ a.f3 ∧ a.f3 ≤ 2147483647 := by omega
  have hp : w.cell? ⟨g, 3, none⟩ = some (.int .i64 a.f3) := hS.ten.k3
  have hlp := hS.gs
  have hm := meth_wnum
  have hn : ∀ W, WSt w0 g r a A4 c4 A9 c9 s W → Calls Try.prog 99 #[.pointer (some ⟨r, 0, none⟩), .pointer (some ⟨g, 3, none⟩), .int .i64 2147483647] W _ := fun W h => wnum99 r ⟨g, 3, none⟩ a.f3 2147483647 s W h.hR h.ten.k3 hf.1 hf.2 (by omega)
  have F := Aid.hide hn
  have HS := Aid.hide hS
  simp only [numsB_one]
  clear hn g4 g9 hu hf hd
  go_enter Try.func51, Try.ntmps51
  go_wp2
  go_region_with ((go_at_call 99; refine ((Aid.unhide F) _ (by (repeat first | assumption | apply WSt.drew | apply WSt.alloc))).mono ?_; rintro e1 w1 ⟨rfl, hw1, hg1⟩))
  all_goals
    go_end0
    exact ⟨rfl, WSt.step (s := s) (by (repeat first | assumption | apply WSt.drew | apply WSt.alloc)) hw1 hg1, grownBy_trans (grown_of_below (by (repeat first | exact Below.refl _ _ | apply below_drew | apply below_alloc)) _) hg1⟩
theorem numsB_three {x y z : Int} : numsB [x, y, z] = numB x.toNat ++ (numB y.toNat ++ numB z.toNat) := by simp [numsB]
theorem mk3 (s : ByteArray) (a b c : Bytes) : s ++ mk (a ++ (b ++ c)) = s ++ mk a ++ mk b ++ mk c := by rw [mk_append, mk_append, ByteArray.append_assoc, ByteArray.append_assoc]
set_option maxRecDepth 100000 in
set_option maxHeartbeats 1000000 in
theorem wpart49 : WPart 49 (fun a => numsB [a.f5.f0, a.f5.f1, a.f5.f2]) := by
  intro w0 g r a A4 c4 A9 c9 s w hm g4 g9 hu hs hS
  obtain ⟨hd, hf, _, _⟩ := may_facts hm
  have hm := meth_wnum
  have z1 := (numB_len a.f5.f0.toNat (by omega)).2
  have z2 := (numB_len a.f5.f1.toNat (by omega)).2
  have n1 : ∀ W, WFt w0 w.heap.size g r a A4 c4 A9 c9 s W → Calls Try.prog 99 #[.pointer (some ⟨r, 0, none⟩), .pointer (some ⟨g, 5, none⟩), .int .i64 7] W _ := fun W h => wnum99 r ⟨g, 5, none⟩ a.f5.f0 7 s W h.S.hR h.S.ten.k5 (by omega) (by omega) (by omega)
  have n2 : ∀ W, WFt w0 w.heap.size g r a A4 c4 A9 c9 (s ++ mk (numB a.f5.f0.toNat)) W → Calls Try.prog 99 #[.pointer (some ⟨r, 0, none⟩), .pointer (some ⟨g, 6, none⟩), .int .i64 255] W _ := fun W h => wnum99 r ⟨g, 6, none⟩ a.f5.f1 255 _ W h.S.hR h.S.ten.k6 (by omega) (by omega) (by rw [ByteArray.size_append, size_mk]; omega)
  have n3 : ∀ W, WFt w0 w.heap.size g r a A4 c4 A9 c9 (s ++ mk (numB a.f5.f0.toNat) ++ mk (numB a.f5.f1.toNat)) W → Calls Try.prog 99 #[.pointer (some ⟨r, 0, none⟩), .pointer (some ⟨g, 7, none⟩), .int .i64 65535] W _ := fun W h => wnum99 r ⟨g, 7, none⟩ a.f5.f2 65535 _ W h.S.hR h.S.ten.k7 (by omega) (by omega) (by rw [ByteArray.size_append, ByteArray.size_append, size_mk, size_mk]; omega)
  have F := Aid.hide (And.intro n1 (And.intro n2 n3))
  simp only [numsB_three, mk3]
  generalize s ++ mk (numB a.f5.f0.toNat) = s1 at *
  generalize s1 ++ mk (numB a.f5.f1.toNat) = s2 at *
  generalize s2 ++ mk (numB a.f5.f2.toNat) = s3 at *
  clear n1 n2 n3 g4 g9 hu hf hd hs z1 z2
  go_enter Try.func49, Try.ntmps49
  go_upto_region 1 with (fail)
  have hX := hS.boxed
  have hW : w.grownBy (w.alloc (.cells #[.pointer (some ⟨g, 0, none⟩), .iface 69 (.pointer (some ⟨r, 0, none⟩))] 78)) (some r) := World.grownBy_alloc _ _ _
  generalize hw0 : w.alloc (.cells #[.pointer (some ⟨g, 0, none⟩), .iface 69 (.pointer (some ⟨r, 0, none⟩))] 78) = wx at *
  generalize hbx : w.heap.size = b at hX F ⊢
  clear hw0 hbx hS
  obtain ⟨k0, k1, k2, k3, k4, k5, k6, k7, k8, k9⟩ := hX.S.ten
  have f0 := hX.F.c0
  have f1 := hX.F.c1
  have hlp := hX.S.gs
  go_cut [] (fun wx => WFt w0 b g r a A4 c4 A9 c9 s1 wx ∧ w.grownBy wx (some r))
  case first =>
    go_region_with ((go_at_call 99; refine ((Aid.unhide F).1 _ (by (repeat first | assumption | apply WFt.drew | apply WFt.alloc))).mono ?_; rintro e1 w1 ⟨rfl, hw1, hg1⟩))
    all_goals
      go_wp2_with (fail)
      go_meet
      exact ⟨WFt.step (s := s) (by (repeat first | assumption | apply WFt.drew | apply WFt.alloc)) hw1 hg1, grownBy_trans (by (repeat first | assumption | apply Aid.only_drew | apply Aid.only_alloc)) hg1⟩
  case rest =>
    clear k0 k1 k2 k3 k4 k5 k6 k7 k8 k9 f0 f1 hX hlp
    have hX := hcut.1
    clear hW
    have hW := hcut.2
    clear hcut
    go_upto_region 2 with (fail)
    obtain ⟨k0, k1, k2, k3, k4, k5, k6, k7, k8, k9⟩ := hX.S.ten
    have f0 := hX.F.c0
    have f1 := hX.F.c1
    have hlp := hX.S.gs
    go_cut [] (fun wx => WFt w0 b g r a A4 c4 A9 c9 s2 wx ∧ w.grownBy wx (some r))
    case first =>
      go_region_with ((go_at_call 99; refine ((Aid.unhide F).2.1 _ (by (repeat first | assumption | apply WFt.drew | apply WFt.alloc))).mono ?_; rintro e1 w1 ⟨rfl, hw1, hg1⟩))
      all_goals
        go_wp2_with (fail)
        go_meet
        exact ⟨WFt.step (s := s1) (by (repeat first | assumption | apply WFt.drew | apply WFt.alloc)) hw1 hg1, grownBy_trans (by (repeat first | assumption | apply Aid.only_drew | apply Aid.only_alloc)) hg1⟩
    case rest =>
      clear k0 k1 k2 k3 k4 k5 k6 k7 k8 k9 f0 f1 hX hlp
      have hX := hcut.1
      clear hW
      have hW := hcut.2
      clear hcut
      go_upto_region 3 with (fail)
      obtain ⟨k0, k1, k2, k3, k4, k5, k6, k7, k8, k9⟩ := hX.S.ten
      have f0 := hX.F.c0
      have f1 := hX.F.c1
      have hlp := hX.S.gs
      go_region_with ((go_at_call 99; refine ((Aid.unhide F).2.2 _ (by (repeat first | assumption | apply WFt.drew | apply WFt.alloc))).mono ?_; rintro e1 w1 ⟨rfl, hw1, hg1⟩))
      all_goals
        go_end0
        exact ⟨rfl, (WFt.step (s := s2) (by (repeat first | assumption | apply WFt.drew | apply WFt.alloc)) hw1 hg1).S, grownBy_trans (by (repeat first | assumption | apply Aid.only_drew | apply Aid.only_alloc)) hg1⟩
end Go.Proofs.Ytppgbahiolhgbaa
end
section
set_option linter.unusedVariables false
set_option linter.unusedSimpArgs false
namespace Go.Proofs.Ytppgbahiolhgbaa
open Go.RowKit Go.Proofs.YtppgbahiolhgbaaW.PrintWords Sp
open PScriptReads
theorem ActAt.setYes {w : World} {g : Nat} {a : S37} {A4 : Option Addr} {c4 : Nat} {A9 : Option Addr} {c9 : Nat} (h : ActAt w g a A4 c4 A9 c9) : ActAt (w.setCell ⟨g, 8, none⟩ (.bool a.f6)) g a A4 c4 A9 c9 := by
  unfold ActAt at *
  rw [blk_set h]
  rfl
theorem ActAt.frz {w : World} {g o : Nat} {a : S37} {A4 : Option Addr} {c4 : Nat} {A9 : Option Addr} {c9 : Nat} (h : ActAt w g a A4 c4 A9 c9) : w.frozen? ⟨g, o, none⟩ = false := by
  unfold ActAt at h
  simp [World.frozen?, h]
theorem WrAt.far {W : World} {r c o : Nat} {s : ByteArray} {v : Value} (h : WrAt W r s) (hne : r ≠ c) : WrAt (W.setCell ⟨c, o, none⟩ v) r s := blk_far h hne
theorem WSt.setYes {w0 : World} {g r : Nat} {a : S37} {A4 : Option Addr} {c4 : Nat} {A9 : Option Addr} {c9 : Nat} {s : ByteArray} {W : World} (h : WSt w0 g r a A4 c4 A9 c9 s W) {y : Bool} (hy : y = a.f6) : WSt w0 g r a A4 c4 A9 c9 s (W.setCell ⟨g, 8, none⟩ (.bool y)) :=
  ⟨by subst hy; exact h.hA.setYes, h.hR.far (Ne.symm h.ne), h.hB.setCell h.lg _, h.lr, h.lg⟩
theorem grown_same {w W : World} {b o : Nat} {v : Value} {cs : Array Value} {t : TypeId} {row : Option Nat} (h : W.heap[b]? = some (.cells cs t (0, 0))) (hv : cs.set! o v = cs) (hg : w.grownBy W row) : w.grownBy (W.setCell ⟨b, o, none⟩ v) row :=
  ⟨hg.os, hg.tape, hg.output, by simpa [World.setCell] using hg.size, fun i hi hne => by
    by_cases e : i = b
    · subst e; rw [blk_set h, hv, ← h]; exact hg.block i hi hne
    · exact (Below.heap_setCell W ⟨b, o, none⟩ v i e).trans (hg.block i hi hne)⟩
theorem ActAt.grown {w W : World} {g : Nat} {a : S37} {A4 : Option Addr} {c4 : Nat} {A9 : Option Addr} {c9 : Nat} {row : Option Nat} {y : Bool} (h : ActAt W g a A4 c4 A9 c9) (hy : y = a.f6) (hg : w.grownBy W row) : w.grownBy (W.setCell ⟨g, 8, none⟩ (.bool y)) row := by
  subst hy
  exact grown_same h rfl hg
structure WNt (w0 : World) (q b g r : Nat) (n : Int) (a : S37) (A4 : Option Addr) (c4 : Nat) (A9 : Option Addr) (c9 : Nat) (s : ByteArray) (W : World) : Prop where
  S : WFt w0 b g r a A4 c4 A9 c9 s W
  N : W.heap[q]? = some (.cells #[.int .i64 n] 3 (0, 0))
section
variable {w0 : World} {q b g r : Nat} {n : Int} {a : S37} {A4 : Option Addr} {c4 : Nat} {A9 : Option Addr} {c9 : Nat} {s s' : ByteArray} {W W1 : World}
theorem WNt.ne (h : WNt w0 q b g r n a A4 c4 A9 c9 s W) : q ≠ r := by
  rintro rfl
  have h1 := h.N
  have h2 := h.S.S.hR
  unfold WrAt at h2
  rw [h1] at h2
  injection h2 with h2
  injection h2 with _ h2
  exact absurd h2 (by decide)
theorem WNt.neb (h : WNt w0 q b g r n a A4 c4 A9 c9 s W) : b ≠ q := by
  rintro rfl
  have h1 := h.N
  have h2 := h.S.F
  unfold FAt at h2
  rw [h1] at h2
  injection h2 with h2
  injection h2 with _ h2
  exact absurd h2 (by decide)
theorem WNt.neg (h : WNt w0 q b g r n a A4 c4 A9 c9 s W) : g ≠ q := by
  rintro rfl
  have h1 := h.N
  have h2 := h.S.S.hA
  unfold ActAt at h2
  rw [h1] at h2
  injection h2 with h2
  injection h2 with _ h2
  exact absurd h2 (by decide)
theorem WNt.below (h : WNt w0 q b g r n a A4 c4 A9 c9 s W) (hb : Below W.heap.size W W1) : WNt w0 q b g r n a A4 c4 A9 c9 s W1 := ⟨h.S.below hb, blk_of h.N hb⟩
theorem WNt.alloc (h : WNt w0 q b g r n a A4 c4 A9 c9 s W) (o : Obj) : WNt w0 q b g r n a A4 c4 A9 c9 s (W.alloc o) := h.below (below_alloc (Below.refl _ _) o)
theorem WNt.step (h : WNt w0 q b g r n a A4 c4 A9 c9 s W) (hw : WrAt W1 r s') (hg : W.grownBy W1 (some r)) : WNt w0 q b g r n a A4 c4 A9 c9 s' W1 :=
  ⟨h.S.step hw hg, blk_grown h.N hg (by intro e; injection e with e; exact h.ne e)⟩
theorem WNt.cell (h : WNt w0 q b g r n a A4 c4 A9 c9 s W) : W.cell? ⟨q, 0, none⟩ = some (.int .i64 n) := (blk_cell h.N 0).trans rfl
theorem WNt.lt (h : WNt w0 q b g r n a A4 c4 A9 c9 s W) : q < W.heap.size := blk_lt h.N
theorem WFt.num (h : WFt w0 b g r a A4 c4 A9 c9 s W) (n : Int) : WNt w0 W.heap.size b g r n a A4 c4 A9 c9 s (W.alloc (.cells #[.int .i64 n] 3)) := ⟨h.alloc _, blk_new rfl⟩
theorem WNt.out (h : WNt w0 q b g r n a A4 c4 A9 c9 s W) (hr : w0.heap.size ≤ q) (m : Int) : WNt w0 q b g r m a A4 c4 A9 c9 s (W.setCell ⟨q, 0, none⟩ (.int .i64 m)) :=
  ⟨⟨⟨blk_far h.S.S.hA h.neg, blk_far h.S.S.hR (Ne.symm h.ne), h.S.S.hB.setCell hr _, h.S.S.lr, h.S.S.lg⟩, blk_far h.S.F h.neb⟩, blk_set h.N⟩
theorem WNt.call (h : WNt w0 q b g r n a A4 c4 A9 c9 s W) (m : Int) (h0 : 0 ≤ n) (h1 : n ≤ 2147483647) (hs : s.size ≤ 4611686018427387904) : Calls Try.prog 99 #[.pointer (some ⟨r, 0, none⟩), .pointer (some ⟨q, 0, none⟩), .int .i64 m] W fun e w' => e = .returned (.tuple #[]) ∧ WNt w0 q b g r n a A4 c4 A9 c9 (s ++ Sp.mk (numB n.toNat)) w' ∧ W.grownBy w' (some r) :=
  (wnum99 r ⟨q, 0, none⟩ n m s W h.S.S.hR h.cell h0 h1 hs).mono fun _ _ k => ⟨k.1, h.step k.2.1 k.2.2, k.2.2⟩
end
set_option maxRecDepth 100000 in
set_option maxHeartbeats 1000000 in
theorem wpart50 : WPart 50 (fun a => numsB [if a.f6 = true then 1 else 0]) := by
  intro w0 g r a A4 c4 A9 c9 s w hm g4 g9 hu hs hS
  have hm := meth_wnum
  have hX := hS.boxed
  have hsz : w0.heap.size ≤ w.heap.size := hS.hB.size
  have hW : w.grownBy (w.alloc (.cells #[.pointer (some ⟨g, 0, none⟩), .iface 69 (.pointer (some ⟨r, 0, none⟩))] 78)) (some r) := World.grownBy_alloc _ _ _
  obtain ⟨y, hy⟩ : ∃ y, y = a.f6 := ⟨_, rfl⟩
  have Y := Aid.hide hy
  dsimp only
  rw [← hy]
  clear g4 g9 hu hy
  go_enter Try.func50, Try.ntmps50
  go_upto_region 1 with (fail)
  generalize hw0 : w.alloc (.cells #[.pointer (some ⟨g, 0, none⟩), .iface 69 (.pointer (some ⟨r, 0, none⟩))] 78) = wx at *
  have hsx : w.heap.size < wx.heap.size := hX.F.lt
  generalize hbx : w.heap.size = b at hX ⊢
  clear hw0 hbx hS
  go_upto_region 2 with (fail)
  have hN := hX.num 0
  have hV : w.grownBy (wx.alloc (.cells #[.int .i64 0] 3)) (some r) := Aid.only_alloc hW _
  have hqx : w.heap.size ≤ wx.heap.size := Nat.le_of_lt hsx
  generalize hw1 : wx.alloc (.cells #[.int .i64 0] 3) = wy at *
  generalize hbx : wx.heap.size = q at *
  clear hw1 hbx hX hW hsx
  obtain ⟨k0, k1, k2, k3, k4, k5, k6, k7, k8, k9⟩ := hN.S.S.ten
  rw [← Aid.unhide Y] at k8
  have f0 := hN.S.F.c0
  have f1 := hN.S.F.c1
  have n0 := hN.cell
  have nz : wy.frozen? ⟨q, 0, none⟩ = false := by have h := hN.N; simp [World.frozen?, h]
  clear k0 k1 k2 k3 k4 k5 k6 k7 k9
  have hq := hN.lt
  have hg := hN.S.S.gs
  cases y with
  | false =>
    have hN' := Aid.hide (hN.call 1 (by omega) (by omega) (by omega))
    clear hN
    go_wp2_with (go_at_call 99; (refine (Aid.unhide hN').mono ?_; rintro e1 w1 ⟨rfl, hN, hg1⟩; have f0 := hN.S.F.c0; have f1 := hN.S.F.c1; have n0 := hN.cell; have k8 := hN.S.S.ten.k8; have fz := hN.S.S.hA.frz (o := 8)))
    go_end0
    exact ⟨rfl, WSt.setYes hN.S.S (Aid.unhide Y), hN.S.S.hA.grown (Aid.unhide Y) (grownBy_trans hV hg1)⟩
  | true =>
    have hN1 := hN.out (by omega) 1
    have hN' := Aid.hide (hN1.call 1 (by omega) (by omega) (by omega))
    clear hN hN1
    go_wp2_with (go_at_call 99; (refine (Aid.unhide hN').mono ?_; rintro e1 w1 ⟨rfl, hN, hg1⟩; have f0 := hN.S.F.c0; have f1 := hN.S.F.c1; have n0 := hN.cell; have k8 := hN.S.S.ten.k8; have fz := hN.S.S.hA.frz (o := 8)))
    go_end0
    exact ⟨rfl, WSt.setYes hN.S.S (Aid.unhide Y), hN.S.S.hA.grown (Aid.unhide Y) (grownBy_trans (Aid.only_setCell hV (Or.inr hqx) _) hg1)⟩
end Go.Proofs.Ytppgbahiolhgbaa
end
section
set_option linter.unusedVariables false
set_option linter.unusedSimpArgs false
namespace Go.Proofs.Ytppgbahiolhgbaa
open Go.RowKit Go.Proofs.YtppgbahiolhgbaaW.PrintWords Sp
open PScriptReads
theorem noReader (a : Addr) (W : World) : (Instr.typeAssert (.iface 69 (.pointer (some a))) 76 88 true).run Try.prog W = .ok (.tuple #[.pointer none, .bool false]) W := by kernel_rfl
set_option maxRecDepth 100000 in
set_option maxHeartbeats 1000000 in
theorem wrows63 (g r : Nat) (n m : Int) (s : ByteArray) (fv : Value) (w : World) (hR : WrAt w r s) (h0 : 0 ≤ n) (h1 : n ≤ 2147483647) (hs : s.size ≤ 4611686018427387904) :
    Calls Try.prog 63 #[formV g 69 r, .int .i64 n, .int .i64 m, fv] w fun e w' => e = .returned (.int .i64 n) ∧ WrAt w' r (s ++ mk (numB n.toNat)) ∧ w.grownBy w' (some r) := by
  have hm := meth_wnum
  have hta := noReader
  go_enter Try.func63, Try.ntmps63
  go_upto_region 1 with (fail)
  have hW : w.grownBy ((w.alloc (.cells #[.pointer (some ⟨g, 0, none⟩), .iface 69 (.pointer (some ⟨r, 0, none⟩))] 78)).alloc (.cells #[.int .i64 n] 3)) (some r) := Aid.only_alloc (World.grownBy_alloc _ _ _) _
  have hF : FAt ((w.alloc (.cells #[.pointer (some ⟨g, 0, none⟩), .iface 69 (.pointer (some ⟨r, 0, none⟩))] 78)).alloc (.cells #[.int .i64 n] 3)) w.heap.size g 69 r := (FAt.new _ _ _ _).below (below_alloc (Below.refl _ _) _)
  have hN : ((w.alloc (.cells #[.pointer (some ⟨g, 0, none⟩), .iface 69 (.pointer (some ⟨r, 0, none⟩))] 78)).alloc (.cells #[.int .i64 n] 3)).heap[w.heap.size + 1]? = some (.cells #[.int .i64 n] 3 (0, 0)) := blk_new (by simp)
  have hR1 : WrAt ((w.alloc (.cells #[.pointer (some ⟨g, 0, none⟩), .iface 69 (.pointer (some ⟨r, 0, none⟩))] 78)).alloc (.cells #[.int .i64 n] 3)) r s := (hR.below (below_alloc (Below.refl _ _) _)).below (below_alloc (Below.refl _ _) _)
  have hne : w.heap.size + 1 ≠ r := by have := hR.lt; omega
  have hnb : w.heap.size ≠ r := by have := hR.lt; omega
  generalize (w.alloc (.cells #[.pointer (some ⟨g, 0, none⟩), .iface 69 (.pointer (some ⟨r, 0, none⟩))] 78)).alloc (.cells #[.int .i64 n] 3) = wx at *
  generalize w.heap.size + 1 = q at *
  generalize hb : w.heap.size = b at hF hnb ⊢
  clear hb hR
  have f0 := hF.c0
  have f1 := hF.c1
  have n0 : wx.cell? ⟨q, 0, none⟩ = some (.int .i64 n) := (blk_cell hN 0).trans rfl
  have hC := Aid.hide (wnum99 r ⟨q, 0, none⟩ n m s wx hR1 n0 h0 h1 hs)
  have HF := Aid.hide (And.intro hF (And.intro hN hW))
  clear hF hN hW hR1
  go_wp2_with (go_at_call 99; (refine (Aid.unhide hC).mono ?_; rintro e1 w1 ⟨rfl, hw1, hg1⟩; have hF1 : FAt w1 b g 69 r := blk_grown (Aid.unhide HF).1 hg1 (by intro e; injection e with e; exact hnb e); have hN1 := blk_grown (Aid.unhide HF).2.1 hg1 (by intro e; injection e with e; exact hne e); have f0 := hF1.c0; have f1 := hF1.c1; have n0 : w1.cell? ⟨q, 0, none⟩ = some (.int .i64 n) := (blk_cell hN1 0).trans rfl))
  go_ret
  exact ⟨rfl, hw1, grownBy_trans (Aid.unhide HF).2.2 hg1⟩
end Go.Proofs.Ytppgbahiolhgbaa
end
