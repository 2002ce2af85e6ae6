import Derived.Test.YtppgbahiolhgbaaG5
import Derived.Laws.MakeOwn
section
/- Rooms for what is read: the closures that make them; how many rows there are, by a reader. -/
set_option linter.unusedVariables false
set_option linter.unusedSimpArgs false
namespace Go.Proofs.Ytppgbahiolhgbaa
open Go.RowKit Go.Proofs.YtppgbahiolhgbaaW.PrintWords Sp
open PScriptReads

/-- A row that was made, all zeros. -/
theorem R_made {α : Type} (d : Kd α) (e : Nat) {W : World} {base : Nat} {z : Value} {z0 : α} (n : Nat) (hz : z.cells.size = d.sz) (hs0 : 0 < d.sz) (hzero : ∀ W ok, d.M W base ok z0 z.cells.toList) (hb : base ≤ W.heap.size) (hm : n ≤ 1000000) :
    d.R e (W.alloc (.cells (madeCells z.cells (n * d.sz)) e)) base (fun _ => True) (.slice (some ⟨W.heap.size, 0, none⟩) n n) (List.replicate n z0) := by
  refine ⟨fun _ _ => trivial, (madeCells z.cells (n * d.sz)).toList, ?_, ?_⟩
  · rw [List.length_replicate]
    exact World.ownsRow_lit W _ n hb (by simp only [maxLen]; omega) (size_madeCells _ _)
  · exact Kd.reps_made hz hs0 (hzero _ _) n

theorem mk48 (n : Nat) (hn : n ≤ 1000) (W : World) : (Instr.makeSlice 32 (.int .i64 (n : Int)) (.int .i64 (n : Int))).run Try.prog W = .ok (.slice (some ⟨W.heap.size, 0, none⟩) n n) (W.alloc (.cells (madeCells (Value.agg #[.int .i64 0, .string ⟨#[]⟩]).cells (n * k48.sz)) 48)) := by
  obtain ⟨i0, hi, hzz⟩ := Option.map_eq_some_iff.1 inf48
  simp only [Prod.mk.injEq] at hzz
  obtain ⟨hz0, hz1, hz2⟩ := hzz
  have h := run_make (P := Try.prog) W 32 48 i0 _ Try.underlying32 hi hz0 .i64 .i64 (n : Int) (n : Int) (by omega) (by omega) (by rw [hz2]; omega) (by omega)
  rw [hz1] at h
  simp only [Int.toNat_natCast] at h
  exact h
theorem mk51 (n : Nat) (hn : n ≤ 1000) (W : World) : (Instr.makeSlice 35 (.int .i64 (n : Int)) (.int .i64 (n : Int))).run Try.prog W = .ok (.slice (some ⟨W.heap.size, 0, none⟩) n n) (W.alloc (.cells (madeCells (Value.agg #[.int .u8 0, .int .i64 0, .int .i64 0, .int .i64 0, .int .i64 0, .string ⟨#[]⟩, .slice none 0 0]).cells (n * kraw.sz)) 51)) := by
  obtain ⟨i0, hi, hzz⟩ := Option.map_eq_some_iff.1 inf51
  simp only [Prod.mk.injEq] at hzz
  obtain ⟨hz0, hz1, hz2⟩ := hzz
  have h := run_make (P := Try.prog) W 35 51 i0 _ Try.underlying35 hi hz0 .i64 .i64 (n : Int) (n : Int) (by omega) (by omega) (by rw [hz2]; omega) (by omega)
  rw [hz1] at h
  simp only [Int.toNat_natCast] at h
  exact h
theorem mkr3 (n : Nat) (hn : n ≤ 1000) (W : World) : (Instr.makeSlice 49 (.int .i64 (n : Int)) (.int .i64 (n : Int))).run Try.prog W = .ok (.slice (some ⟨W.heap.size, 0, none⟩) n n) (W.alloc (.cells (madeCells (Value.int .i64 0).cells (n * (Kd.int .i64).sz)) 3)) := by
  obtain ⟨i0, hi, hzz⟩ := Option.map_eq_some_iff.1 inf3
  simp only [Prod.mk.injEq] at hzz
  obtain ⟨hz0, hz1, hz2⟩ := hzz
  have h := run_make (P := Try.prog) W 49 3 i0 _ Try.underlying49 hi hz0 .i64 .i64 (n : Int) (n : Int) (by omega) (by omega) (by rw [hz2]; omega) (by omega)
  rw [hz1] at h
  simp only [Int.toNat_natCast] at h
  exact h

/-- A row that the reading makes lies in a new block. -/
def NewRow {α : Type} (d : Kd α) (e : Nat) (W w' : World) (n : Nat) (z0 : α) (b : Nat) : Prop :=
  W.heap.size ≤ b ∧ d.R e w' W.heap.size (fun _ => True) (.slice (some ⟨b, 0, none⟩) n n) (List.replicate n z0)

set_option maxRecDepth 100000 in
set_option maxHeartbeats 2000000 in
theorem room64 (c g T r : Nat) (n : Nat) (a : S37) (v4 v9 : Value) (w : World) (hn : n ≤ 1000) (hF : FAt w c g T r) (hA : ActV w g a v4 v9) :
    Calls Try.prog 64 #[.int .i64 (n : Int), .pointer (some ⟨c, 0, none⟩)] w fun e w' => e = .returned (.tuple #[]) ∧ ∃ b, NewRow k48 48 w w' n ⟨0, ⟨#[]⟩⟩ b ∧ ActV w' g a (.slice (some ⟨b, 0, none⟩) n n) v9 ∧ w.grownBy w' (some g) := by
  have hmk := mk48 n hn
  have f0 := hF.c0
  have k4 := hA.ten.k4
  have z4 := hA.frz 4
  have hlf := hF.lt
  have hlg := hA.lt
  have H := Aid.hide (And.intro hF hA)
  clear hF hA
  generalize hcs : (madeCells (Value.agg #[.int .i64 0, .string ⟨#[]⟩]).cells (n * k48.sz)) = cs at hmk
  have HC := Aid.hide hcs
  clear hcs
  go_enter Try.func64, Try.ntmps64
  go_region_with (fail)
  all_goals
    go_end0
    have hz : (w.setCell ⟨g, 4, none⟩ (.slice (some ⟨w.heap.size, 0, none⟩) n n)).heap.size = w.heap.size := by simp [World.setCell]
    have hA1 := ((Aid.unhide H).2.set4 (u := .slice (some ⟨w.heap.size, 0, none⟩) n n)).below (below_drew (below_alloc (Below.refl _ _) (.cells cs 48)))
    have hR := R_made k48 48 (W := w.setCell ⟨g, 4, none⟩ (.slice (some ⟨w.heap.size, 0, none⟩) n n)) (base := w.heap.size) (z := .agg #[.int .i64 0, .string ⟨#[]⟩]) (z0 := ⟨0, ⟨#[]⟩⟩) n rfl (by decide) (fun W ok => k48_mkM W _ ok ⟨0, ⟨#[]⟩⟩) (by omega) (by omega)
    rw [Aid.unhide HC, hz] at hR
    exact ⟨rfl, _, ⟨Nat.le_refl _, Kd.R_below hR (below_drew (Below.refl _ _))⟩, hA1, Aid.only_drew (Aid.only_alloc (Aid.only_setCell (World.grownBy.refl _ _) (Or.inl rfl) _) _)⟩

set_option maxRecDepth 100000 in
set_option maxHeartbeats 2000000 in
theorem room65 (c g T r : Nat) (n : Nat) (a : S37) (v4 v9 : Value) (w : World) (hn : n ≤ 1000) (hF : FAt w c g T r) (hA : ActV w g a v4 v9) :
    Calls Try.prog 65 #[.int .i64 (n : Int), .pointer (some ⟨c, 0, none⟩)] w fun e w' => e = .returned (.tuple #[]) ∧ ∃ b, NewRow kraw 51 w w' n (z51, (none, 0, 0)) b ∧ ActV w' g a v4 (.slice (some ⟨b, 0, none⟩) n n) ∧ w.grownBy w' (some g) := by
  have hmk := mk51 n hn
  have f0 := hF.c0
  have k9 := hA.ten.k9
  have z9 := hA.frz 9
  have hlf := hF.lt
  have hlg := hA.lt
  have H := Aid.hide (And.intro hF hA)
  clear hF hA
  generalize hcs : (madeCells (Value.agg #[.int .u8 0, .int .i64 0, .int .i64 0, .int .i64 0, .int .i64 0, .string ⟨#[]⟩, .slice none 0 0]).cells (n * kraw.sz)) = cs at hmk
  have HC := Aid.hide hcs
  clear hcs
  go_enter Try.func65, Try.ntmps65
  go_region_with (fail)
  all_goals
    go_end0
    have hz : (w.setCell ⟨g, 9, none⟩ (.slice (some ⟨w.heap.size, 0, none⟩) n n)).heap.size = w.heap.size := by simp [World.setCell]
    have hA1 := ((Aid.unhide H).2.set9 (u := .slice (some ⟨w.heap.size, 0, none⟩) n n)).below (below_drew (below_alloc (Below.refl _ _) (.cells cs 51)))
    have hR := R_made kraw 51 (W := w.setCell ⟨g, 9, none⟩ (.slice (some ⟨w.heap.size, 0, none⟩) n n)) (base := w.heap.size) (z := .agg #[.int .u8 0, .int .i64 0, .int .i64 0, .int .i64 0, .int .i64 0, .string ⟨#[]⟩, .slice none 0 0]) (z0 := (z51, (none, 0, 0))) n rfl (by decide) (fun W ok => kraw_mkM W _ ok (z51, (none, 0, 0))) (by omega) (by omega)
    rw [Aid.unhide HC, hz] at hR
    exact ⟨rfl, _, ⟨Nat.le_refl _, Kd.R_below hR (below_drew (Below.refl _ _))⟩, hA1, Aid.only_drew (Aid.only_alloc (Aid.only_setCell (World.grownBy.refl _ _) (Or.inl rfl) _) _)⟩

set_option maxRecDepth 100000 in
set_option maxHeartbeats 2000000 in
/-- A step's list: h holds the step's address P. -/
theorem room66 (h : Nat) (P : Addr) (n : Nat) (x : Value) (w : World) (hn : n ≤ 1000) (hP : Blk w h #[.pointer (some P)] 110) (hx : w.cell? ⟨P.block, P.off + 6, none⟩ = some x) (hf : w.frozen? ⟨P.block, P.off + 6, none⟩ = false) :
    Calls Try.prog 66 #[.int .i64 (n : Int), .pointer (some ⟨h, 0, none⟩)] w fun e w' => e = .returned (.tuple #[]) ∧ ∃ b, NewRow (Kd.int .i64) 3 w w' n 0 b ∧ w'.heap[P.block]? = (w.setCell ⟨P.block, P.off + 6, none⟩ (.slice (some ⟨b, 0, none⟩) n n)).heap[P.block]? ∧ w.grownBy w' (some P.block) := by
  have hmk := mkr3 n hn
  have p0 : w.cell? ⟨h, 0, none⟩ = some (.pointer (some P)) := hP.cell 0
  have hlh : h < w.heap.size := blk_lt hP
  have hlp : P.block < w.heap.size := World.block_lt_of_cell? _ ⟨P.block, P.off + 6, none⟩ hx
  have H := Aid.hide hP
  clear hP
  generalize hcs : (madeCells (Value.int .i64 0).cells (n * (Kd.int .i64).sz)) = cs at hmk
  have HC := Aid.hide hcs
  clear hcs
  go_enter Try.func66, Try.ntmps66
  go_region_with (fail)
  all_goals
    go_end0
    have hz : (w.setCell ⟨P.block, P.off + 6, none⟩ (.slice (some ⟨w.heap.size, 0, none⟩) n n)).heap.size = w.heap.size := by simp [World.setCell]
    have hR := R_made (Kd.int .i64) 3 (W := w.setCell ⟨P.block, P.off + 6, none⟩ (.slice (some ⟨w.heap.size, 0, none⟩) n n)) (base := w.heap.size) (z := .int .i64 0) (z0 := (0 : Int)) n rfl (by decide) (fun W ok => rfl) (by omega) (by omega)
    rw [Aid.unhide HC, hz] at hR
    exact ⟨rfl, _, ⟨Nat.le_refl _, Kd.R_below hR (below_drew (Below.refl _ _))⟩, Below.heap_alloc _ _ _ (by rw [hz]; exact hlp), Aid.only_drew (Aid.only_alloc (Aid.only_setCell (World.grownBy.refl _ _) (Or.inl rfl) _) _)⟩
end Go.Proofs.Ytppgbahiolhgbaa
end
section
/- How many rows there are, by a reader. -/
set_option linter.unusedVariables false
set_option linter.unusedSimpArgs false
namespace Go.Proofs.Ytppgbahiolhgbaa
open Go.RowKit Go.Proofs.YtppgbahiolhgbaaW.PrintWords Sp
open PScriptReads

theorem isReader (a : Addr) (W : World) : (Instr.typeAssert (.iface 88 (.pointer (some a))) 76 88 true).run Try.prog W = .ok (.tuple #[.pointer (some a), .bool true]) W := by kernel_rfl

/-- What stands when the number is asked for. -/
structure Ask (w : World) (q b g r : Nat) (n0 : Int) (s : ByteArray) (W : World) : Prop where
  N : W.heap[q]? = some (.cells #[.int .i64 n0] 3 (0, 0))
  F : FAt W b g 88 r
  R : RdAt W r s
  G : w.grownBy W (some r)
  hq : w.heap.size ≤ q
theorem ask_new (w : World) (g r : Nat) (n0 : Int) (s : ByteArray) (hR : RdAt w r s) : Ask w (w.heap.size + 1) w.heap.size g r n0 s ((w.alloc (.cells #[.pointer (some ⟨g, 0, none⟩), .iface 88 (.pointer (some ⟨r, 0, none⟩))] 78)).alloc (.cells #[.int .i64 n0] 3)) :=
  ⟨blk_new (by simp), (FAt.new _ _ _ _).below (below_alloc (Below.refl _ _) _), (hR.below (below_alloc (Below.refl _ _) _)).below (below_alloc (Below.refl _ _) _), Aid.only_alloc (World.grownBy_alloc _ _ _) _, by omega⟩

set_option maxRecDepth 100000 in
set_option maxHeartbeats 2000000 in
theorem rrows63_no (g r : Nat) (n0 : Int) (m : Nat) (s : ByteArray) (fv : Value) (w : World) (hR : RdAt w r s) (hm : m ≤ 2147483647) (h : numP m (L s) = none) :
    Calls Try.prog 63 #[formV g 88 r, .int .i64 n0, .int .i64 (m : Int), fv] w fun e w' => e = .panicked thrownN ∧ Below w.heap.size w w' := by
  have hmt := meth_rnum
  have hN := ask_new w g r n0 s hR
  have hb : Below w.heap.size w ((w.alloc (.cells #[.pointer (some ⟨g, 0, none⟩), .iface 88 (.pointer (some ⟨r, 0, none⟩))] 78)).alloc (.cells #[.int .i64 n0] 3)) := below_alloc (below_alloc (Below.refl _ _) _) _
  have H := Aid.hide h
  clear h
  go_enter Try.func63, Try.ntmps63
  go_upto_region 1 with (fail)
  generalize (w.alloc (.cells #[.pointer (some ⟨g, 0, none⟩), .iface 88 (.pointer (some ⟨r, 0, none⟩))] 78)).alloc (.cells #[.int .i64 n0] 3) = wx at *
  generalize w.heap.size + 1 = q at *
  generalize hbx : w.heap.size = b at hN ⊢
  have HBX := Aid.hide hbx
  clear hbx
  have f1 := hN.F.c1
  have C := Aid.hide (rnum103_no r ⟨q, 0, none⟩ m s wx hN.R hm (Aid.unhide H))
  go_wp2_with (go_at_call 103; refine (Aid.unhide C).mono ?_; rintro e1 w1 ⟨rfl, rfl⟩)
  exact ⟨rfl, rfl, Aid.unhide HBX ▸ hb⟩

def Q63 (w : World) (r : Nat) (v : Nat) (t : Bytes) (Q : World → World → Prop) (e : Ending) (w' : World) : Prop :=
  e = .returned (.int .i64 (v : Int)) ∧ ∃ W1, w.grownBy W1 (some r) ∧ RdAt W1 r (mk t) ∧ Q W1 w'

set_option maxRecDepth 100000 in
set_option maxHeartbeats 2000000 in
theorem rrows63 (F : Nat) (hF : F = 64 ∨ F = 65 ∨ F = 66) (c g r : Nat) (n0 : Int) (m v : Nat) (s : ByteArray) (t : Bytes) (w : World) (hR : RdAt w r s) (hm : m ≤ 2147483647) (h : numP m (L s) = some (v, t)) (Q : World → World → Prop)
    (hf : ∀ W1, w.grownBy W1 (some r) → RdAt W1 r (mk t) → Calls Try.prog F #[.int .i64 (v : Int), .pointer (some ⟨c, 0, none⟩)] W1 fun e w' => e = .returned (.tuple #[]) ∧ Q W1 w' ∧ ∃ x, x < w.heap.size ∧ W1.grownBy w' (some x)) :
    Calls Try.prog 63 #[formV g 88 r, .int .i64 n0, .int .i64 (m : Int), .func (.func F) #[] #[.pointer (some ⟨c, 0, none⟩)]] w (Q63 w r v t Q) := by
  have hmt := meth_rnum
  have hta := isReader
  have hN := ask_new w g r n0 s hR
  have H := Aid.hide (And.intro h hf)
  have hsz : r < w.heap.size := hR.lt
  clear h hf
  obtain rfl | rfl | rfl := hF
  all_goals
    go_enter Try.func63, Try.ntmps63
    go_upto_region 1 with (fail)
    generalize (w.alloc (.cells #[.pointer (some ⟨g, 0, none⟩), .iface 88 (.pointer (some ⟨r, 0, none⟩))] 78)).alloc (.cells #[.int .i64 n0] 3) = wx at *
    generalize w.heap.size + 1 = q at *
    generalize hbx : w.heap.size = b at hN ⊢
    have hwb : w.heap.size ≤ b := by omega
    clear hbx
    have f1 := hN.F.c1
    have n1 := hN.N
    have hqr : q ≠ r := ty_ne hN.N hN.R (by decide)
    have C := Aid.hide (rnum103_ok r ⟨q, 0, none⟩ m v n0 s t wx hN.R ((blk_cell hN.N 0).trans rfl) (by simp [World.frozen?, n1]) hqr hm (Aid.unhide H).1)
    have HN := Aid.hide hN
    have hbr : b ≠ r := ty_ne hN.F hN.R (by decide)
    have hbq : b ≠ q := ty_ne hN.F hN.N (by decide)
    have hqs : w.heap.size ≤ q := hN.hq
    clear n1 hN
    go_upto_region 2 with (go_at_call 103; refine (Aid.unhide C).mono ?_; rintro e1 w1 ⟨rfl, hT⟩)
    have hG := took_grown (Aid.unhide HN).G hT hqs
    have hF1 : FAt w1 b g 88 r := (hT.far b hbr hbq).trans (Aid.unhide HN).F
    have hQ1 := took_cell (Aid.unhide HN).N hT
    have hRd := hT.rd
    have f1 := hF1.c1
    have n1 : w1.cell? ⟨q, 0, none⟩ = some (.int .i64 (v : Int)) := (blk_cell hQ1 0).trans rfl
    have D := Aid.hide ((Aid.unhide H).2 w1 hG hRd)
    have HG := Aid.hide (And.intro hG (And.intro hRd hQ1))
    clear hG hF1 hQ1 hRd hT C HN
    go_wp2_with (first | (go_at_call 64; (refine (Aid.unhide D).mono ?_; rintro e1 w2 ⟨rfl, hq, x, hx, hgx⟩; have n1 : w2.cell? ⟨q, 0, none⟩ = some (.int .i64 (v : Int)) := (blk_cell (blk_grown (Aid.unhide HG).2.2 hgx (by intro e; injection e with e; omega)) 0).trans rfl)) | (go_at_call 65; (refine (Aid.unhide D).mono ?_; rintro e1 w2 ⟨rfl, hq, x, hx, hgx⟩; have n1 : w2.cell? ⟨q, 0, none⟩ = some (.int .i64 (v : Int)) := (blk_cell (blk_grown (Aid.unhide HG).2.2 hgx (by intro e; injection e with e; omega)) 0).trans rfl)) | (go_at_call 66; (refine (Aid.unhide D).mono ?_; rintro e1 w2 ⟨rfl, hq, x, hx, hgx⟩; have n1 : w2.cell? ⟨q, 0, none⟩ = some (.int .i64 (v : Int)) := (blk_cell (blk_grown (Aid.unhide HG).2.2 hgx (by intro e; injection e with e; omega)) 0).trans rfl)))
    go_ret
    exact ⟨rfl, w1, (Aid.unhide HG).1, (Aid.unhide HG).2.1, hq⟩
end Go.Proofs.Ytppgbahiolhgbaa
end
