import Derived.Test.YtppgbahiolhgbaaG0
import Derived.Defers
import Derived.Recover
import Derived.Laws.Pointers
section
/- The contracts of chirograph/term's caught, Read and Check. -/
set_option linter.unusedVariables false
set_option linter.unusedSimpArgs false
namespace Go.Proofs.Ytppgbahiolhgbaa
open Go.RowKit Go.Proofs.YtppgbahiolhgbaaW.PrintWords Sp

theorem caught56 (n : Int) (w : World) : Calls Try.prog 56 #[.iface 113 (.agg #[.int .i64 n])] w fun e w' => e = .returned (.int .i64 n) ∧ Below w.heap.size w w' := by
  have hta : ∀ W : World, (Instr.typeAssert (.iface 113 (.agg #[.int .i64 n])) 20 113 true).run Try.prog W = .ok (.tuple #[.agg #[.int .i64 n], .bool true]) W := fun _ => by kernel_rfl
  go_enter Try.func56, Try.ntmps56
  go_wp2
  go_ret
  exact ⟨rfl, below_alloc (Below.refl _ _) _⟩

/-- What the deferred closure leaves of a reading's panic. -/
theorem catch55 (p q : Addr) (n : Int) (x y : Value) (older : List PanicEntry) (w : World) (hp : w.cell? p = some x) (hq : w.cell? q = some y) (fp : w.frozen? p = false) (fq : w.frozen? q = false) (hne : p.block ≠ q.block) :
    CallsD Try.prog 55 #[.pointer (some p), .pointer (some q)] (.panicking ({ v := .iface 113 (.agg #[.int .i64 n]), recovered := false } :: older)) w fun e u' w' =>
      e = .returned (.tuple #[]) ∧ u' = .panicking ({ v := .iface 113 (.agg #[.int .i64 n]), recovered := true } :: older) ∧ w'.cell? p = some (.int .i64 0) ∧ w'.cell? q = some (.int .i64 n) ∧ (∀ B, B ≤ p.block → B ≤ q.block → B ≤ w.heap.size → Below B w w') := by
  have hpq : p ≠ q := fun h => hne (by rw [h])
  refine callsD_of_wpS Try.func55 rfl fun c₀ cs hu => ?_
  apply wpS_seq
  apply wpS_region
  simp [wpOpsS, go_sem, recoverD, hu, Try.ntmps55, Exit.thenS]
  refine wpS_of_wp ?_
  have hnq : ∀ W : World, (binOp .neq 20 (.iface 113 (.agg #[.int .i64 n])) .nilIface).run Try.prog W = .ok (.bool true) W := fun _ => by kernel_rfl
  have hlp := World.block_lt_of_cell? w p hp
  have hlq := World.block_lt_of_cell? w q hq
  go_wp2_with (go_at_call 56; refine (caught56 _ _).mono ?_; rintro e1 w1 ⟨rfl, hb1⟩; have k1 := (hb1.cell hlp).trans hp; have k2 := (hb1.cell hlq).trans hq; have k3 := (hb1.frozen hlp).trans fp; have k4 := (hb1.frozen hlq).trans fq; have k5 : (w1.setCell p (.int .i64 0)).cell? q = some y := (World.cell?_setCell_other _ _ _ _ hpq).trans k2)
  have m1 : ((w1.setCell p (.int .i64 0)).setCell q (.int .i64 n)).cell? p = some (.int .i64 0) := (World.cell?_setCell_other _ _ _ _ (Ne.symm hpq)).trans (World.cell?_setCell_same _ _ _ k1)
  have m2 : ((w1.setCell p (.int .i64 0)).setCell q (.int .i64 n)).cell? q = some (.int .i64 n) := World.cell?_setCell_same _ _ _ k5
  simp [bodyPostS, results, Try.results55]
  refine ⟨m1, m2, fun B h1 h2 h3 => ?_⟩
  exact ((hb1.mono h3).setCell h1 _).setCell h2 _

theorem idle55 (p q : Addr) (w : World) : CallsD Try.prog 55 #[.pointer (some p), .pointer (some q)] .returning w fun e u' w' => e = .returned (.tuple #[]) ∧ u' = .returning ∧ w' = w := by
  refine callsD_of_wpS Try.func55 rfl fun c₀ cs hu => ?_
  apply wpS_seq
  apply wpS_region
  simp [wpOpsS, go_sem, recoverD, hu, Try.ntmps55, Exit.thenS]
  have hnq : ∀ W : World, (binOp .neq 20 .nilIface .nilIface).run Try.prog W = .ok (.bool false) W := fun _ => by kernel_rfl
  refine wpS_of_wp ?_
  go_wp2
  cases c₀
  simp_all [bodyPostS, results, Try.results55]

/-- The two named results of Read, as they lie behind what made no turn of them. -/
structure Two (w w1 : World) : Prop where
  g1 : w1.cell? ⟨w.heap.size, 0, none⟩ = some (.int .i64 0)
  g2 : w1.cell? ⟨w.heap.size + 1, 0, none⟩ = some (.int .i64 0)
  f1 : w1.frozen? ⟨w.heap.size, 0, none⟩ = false
  f2 : w1.frozen? ⟨w.heap.size + 1, 0, none⟩ = false
  hb : Below w.heap.size w w1
theorem two {w w1 : World} {t u : TypeId} (h : Below ((w.alloc (.cells #[.int .i64 0] t)).alloc (.cells #[.int .i64 0] u)).heap.size ((w.alloc (.cells #[.int .i64 0] t)).alloc (.cells #[.int .i64 0] u)) w1) : Two w w1 :=
  ⟨(h.cell (by simp; omega)).trans (by simp [go_sem]), (h.cell (by simp)).trans (by simp [go_sem]), (h.frozen (by simp; omega)).trans (by simp [go_sem]), (h.frozen (by simp)).trans (by simp [go_sem]),
    (below_alloc (below_alloc (Below.refl _ _) _) _).trans (h.mono (by simp; omega))⟩

def rdV (r : Nat × Nat) : Value := .tuple #[.int .i64 (r.1 : Int), .int .i64 (r.2 : Int)]

set_option maxHeartbeats 2000000 in
theorem read40 (s : ByteArray) (w : World) (hs : s.size ≤ 4611686018427387904) : Calls Try.prog 40 #[.string s] w fun e w' => e = .returned (rdV (tRead (L s))) ∧ Below w.heap.size w w' := by
  have hmf : ∀ (fn : Fn) (first cap : Array Value) (w : World), (Instr.makeFunc fn first cap).run Try.prog w = .ok (.func fn first cap) w := fun _ _ _ _ => rfl
  have hW := fun w => walk_any 16 (Nat.le_refl _) s 0 w hs (Nat.zero_le _)
  rw [List.drop_zero] at hW
  have hR : tRead (L s) = if (tread 16 (L s)).2 ≠ 0 then (0, (tread 16 (L s)).2) else if 16384 < (tread 16 (L s)).1 then (0, 5) else ((tread 16 (L s)).1, 0) := rfl
  have hle := tread_le 16 (L s)
  rw [L_len] at hle
  generalize tread 16 (L s) = r at *
  obtain ⟨n, e⟩ := r
  simp only at hR hle
  by_cases he : e = 0
  · subst he
    have hle := hle rfl
    have F := Lib.hid (And.intro hW hR)
    clear hW hR
    by_cases hn : 16384 < n
    · go_enter_defers Try.func40, Try.ntmps40
      go_wp2_with (first | (go_at_call 57; refine (F.out.1 _).mono ?_; rintro e1 w1 ⟨rfl, hb1⟩; rw [endW_ok]; obtain ⟨g1, g2, f1, f2, hb⟩ := two hb1) | (go_at_call 59; refine (must_no _ _ (by decide)).mono ?_; rintro e1 w2 ⟨rfl, rfl⟩))
      refine leaves_cons (f := 55) (args := #[.pointer (some ⟨w.heap.size, 0, none⟩), .pointer (some ⟨w.heap.size + 1, 0, none⟩)]) (by simp) (by simp [go_sem]) ?_
      refine (catch55 ⟨w.heap.size, 0, none⟩ ⟨w.heap.size + 1, 0, none⟩ 5 _ _ [] _ (World.cell?_setCell_same _ _ _ g1) ((World.cell?_setCell_other _ _ _ _ (by simp)).trans g2) (by rw [World.frozen?_setCell]; exact f1) (by rw [World.frozen?_setCell]; exact f2) (by simp)).mono ?_
      rintro e u' w'' ⟨rfl, rfl, c1, c2, cb⟩
      have cb' := cb w.heap.size (by simp) (by simp) (by have := hb.size; simpa using this)
      simp [Leaves, settle, results, Try.results40, go_sem, c1, c2]
      exact ⟨by rw [F.out.2, if_neg (fun h => h rfl), if_pos hn]; rfl, (hb.setCell (by simp) _).trans cb'⟩
    · go_enter_defers Try.func40, Try.ntmps40
      go_wp2_with (first | (go_at_call 57; refine (F.out.1 _).mono ?_; rintro e1 w1 ⟨rfl, hb1⟩; rw [endW_ok]; obtain ⟨g1, g2, f1, f2, hb⟩ := two hb1) | (go_at_call 59; refine (must_no _ _ (by decide)).mono ?_; rintro e1 w2 ⟨rfl, rfl⟩))
      refine leaves_cons (f := 55) (args := #[.pointer (some ⟨w.heap.size, 0, none⟩), .pointer (some ⟨w.heap.size + 1, 0, none⟩)]) (by simp) (by simp [go_sem]) ?_
      refine (idle55 ⟨w.heap.size, 0, none⟩ ⟨w.heap.size + 1, 0, none⟩ _).mono ?_
      rintro e u' w'' ⟨rfl, rfl, rfl⟩
      have d1 := World.cell?_setCell_same _ _ (.int .i64 (n : Int)) g1
      have d2 := World.cell?_setCell_same _ _ (.int .i64 (n : Int)) d1
      have ne1 : (⟨w.heap.size, 0, none⟩ : Addr) ≠ ⟨w.heap.size + 1, 0, none⟩ := by simp
      have d3 := (World.cell?_setCell_other ((w1.setCell ⟨w.heap.size, 0, none⟩ (.int .i64 (n : Int))).setCell ⟨w.heap.size, 0, none⟩ (.int .i64 (n : Int))) ⟨w.heap.size + 1, 0, none⟩ ⟨w.heap.size, 0, none⟩ (.int .i64 0) ne1.symm).trans d2
      have d4 := World.cell?_setCell_same ((w1.setCell ⟨w.heap.size, 0, none⟩ (.int .i64 (n : Int))).setCell ⟨w.heap.size, 0, none⟩ (.int .i64 (n : Int))) ⟨w.heap.size + 1, 0, none⟩ (.int .i64 0) (((World.cell?_setCell_other _ _ _ _ ne1).trans (World.cell?_setCell_other _ _ _ _ ne1)).trans g2)
      simp [Leaves, settle, results, Try.results40, go_sem, d3, d4]
      exact ⟨by rw [F.out.2, if_neg (fun h => h rfl), if_neg hn]; rfl, ((hb.setCell (by simp) _).setCell (by simp) _).setCell (by simp) _⟩
  · have F := Lib.hid (And.intro hW hR)
    clear hW hR hle
    go_enter_defers Try.func40, Try.ntmps40
    go_wp2_with (go_at_call 57; refine (F.out.1 _).mono ?_; rintro e1 w1 ⟨rfl, hb1⟩; rw [endW_bad _ _ _ he]; obtain ⟨g1, g2, f1, f2, hb⟩ := two hb1)
    refine leaves_cons (f := 55) (args := #[.pointer (some ⟨w.heap.size, 0, none⟩), .pointer (some ⟨w.heap.size + 1, 0, none⟩)]) (by simp) (by simp [go_sem]) ?_
    refine (catch55 ⟨w.heap.size, 0, none⟩ ⟨w.heap.size + 1, 0, none⟩ e _ _ [] _ g1 g2 f1 f2 (by simp)).mono ?_
    rintro e u' w'' ⟨rfl, rfl, c1, c2, cb⟩
    have cb' := cb w.heap.size (by simp) (by simp) hb.size
    simp [Leaves, settle, results, Try.results40, go_sem, c1, c2]
    exact ⟨by rw [F.out.2, if_pos he]; rfl, hb.trans cb'⟩

set_option maxHeartbeats 1000000 in
theorem check26 (s : ByteArray) (w : World) (hs : s.size ≤ 4611686018427387904) : Calls Try.prog 26 #[.string s] w fun e w' => e = .returned (.int .i64 ((tcheck (L s) : Nat) : Int)) ∧ Below w.heap.size w w' := by
  have hR := fun w => read40 s w hs
  have hC : tcheck (L s) = if (tRead (L s)).2 ≠ 0 then (tRead (L s)).2 else if (tRead (L s)).1 ≠ s.size then 7 else 0 := by unfold tcheck; rw [L_len]
  generalize tRead (L s) = r at *
  obtain ⟨n, e⟩ := r
  simp only at hC
  have F := Lib.hid (And.intro hR hC)
  clear hR hC
  by_cases he : e = 0
  · subst he
    by_cases hn : n = s.size
    · have c1 : ((n : Int) != (s.size : Int)) = false := by simp [hn]
      have N := Lib.hid hn
      clear hn
      go_enter Try.func26, Try.ntmps26
      go_wp2_with (go_at_call 40; refine (F.out.1 _).mono ?_; rintro e1 w1 ⟨rfl, hb1⟩; unfold rdV)
      go_ret
      exact ⟨by rw [F.out.2, if_neg (fun h => h rfl), if_neg (fun h => h N.out)]; rfl, hb1⟩
    · have c1 : ((n : Int) != (s.size : Int)) = true := by rw [bne_iff_ne]; omega
      have N := Lib.hid hn
      clear hn
      go_enter Try.func26, Try.ntmps26
      go_wp2_with (go_at_call 40; refine (F.out.1 _).mono ?_; rintro e1 w1 ⟨rfl, hb1⟩; unfold rdV)
      go_ret
      exact ⟨by rw [F.out.2, if_neg (fun h => h rfl), if_pos N.out]; rfl, hb1⟩
  · have c0 : ((e : Int) == 0) = false := by simpa using he
    have N := Lib.hid he
    clear he
    go_enter Try.func26, Try.ntmps26
    go_wp2_with (go_at_call 40; refine (F.out.1 _).mono ?_; rintro e1 w1 ⟨rfl, hb1⟩; unfold rdV)
    go_ret
    exact ⟨by rw [F.out.2, if_pos N.out]; rfl, hb1⟩
end Go.Proofs.Ytppgbahiolhgbaa
end
