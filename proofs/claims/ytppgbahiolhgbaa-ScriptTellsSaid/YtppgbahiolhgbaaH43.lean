/- Contracts and plain laws over the seat, laid together (group 43 of what the claim needs). -/
import Derived.Test.YtppgbahiolhgbaaH41
import Derived.Test.YtppgbahiolhgbaaH39
import Derived.Defers
import Derived.Recover
import Derived.Laws.Pointers
import Derived.Outline
section
set_option linter.unusedVariables false
set_option linter.unusedSimpArgs false
namespace Go.Proofs.Ytppgbahiolhgbaa
open Go.RowKit Go.Proofs.YtppgbahiolhgbaaW.PrintWords Sp
open PScriptReads
def rdF (F : Nat) : S37 → Bytes → Option (S37 × Bytes) :=
  if F = 46 then rdOne 7 (fun a v => { a with f1 := v }) else if F = 47 then rdOne 7 (fun a v => { a with f2 := v }) else if F = 51 then rdOne 2147483647 (fun a v => { a with f3 := v })
  else if F = 48 then rdGives else if F = 49 then rdTxn else if F = 50 then rdYes else rdSteps
def rdParts : List Nat → S37 → Bytes → Option (S37 × Bytes)
  | [], a, l => some (a, l)
  | F :: r, a, l => (rdF F a l).bind fun q => rdParts r q.1 q.2
def rdAct : Bytes → Option (S37 × Bytes)
  | [] => none
  | c :: l => rdParts (partsL (c.toNat : Int)) ⟨(c.toNat : Int), 0, 0, 0, [], ⟨0, 0, 0⟩, false, []⟩ l
def Sm (x : S37) : Prop := x.f4.length ≤ 1000 ∧ x.f7.length ≤ 1000 ∧ (∀ y ∈ x.f4, y.f1.size ≤ 1000000) ∧ ∀ y ∈ x.f7, y.f5.size ≤ 1000000 ∧ y.f6.length ≤ 1000
theorem bind_some_iff {α β : Type} {o : Option α} {f : α → Option β} {z : β} (h : o.bind f = some z) : ∃ x, o = some x ∧ f x = some z := by
  cases o with
  | none => simp at h
  | some x => exact ⟨x, rfl, h⟩
theorem textP_len {m : Nat} {v : Bytes} {l t : Bytes} (h : textP m l = some (v, t)) : v.length ≤ m ∧ t.length ≤ l.length := by
  refine ⟨?_, textP_le h⟩
  unfold textP at h
  split at h
  · rename_i hc
    injection h with h
    injection h with h1 h2
    subst h1
    exact (rdText_len hc).1
  · simp at h
theorem rdGl_len : ∀ (n : Nat) (l : Bytes) (xs : List S48) (t : Bytes), rdGl n l = some (xs, t) → xs.length = n ∧ (∀ y ∈ xs, y.f1.size ≤ 16384) ∧ t.length ≤ l.length := by
  intro n
  induction n with
  | zero => intro l xs t h; simp [rdGl] at h; obtain ⟨rfl, rfl⟩ := h; simp
  | succ n ih =>
    intro l xs t h
    rw [rdGl] at h
    obtain ⟨q1, h1, h⟩ := bind_some_iff h
    obtain ⟨q2, h2, h⟩ := bind_some_iff h
    rw [Option.map_eq_some_iff] at h
    obtain ⟨q, h3, h⟩ := h
    injection h with e1 e2
    obtain ⟨i1, i2, i3⟩ := ih _ _ _ h3
    have n1 := (numP_le (v := q1.1) (t := q1.2) h1).2
    have n2 := textP_len (v := q2.1) (t := q2.2) h2
    subst e1; subst e2
    refine ⟨by simp [i1], fun y hy => ?_, by omega⟩
    rcases List.mem_cons.1 hy with rfl | hy
    · simp only [size_mk]; exact n2.1
    · exact i2 y hy
theorem rdNums_len : ∀ (n : Nat) (l : Bytes) (xs : List Int) (t : Bytes), rdNums n l = some (xs, t) → xs.length = n ∧ t.length ≤ l.length := by
  intro n
  induction n with
  | zero => intro l xs t h; simp [rdNums] at h; obtain ⟨rfl, rfl⟩ := h; simp
  | succ n ih =>
    intro l xs t h
    rw [rdNums] at h
    obtain ⟨q1, h1, h⟩ := bind_some_iff h
    rw [Option.map_eq_some_iff] at h
    obtain ⟨q, h3, h⟩ := h
    injection h with e1 e2
    obtain ⟨i1, i3⟩ := ih _ _ _ h3
    have n1 := (numP_le (v := q1.1) (t := q1.2) h1).2
    subst e1; subst e2
    exact ⟨by simp [i1], by omega⟩
theorem rdStep_len (l : Bytes) (x : S51) (t : Bytes) (h : rdStep l = some (x, t)) : x.f5.size ≤ 1024 ∧ x.f6.length ≤ 32 ∧ t.length ≤ l.length := by
  unfold rdStep at h
  obtain ⟨q0, h0, h⟩ := bind_some_iff h
  obtain ⟨z, h1, h⟩ := bind_some_iff h
  obtain ⟨q5, h5, h⟩ := bind_some_iff h
  obtain ⟨qn, hn, h⟩ := bind_some_iff h
  rw [Option.map_eq_some_iff] at h
  obtain ⟨y, h6, h⟩ := h
  injection h with e1 e2
  have n0 := (numP_le (v := q0.1) (t := q0.2) h0).2
  have n1 := (rdNums_len _ _ z.1 z.2 h1).2
  have n5 := textP_len (v := q5.1) (t := q5.2) h5
  have nn := numP_le (v := qn.1) (t := qn.2) hn
  have n6 := rdNums_len _ _ y.1 y.2 h6
  subst e1; subst e2
  exact ⟨by simp only [size_mk]; exact n5.1, by simp only; omega, by omega⟩
theorem rdSl_len : ∀ (n : Nat) (l : Bytes) (xs : List S51) (t : Bytes), rdSl n l = some (xs, t) → xs.length = n ∧ (∀ y ∈ xs, y.f5.size ≤ 1024 ∧ y.f6.length ≤ 32) ∧ t.length ≤ l.length := by
  intro n
  induction n with
  | zero => intro l xs t h; simp [rdSl] at h; obtain ⟨rfl, rfl⟩ := h; simp
  | succ n ih =>
    intro l xs t h
    rw [rdSl] at h
    obtain ⟨q1, h1, h⟩ := bind_some_iff h
    rw [Option.map_eq_some_iff] at h
    obtain ⟨q, h3, h⟩ := h
    injection h with e1 e2
    obtain ⟨i1, i2, i3⟩ := ih _ _ _ h3
    have n1 := rdStep_len _ q1.1 q1.2 h1
    subst e1; subst e2
    refine ⟨by simp [i1], fun y hy => ?_, by omega⟩
    rcases List.mem_cons.1 hy with rfl | hy
    · exact ⟨n1.1, n1.2.1⟩
    · exact i2 y hy
theorem rdF_small {F : Nat} {a a' : S37} {l t : Bytes} (ha : Sm a) (h : rdF F a l = some (a', t)) : Sm a' ∧ t.length ≤ l.length ∧ a'.f0 = a.f0 := by
  unfold rdF at h
  have one : ∀ m (put : S37 → Int → S37), (∀ a v, (put a v).f4 = a.f4 ∧ (put a v).f7 = a.f7 ∧ (put a v).f0 = a.f0) → rdOne m put a l = some (a', t) → Sm a' ∧ t.length ≤ l.length ∧ a'.f0 = a.f0 := by
    intro m put hp h
    unfold rdOne at h
    rw [Option.map_eq_some_iff] at h
    obtain ⟨q, h1, h⟩ := h
    injection h with e1 e2
    have := (numP_le (v := q.1) (t := q.2) h1).2
    obtain ⟨p4, p7, p0⟩ := hp a (q.1 : Int)
    subst e1; subst e2
    exact ⟨by unfold Sm; rw [p4, p7]; exact ha, this, p0⟩
  by_cases c1 : F = 46
  · rw [if_pos c1] at h; exact one 7 (fun a v => { a with f1 := v }) (fun _ _ => ⟨rfl, rfl, rfl⟩) h
  rw [if_neg c1] at h
  by_cases c2 : F = 47
  · rw [if_pos c2] at h; exact one 7 (fun a v => { a with f2 := v }) (fun _ _ => ⟨rfl, rfl, rfl⟩) h
  rw [if_neg c2] at h
  by_cases c3 : F = 51
  · rw [if_pos c3] at h; exact one 2147483647 (fun a v => { a with f3 := v }) (fun _ _ => ⟨rfl, rfl, rfl⟩) h
  rw [if_neg c3] at h
  by_cases c4 : F = 48
  · rw [if_pos c4] at h
    unfold rdGives at h
    obtain ⟨q, h1, h⟩ := bind_some_iff h
    rw [Option.map_eq_some_iff] at h
    obtain ⟨z, h2, h⟩ := h
    injection h with e1 e2
    have n1 := numP_le (v := q.1) (t := q.2) h1
    have n2 := rdGl_len _ _ z.1 z.2 h2
    subst e1; subst e2
    exact ⟨⟨by simp only; omega, ha.2.1, fun y hy => by have := n2.2.1 y hy; omega, ha.2.2.2⟩, by omega, rfl⟩
  rw [if_neg c4] at h
  by_cases c5 : F = 49
  · rw [if_pos c5] at h
    unfold rdTxn at h
    obtain ⟨q1, h1, h⟩ := bind_some_iff h
    obtain ⟨q2, h2, h⟩ := bind_some_iff h
    obtain ⟨q3, h3, h⟩ := bind_some_iff h
    injection h with h
    injection h with e1 e2
    have n1 := (numP_le (v := q1.1) (t := q1.2) h1).2
    have n2 := (numP_le (v := q2.1) (t := q2.2) h2).2
    have n3 := (numP_le (v := q3.1) (t := q3.2) h3).2
    subst e1; subst e2
    exact ⟨ha, by omega, rfl⟩
  rw [if_neg c5] at h
  by_cases c6 : F = 50
  · rw [if_pos c6] at h
    unfold rdYes at h
    rw [Option.map_eq_some_iff] at h
    obtain ⟨q, h1, h⟩ := h
    injection h with e1 e2
    have n1 := (numP_le (v := q.1) (t := q.2) h1).2
    subst e1; subst e2
    exact ⟨ha, n1, rfl⟩
  rw [if_neg c6] at h
  unfold rdSteps at h
  obtain ⟨q, h1, h⟩ := bind_some_iff h
  rw [Option.map_eq_some_iff] at h
  obtain ⟨z, h2, h⟩ := h
  injection h with e1 e2
  have n1 := numP_le (v := q.1) (t := q.2) h1
  have n2 := rdSl_len _ _ z.1 z.2 h2
  subst e1; subst e2
  exact ⟨⟨ha.1, by simp only; omega, ha.2.2.1, fun y hy => by have := n2.2.1 y hy; omega⟩, by omega, rfl⟩
theorem rdParts_small : ∀ (pl : List Nat) (a a' : S37) (l t : Bytes), Sm a → rdParts pl a l = some (a', t) → Sm a' ∧ t.length ≤ l.length := by
  intro pl
  induction pl with
  | nil => intro a a' l t ha h; simp [rdParts] at h; obtain ⟨rfl, rfl⟩ := h; exact ⟨ha, Nat.le_refl _⟩
  | cons F r ih =>
    intro a a' l t ha h
    rw [rdParts] at h
    obtain ⟨q, h1, h⟩ := bind_some_iff h
    obtain ⟨s1, s2, _⟩ := rdF_small (a' := q.1) (t := q.2) ha h1
    obtain ⟨t1, t2⟩ := ih _ _ _ _ s1 h
    exact ⟨t1, by omega⟩
theorem rdAct_small {l t : Bytes} {a : S37} (h : rdAct l = some (a, t)) : Sm a ∧ t.length < l.length := by
  cases l with
  | nil => simp [rdAct] at h
  | cons c l =>
    rw [rdAct] at h
    obtain ⟨h1, h2⟩ := rdParts_small _ _ _ _ _ ⟨by simp, by simp, by simp, by simp⟩ h
    exact ⟨h1, by rw [List.length_cons]; omega⟩
end Go.Proofs.Ytppgbahiolhgbaa
end
section
set_option linter.unusedVariables false
set_option linter.unusedSimpArgs false
namespace Go.Proofs.Ytppgbahiolhgbaa
open Go.RowKit Go.Proofs.YtppgbahiolhgbaaW.PrintWords Sp
open PScriptReads
def act0 : S37 := ⟨0, 0, 0, 0, [], ⟨0, 0, 0⟩, false, []⟩
theorem store_act {W : World} {g : Nat} {a a' : S37} {v4 v9 u4 u9 : Value} (h4 : u4.oneCell' = true) (h9 : u9.oneCell' = true) (h : ActV W g a v4 v9) : ∃ W1, (Instr.storeAt 37 (.pointer (some ⟨g, 0, none⟩)) (.agg (actW a' u4 u9))).run Try.prog W = .ok () W1 ∧ ActV W1 g a' u4 u9 ∧
    (∀ k, k ≠ g → W1.heap[k]? = W.heap[k]?) ∧ W1.os = W.os ∧ W1.tape = W.tape ∧ W1.output = W.output ∧ W1.heap.size = W.heap.size := by
  have hc : (Value.agg (actW a' u4 u9)).cells.toList = (actW a' u4 u9).toList := rfl
  have h1 : ∀ q ∈ (actW a' u4 u9).toList, q.oneCell' = true := by
    intro q hq
    simp only [List.mem_cons, List.not_mem_nil, or_false] at hq
    rcases hq with rfl | rfl | rfl | rfl | rfl | rfl | rfl | rfl | rfl | rfl
    all_goals first | rfl | assumption
  refine ⟨W.setCells g 0 (actW a' u4 u9).toList, run_store_run 37 _ _ h hc (by kernel_rfl) (by simp) h1, ?_, fun k hk => setCells_far _ _ k hk, ?_⟩
  · obtain ⟨cur', h2, h3, h4⟩ := setCells_row (actW a' u4 u9).toList 0 W _ h (by simp)
    unfold ActV
    rw [h2]
    have e : cur' = actW a' u4 u9 := by
      apply Array.toList_inj.1
      rw [h4]
      simp
    rw [e]
  · exact ⟨(setCells_same g _ _ W).1, (setCells_same g _ _ W).2.1, (setCells_same g _ _ W).2.2.1, (setCells_same g _ _ W).2.2.2⟩
theorem wpList_store_act {ops : Array Oper} {rest : List Oper} {o : Oper} {ac : Act} {Q : Exit → Act → World → Prop} {W : World} {g : Nat} {a a' : S37} {v4 v9 u4 u9 : Value} (hgd : o.guard = none) (hN : o.dst = none) (p x : Operand) (ho : o.op = .store 37 p x)
    (haddr : ac.eval p = .pointer (some ⟨g, 0, none⟩)) (hx : ac.eval x = .agg (actW a' u4 u9)) (h4 : u4.oneCell' = true) (h9 : u9.oneCell' = true) (h : ActV W g a v4 v9)
    (hk : ∀ W1, ActV W1 g a' u4 u9 → (∀ k, k ≠ g → W1.heap[k]? = W.heap[k]?) → (W1.os = W.os ∧ W1.tape = W.tape ∧ W1.output = W.output ∧ W1.heap.size = W.heap.size) → wpList Try.prog ops Q rest ac W1) : wpList Try.prog ops Q (o :: rest) ac W := by
  obtain ⟨W1, hrun, h1, h2, h3⟩ := store_act (a' := a') h4 h9 h
  refine wpList_plain hgd fun K hK => ?_
  unfold Oper.wp execOp
  simp only [ho, haddr, hx, Sem.run_bind, Sem.run_pure, Result.andThen_ok, hrun]
  show K (ac.put o.dst undef) _
  rw [hN]
  exact hK _ _ (hk W1 h1 h2 h3)
set_option maxRecDepth 100000 in
set_option maxHeartbeats 400000 in
theorem catch42 (w0 : World) (g i : Nat) (older : List PanicEntry) (w : World) (h : DSt w0 g i w) :
    CallsD Try.prog 42 #[.pointer (some ⟨g, 0, none⟩), .pointer (some ⟨i, 0, none⟩)] (.panicking ({ v := .iface 86 (.agg #[]), recovered := false } :: older)) w fun e u' w' =>
      e = .returned (.tuple #[]) ∧ u' = .panicking ({ v := .iface 86 (.agg #[]), recovered := true } :: older) ∧ ActV w' g act0 (.slice none 0 0) (.slice none 0 0) ∧ w'.heap[i]? = some (.cells #[.bool false] 4 (0, 0)) ∧ Below w0.heap.size w0 w' := by
  refine callsD_of_wpS Try.func42 rfl fun c₀ cs hu => ?_
  apply wpS_seq
  apply wpS_region
  simp [wpOpsS, go_sem, recoverD, hu, Try.ntmps42, Exit.thenS]
  refine wpS_of_wp ?_
  have hnq : ∀ W : World, (binOp .neq 20 (.iface 86 (.agg #[])) .nilIface).run Try.prog W = .ok (.bool true) W := fun _ => by kernel_rfl
  have hta : ∀ W : World, (Instr.typeAssert (.iface 86 (.agg #[])) 20 86 true).run Try.prog W = .ok (.tuple #[.agg #[], .bool true]) W := fun _ => by kernel_rfl
  obtain ⟨⟨a, v4, v9, hA⟩, hI, hB, lg, li⟩ := h
  obtain ⟨k0, k1, k2, k3, k4, k5, k6, k7, k8, k9⟩ := hA.ten
  have i0 : w.cell? ⟨i, 0, none⟩ = some (.bool false) := (blk_cell hI 0).trans rfl
  have hli : i < w.heap.size := blk_lt hI
  have hlg := hA.lt
  have hfr : (#[.pointer (some ⟨g, 0, none⟩), .pointer (some ⟨i, 0, none⟩)] ++ ((Array.replicate 15 undef).setIfInBounds 3 (Value.iface 86 (.agg #[]))).setIfInBounds 0 (Value.iface 86 (.agg #[])) : Array Value) = #[.pointer (some ⟨g, 0, none⟩), .pointer (some ⟨i, 0, none⟩), .iface 86 (.agg #[]), undef, undef, .iface 86 (.agg #[]), undef, undef, undef, undef, undef, undef, undef, undef, undef, undef, undef] := by rfl
  rw [hfr]
  clear hfr
  have f0 := hA.frz 0
  have f1 := hA.frz 1
  have f2 := hA.frz 2
  have f3 := hA.frz 3
  have f4 := hA.frz 4
  have f5 := hA.frz 5
  have f6 := hA.frz 6
  have f7 := hA.frz 7
  have f8 := hA.frz 8
  have f9 := hA.frz 9
  go_upto_region 5 with (fail)
  have hA1 : ActV (w.alloc (.cells #[] 86)) g a v4 v9 := hA.below (below_alloc (Below.refl _ _) _)
  have hI1 : (w.alloc (.cells #[] 86)).heap[i]? = some (.cells #[.bool false] 4 (0, 0)) := blk_alloc hI
  have hB1 : Below w0.heap.size w0 (w.alloc (.cells #[] 86)) := hB.alloc hB.size _
  generalize w.alloc (.cells #[] 86) = w1 at *
  have H := Aid.hide (And.intro hA1 (And.intro hI1 hB1))
  clear hA1 hI1 hB1 k0 k1 k2 k3 k4 k5 k6 k7 k8 k9 f0 f1 f2 f3 f4 f5 f6 f7 f8 f9 hA hI hB i0
  go_wp2_with ((with_reducible refine wpList_store_act (g := g) (a' := act0) (u4 := .slice none 0 0) (u9 := .slice none 0 0) rfl rfl (.tmp 0) (.tmp 16) rfl rfl rfl rfl rfl (Aid.unhide H).1 ?_); intro w2 hA2 hfar hsame; have hI2 := (hfar i (ty_ne (Aid.unhide H).2.1 (Aid.unhide H).1 (by decide))).trans (Aid.unhide H).2.1; have i2 : w2.cell? ⟨i, 0, none⟩ = some (.bool false) := (blk_cell hI2 0).trans rfl; have iz : w2.frozen? ⟨i, 0, none⟩ = false := by simp [World.frozen?, hI2])
  have hI3 : (w2.setCell ⟨i, 0, none⟩ (.bool false)).heap[i]? = some (.cells #[.bool false] 4 (0, 0)) := by rw [blk_set hI2]; rfl
  have hA3 : ActV (w2.setCell ⟨i, 0, none⟩ (.bool false)) g act0 (.slice none 0 0) (.slice none 0 0) := blk_far hA2 (ty_ne hA2 hI2 (by decide))
  have hB2 : Below w0.heap.size w0 w2 := (Aid.unhide H).2.2.trans ⟨hsame.1, hsame.2.1, hsame.2.2.1, Nat.le_of_eq hsame.2.2.2.symm, fun k hk => hfar k (by omega)⟩
  have hB3 := hB2.setCell (p := ⟨i, 0, none⟩) li (.bool false)
  simp [bodyPostS, results, Try.results42]
  exact ⟨hA3, hI3, hB3⟩
end Go.Proofs.Ytppgbahiolhgbaa
end
