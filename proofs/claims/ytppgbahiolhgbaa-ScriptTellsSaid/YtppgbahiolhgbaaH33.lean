/- Contracts and plain laws over the seat, laid together (group 33 of what the claim needs). -/
import Derived.Test.YtppgbahiolhgbaaH30
import Derived.Orders
import Derived.Below
import Derived.ProofKit
section
set_option linter.unusedVariables false
set_option linter.unusedSimpArgs false
namespace Go.Proofs.Ytppgbahiolhgbaa
open Go.RowKit Go.Proofs.YtppgbahiolhgbaaW.PrintWords Sp
open PScriptReads
def giveS (g : S48) : Bytes := numsB [g.f0] ++ textB (L g.f1)
def stepS (x : S51) : Bytes := numsB [x.f0, x.f1, x.f2, x.f3, x.f4] ++ textB (L x.f5) ++ numsB [(x.f6.length : Int)] ++ numsB x.f6
def pOrg (a : S37) : Bytes := if hOrg a.f0 = true then numsB [a.f1] else []
def pAud (a : S37) : Bytes := if hAud a.f0 = true then numsB [a.f2] else []
def pN (a : S37) : Bytes := if hN a.f0 = true then numsB [a.f3] else []
def pGives (a : S37) : Bytes := if hGives a.f0 = true then numsB [(a.f4.length : Int)] ++ a.f4.flatMap giveS else []
def pTxn (a : S37) : Bytes := if hTxn a.f0 = true then numsB [a.f5.f0, a.f5.f1, a.f5.f2] else []
def pYes (a : S37) : Bytes := if hYes a.f0 = true then [if a.f6 = true then 1 else 0] else []
def pSteps (a : S37) : Bytes := if hSteps a.f0 = true then numsB [(a.f7.length : Int)] ++ a.f7.flatMap stepS else []
def oneB (a : S37) : Bytes := [UInt8.ofNat a.f0.toNat] ++ pOrg a ++ pAud a ++ pN a ++ pGives a ++ pTxn a ++ pYes a ++ pSteps a
theorem mk_append (a b : Bytes) : mk (a ++ b) = mk a ++ mk b := L_inj (by rw [L_mk]; simp [L, mk])
theorem tcheck_len {l : Bytes} (h : tcheck l = 0) : l.length ≤ 16384 := by
  unfold tcheck tRead at h
  by_cases h1 : (tread 16 l).2 = 0
  · rw [if_neg (by simp [h1] : ¬ (tread 16 l).2 ≠ 0)] at h
    by_cases h2 : 16384 < (tread 16 l).1
    · rw [if_pos h2] at h
      simp at h
    · rw [if_neg h2] at h
      simp at h
      omega
  · rw [if_pos (by simpa using h1 : (tread 16 l).2 ≠ 0)] at h
    simp [h1] at h
theorem numOk_i {n : Int} (h : numOk n = true) : 0 ≤ n ∧ n ≤ 2147483647 := of_decide_eq_true h
theorem orgB_i {n : Int} (h : orgB n = true) : 0 ≤ n ∧ n ≤ 7 := of_decide_eq_true h
theorem may_facts {a : S37} (h : mayAct a = true) :
    (1 ≤ a.f0 ∧ a.f0 ≤ 10) ∧ (0 ≤ a.f1 ∧ a.f1 ≤ 7 ∧ 0 ≤ a.f2 ∧ a.f2 ≤ 7 ∧ 0 ≤ a.f3 ∧ a.f3 ≤ 2147483647 ∧ a.f4.length ≤ 6 ∧ a.f7.length ≤ 64 ∧ (0 ≤ a.f5.f0 ∧ a.f5.f0 ≤ 7 ∧ 0 ≤ a.f5.f1 ∧ a.f5.f1 ≤ 255 ∧ 0 ≤ a.f5.f2 ∧ a.f5.f2 ≤ 65535)) ∧
    (∀ g ∈ a.f4, 0 ≤ g.f0 ∧ g.f0 ≤ 7 ∧ g.f1.size ≤ 16384) ∧
    (∀ x ∈ a.f7, (1 ≤ x.f0 ∧ x.f0 ≤ 9) ∧ (0 ≤ x.f1 ∧ x.f1 ≤ 2147483647) ∧ (0 ≤ x.f2 ∧ x.f2 ≤ 2147483647) ∧ (0 ≤ x.f3 ∧ x.f3 ≤ 2147483647) ∧ (0 ≤ x.f4 ∧ x.f4 ≤ 2147483647) ∧ (∀ n ∈ x.f6, 0 ≤ n ∧ n ≤ 2147483647) ∧ x.f5.size ≤ 1024 ∧ x.f6.length ≤ 32) := by
  unfold mayAct at h
  rw [Bool.and_eq_true, Bool.and_eq_true, Bool.and_eq_true] at h
  obtain ⟨⟨⟨h1, h2⟩, h3⟩, h4⟩ := h
  unfold mayHead at h1
  simp only [Bool.and_eq_true, decide_eq_true_eq] at h1
  obtain ⟨⟨⟨⟨⟨⟨hd, hb⟩, ho⟩, ha⟩, hn⟩, hl4⟩, hl7⟩ := h1
  have ho := orgB_i ho
  have ha := orgB_i ha
  have hn := numOk_i hn
  have ht : (0 ≤ a.f5.f0 ∧ a.f5.f0 ≤ 7 ∧ 0 ≤ a.f5.f1 ∧ a.f5.f1 ≤ 255 ∧ 0 ≤ a.f5.f2 ∧ a.f5.f2 ≤ 65535) := by
    unfold mayTxnA at h2
    by_cases hk : a.f0 = 2 ∨ a.f0 = 9
    · have h2 : txnB a.f5.f0 a.f5.f1 a.f5.f2 = true := by simpa [hk] using h2
      unfold txnB at h2
      rw [Bool.and_eq_true] at h2
      have := orgB_i h2.1
      have := of_decide_eq_true h2.2
      omega
    · unfold bareA bareB at hb
      simp only [Bool.and_eq_true, Bool.or_eq_true, decide_eq_true_eq] at hb
      have := hb.1.1.1.2
      omega
  refine ⟨hd, ⟨ho.1, ho.2, ha.1, ha.2, hn.1, hn.2, hl4, hl7, ht⟩, fun g hg => ?_, fun x hx => ?_⟩
  · have h := List.all_eq_true.mp h3 g hg
    unfold giveB at h
    rw [Bool.and_eq_true] at h
    have h0 := orgB_i h.1
    have h1 := tcheck_len (by simpa using h.2)
    rw [L_len] at h1
    omega
  · have h := List.all_eq_true.mp h4 x hx
    unfold stepB at h
    simp only [Bool.and_eq_true, decide_eq_true_eq] at h
    obtain ⟨⟨⟨⟨⟨⟨⟨e0, e1⟩, e2⟩, e3⟩, e4⟩, e5⟩, e6⟩, e7⟩ := h
    exact ⟨e0, numOk_i e1, numOk_i e2, numOk_i e3, numOk_i e4, fun n hn => numOk_i (List.all_eq_true.mp e5 n hn), e6, e7⟩
section
variable (W : World) (b : Nat)
theorem nums1 (x : Int) (hb : b = W.heap.size) (h0 : 0 ≤ x ∧ x ≤ 2147483647) : Calls Try.prog 36 #[.slice (some ⟨b, 0, none⟩) 1 1] (W.alloc (.cells #[.int .i64 x] 3)) fun e w' => e = .returned (.string (mk (numsB [x]))) ∧ Below (W.alloc (.cells #[.int .i64 x] 3)).heap.size (W.alloc (.cells #[.int .i64 x] 3)) w' := by
  subst hb
  have h := nums36 (some ⟨W.heap.size, 0, none⟩) 1 [x] (W.alloc (.cells #[.int .i64 x] 3)) (C_lit W 3 .i64 [x] (by simp)) (by simp) (by intro y hy; simp at hy; subst hy; omega) (by simp)
  simpa using h
theorem nums3 (x y z : Int) (hb : b = W.heap.size) (hx : 0 ≤ x ∧ x ≤ 2147483647) (hy : 0 ≤ y ∧ y ≤ 2147483647) (hz : 0 ≤ z ∧ z ≤ 2147483647) : Calls Try.prog 36 #[.slice (some ⟨b, 0, none⟩) 3 3] (W.alloc (.cells #[.int .i64 x, .int .i64 y, .int .i64 z] 3)) fun e w' => e = .returned (.string (mk (numsB [x, y, z]))) ∧ Below (W.alloc (.cells #[.int .i64 x, .int .i64 y, .int .i64 z] 3)).heap.size (W.alloc (.cells #[.int .i64 x, .int .i64 y, .int .i64 z] 3)) w' := by
  subst hb
  have h := nums36 (some ⟨W.heap.size, 0, none⟩) 3 [x, y, z] (W.alloc (.cells #[.int .i64 x, .int .i64 y, .int .i64 z] 3)) (C_lit W 3 .i64 [x, y, z] (by simp)) (by simp) (by intro v hv; simp at hv; omega) (by simp)
  simpa using h
end
end Go.Proofs.Ytppgbahiolhgbaa
end
section
set_option linter.unusedVariables false
set_option linter.unusedSimpArgs false
namespace Go.Proofs.Ytppgbahiolhgbaa
open Go.RowKit Go.Proofs.YtppgbahiolhgbaaW.PrintWords Sp
open PScriptReads
theorem blk_of {W W1 : World} {b : Nat} {o : Obj} (h : W.heap[b]? = some o) (hb : Below W.heap.size W W1) : W1.heap[b]? = some o := (hb.block b (blk_lt h)).trans h
theorem blk_alloc {W : World} {b : Nat} {o o' : Obj} (h : W.heap[b]? = some o) : (W.alloc o').heap[b]? = some o := blk_of h (below_alloc (Below.refl _ _) _)
theorem blk_drew {W : World} {b : Nat} {o : Obj} (h : W.heap[b]? = some o) : W.drew.heap[b]? = some o := h
theorem blk_new {W : World} {b : Nat} {o : Obj} (h : b = W.heap.size) : (W.alloc o).heap[b]? = some o := by subst h; exact heap_alloc_new W o
theorem blk_set {W : World} {b o : Nat} {v : Value} {cs : Array Value} {t : TypeId} {fr : Nat × Nat} (h : W.heap[b]? = some (.cells cs t fr)) : (W.setCell ⟨b, o, none⟩ v).heap[b]? = some (.cells (cs.set! o v) t fr) := by
  simp [World.setCell, Array.getElem?_modify, h]
theorem blk_far {W : World} {b c o : Nat} {v : Value} {ob : Obj} (h : W.heap[b]? = some ob) (hne : b ≠ c) : (W.setCell ⟨c, o, none⟩ v).heap[b]? = some ob := (Below.heap_setCell W ⟨c, o, none⟩ v b hne).trans h
theorem flat_get {α β : Type} {f : α → List β} {m : Nat} : ∀ (xs : List α), (∀ x ∈ xs, (f x).length = m) → ∀ (j : Nat) (p : α), xs[j]? = some p → ∀ (i : Nat) (u : β), (f p)[i]? = some u → (xs.flatMap f)[j * m + i]? = some u := by
  intro xs
  induction xs with
  | nil => intro _ j p h; simp at h
  | cons x t ih =>
    intro hm j p hj i u hi
    have hx := hm x (List.mem_cons_self ..)
    rw [List.flatMap_cons]
    cases j with
    | zero =>
      simp only [List.getElem?_cons_zero, Option.some.injEq] at hj
      subst hj
      have : i < (f x).length := (List.getElem?_eq_some_iff.1 hi).1
      rw [Nat.zero_mul, Nat.zero_add, List.getElem?_append_left this]
      exact hi
    | succ j =>
      rw [List.getElem?_cons_succ] at hj
      have := ih (fun y hy => hm y (List.mem_cons_of_mem _ hy)) j p hj i u hi
      rw [List.getElem?_append_right (by rw [hx, Nat.succ_mul]; omega), hx, show (j + 1) * m + i - m = j * m + i from by rw [Nat.succ_mul]; omega]
      exact this
theorem C_block {α : Type} (d : Kd α) (f : α → List Value) {W : World} {b : Nat} {e : TypeId} (xs : List α) (hK : ∀ x ∈ xs, d.K W x (f x)) (hl : xs.length ≤ 9223372036854775807) (h : W.heap[b]? = some (.cells (xs.flatMap f).toArray e (0, 0))) : d.C W (some ⟨b, 0, none⟩) xs.length xs := by
  refine ⟨rfl, hl, fun _ => ⟨⟨b, 0, none⟩, rfl, fun j p hj => ⟨f p, d.K_len (hK p (List.mem_of_getElem? hj)), hK p (List.mem_of_getElem? hj), fun i u hi => ?_⟩⟩⟩
  have hg := flat_get xs (fun x hx => d.K_len (hK x hx)) j p hj i u hi
  have := blk_cell h (j * d.sz + i)
  simp only [List.getElem?_toArray] at this
  rw [hg] at this
  have e : (⟨b, 0, none⟩ : Addr).add (j * d.sz + i) = ⟨b, j * d.sz + i, none⟩ := by
    by_cases h0 : j * d.sz + i = 0
    · rw [h0]; rfl
    · unfold Addr.add; simp; omega
  rw [e]; exact this
theorem numsV_flat (xs : List Int) : nums .i64 xs = xs.flatMap (fun x => [Value.int .i64 x]) := by
  unfold nums
  induction xs with
  | nil => rfl
  | cons x t ih => simpa using ih
theorem C_ints {W : World} {b : Nat} {e : TypeId} (xs : List Int) (hl : xs.length ≤ 9223372036854775807) (h : W.heap[b]? = some (.cells (nums .i64 xs).toArray e (0, 0))) : (Kd.int .i64).C W (some ⟨b, 0, none⟩) xs.length xs :=
  C_block (Kd.int .i64) (fun x => [Value.int .i64 x]) xs (fun _ _ => rfl) hl (by rw [← numsV_flat]; exact h)
abbrev stC (x : S51) (v : Value) : Array Value := #[.int .u8 x.f0, .int .i64 x.f1, .int .i64 x.f2, .int .i64 x.f3, .int .i64 x.f4, .string x.f5, v]
def StepAt (W : World) (h : Nat) (x : S51) (v : Value) : Prop := W.heap[h]? = some (.cells (stC x v) 51 (0, 0))
structure Sev (W : World) (h : Nat) (x : S51) (v : Value) : Prop where
  s0 : W.cell? ⟨h, 0, none⟩ = some (.int .u8 x.f0)
  s1 : W.cell? ⟨h, 1, none⟩ = some (.int .i64 x.f1)
  s2 : W.cell? ⟨h, 2, none⟩ = some (.int .i64 x.f2)
  s3 : W.cell? ⟨h, 3, none⟩ = some (.int .i64 x.f3)
  s4 : W.cell? ⟨h, 4, none⟩ = some (.int .i64 x.f4)
  s5 : W.cell? ⟨h, 5, none⟩ = some (.string x.f5)
  s6 : W.cell? ⟨h, 6, none⟩ = some v
theorem StepAt.sev {W : World} {h : Nat} {x : S51} {v : Value} (k : StepAt W h x v) : Sev W h x v :=
  ⟨(blk_cell k 0).trans rfl, (blk_cell k 1).trans rfl, (blk_cell k 2).trans rfl, (blk_cell k 3).trans rfl, (blk_cell k 4).trans rfl, (blk_cell k 5).trans rfl, (blk_cell k 6).trans rfl⟩
theorem StepAt.below {W W1 : World} {h : Nat} {x : S51} {v : Value} (k : StepAt W h x v) (hb : Below W.heap.size W W1) : StepAt W1 h x v := (hb.block h (blk_lt k)).trans k
theorem StepAt.new (W : World) (x : S51) (v : Value) : StepAt (W.alloc (.cells (stC x v) 51)) W.heap.size x v := by unfold StepAt; simpa using heap_alloc_new W _
theorem nums1h (W : World) (b : Nat) (x : Int) (h : W.heap[b]? = some (.cells #[.int .i64 x] 3 (0, 0))) (h0 : 0 ≤ x ∧ x ≤ 2147483647) : Calls Try.prog 36 #[.slice (some ⟨b, 0, none⟩) 1 1] W fun e w' => e = .returned (.string (mk (numsB [x]))) ∧ Below W.heap.size W w' :=
  nums36 (some ⟨b, 0, none⟩) 1 [x] W (C_ints [x] (by simp) h) (by simp) (by intro y hy; simp at hy; subst hy; omega) (by simp)
theorem nums5h (W : World) (b : Nat) (x y z u v : Int) (h : W.heap[b]? = some (.cells #[.int .i64 x, .int .i64 y, .int .i64 z, .int .i64 u, .int .i64 v] 3 (0, 0))) (hx : ∀ t ∈ [x, y, z, u, v], 0 ≤ t ∧ t ≤ 2147483647) : Calls Try.prog 36 #[.slice (some ⟨b, 0, none⟩) 5 5] W fun e w' => e = .returned (.string (mk (numsB [x, y, z, u, v]))) ∧ Below W.heap.size W w' :=
  nums36 (some ⟨b, 0, none⟩) 5 [x, y, z, u, v] W (C_ints [x, y, z, u, v] (by simp) h) (by simp) (by intro t ht; have := hx t ht; omega) (by simp)
end Go.Proofs.Ytppgbahiolhgbaa
end
section
set_option linter.unusedVariables false
namespace Go.Proofs.Ytppgbahiolhgbaa.Reg
open Go.RowKit Go.WideShapes Go.ChangeShapes
section
variable {P : Program} {ops : Array Oper} {Q : Exit → Act → World → Prop}
structure RInv (ops : Array Oper) (G : Nat → Value → World → Prop) (a0 : Act) (w0 : World) (listed : Array Bool) (a : Act) (w : World) : Prop where
  closed : ∀ j oj, ops[j]? = some oj → listed.getD j false = true → ∀ e ∈ oj.after, Region.binds .any e = true → listed.getD e.on false = true
  size : listed.size = ops.size
  defers : a.defers = a0.defers
  tsize : a.tmps.size = a0.tmps.size
  old : ∀ t, (∀ i o, ops[i]? = some o → listed.getD i false = true → o.dst ≠ some t) → a.tmps[t]? = a0.tmps[t]?
  new : ∀ i o d, ops[i]? = some o → listed.getD i false = true → o.dst = some d → ∃ v, a.tmps[d]? = some v ∧ G i v w
  below : Below w0.heap.size w0 w
def okB (ops : Array Oper) (n : Nat) : Bool :=
  (List.range ops.size).all fun i => match ops[i]? with
    | some o => o.guard.isNone && o.after.all (fun e => decide (e.on < i)) && (match o.dst with
      | some d => decide (d < n) && (List.range ops.size).all fun j => j == i || match ops[j]? with
        | some o' => o'.dst != some d
        | none => true
      | none => false)
    | none => false
theorem okB_spec {n : Nat} (h : okB ops n = true) {i : Nat} {o : Oper} (ho : ops[i]? = some o) :
    o.guard = none ∧ (∀ e ∈ o.after, e.on < i) ∧ ∃ d, o.dst = some d ∧ d < n ∧ ∀ j o', ops[j]? = some o' → j ≠ i → o'.dst ≠ some d := by
  have hlt : i < ops.size := (Array.getElem?_eq_some_iff.1 ho).1
  have h1 := List.all_eq_true.1 h i (List.mem_range.2 hlt)
  simp only [ho, Bool.and_eq_true] at h1
  obtain ⟨⟨hg, ha⟩, hd⟩ := h1
  refine ⟨by simpa using hg, fun e he => ?_, ?_⟩
  · have := Array.all_eq_true_iff_forall_mem.1 ha e he
    simpa using this
  · cases hdst : o.dst with
    | none => rw [hdst] at hd; simp at hd
    | some d =>
      rw [hdst] at hd
      simp only [Bool.and_eq_true, decide_eq_true_eq] at hd
      refine ⟨d, rfl, hd.1, fun j o' hj hne => ?_⟩
      have hjl : j < ops.size := (Array.getElem?_eq_some_iff.1 hj).1
      have := List.all_eq_true.1 hd.2 j (List.mem_range.2 hjl)
      simpa [hj, hne] using this
def waitsB (ops : Array Oper) (i : Nat) : Nat → Nat → Bool
  | 0, _ => false
  | fuel + 1, d => match ops[d]? with
    | some o => o.after.any fun e => Region.binds .any e && (e.on == i || waitsB ops i fuel e.on)
    | none => false
theorem waits_listed {listed : Array Bool} {i : Nat} (hc : ∀ j oj, ops[j]? = some oj → listed.getD j false = true → ∀ e ∈ oj.after, Region.binds .any e = true → listed.getD e.on false = true) :
    ∀ (fuel d : Nat), waitsB ops i fuel d = true → listed.getD d false = true → listed.getD i false = true := by
  intro fuel
  induction fuel with
  | zero => intro d h _; simp [waitsB] at h
  | succ fuel ih =>
    intro d h hl
    unfold waitsB at h
    cases ho : ops[d]? with
    | none => rw [ho] at h; simp at h
    | some o =>
      rw [ho] at h
      obtain ⟨e, he, h1⟩ := Array.any_eq_true'.1 h
      simp only [Bool.and_eq_true, Bool.or_eq_true, beq_iff_eq] at h1
      have hle := hc d o ho hl e he h1.1
      rcases h1.2 with h2 | h2
      · rw [← h2]; exact hle
      · exact ih e.on h2 hle
theorem waits_ready {listed : Array Bool} {i d fuel : Nat} (hc : ∀ j oj, ops[j]? = some oj → listed.getD j false = true → ∀ e ∈ oj.after, Region.binds .any e = true → listed.getD e.on false = true)
    (h : waitsB ops i fuel d = true) (hr : d ∈ Region.ready .any ops listed) : listed.getD i false = true := by
  obtain ⟨_, o, ho, hall⟩ := mem_ready.1 hr
  cases fuel with
  | zero => simp [waitsB] at h
  | succ n =>
    unfold waitsB at h
    rw [ho] at h
    obtain ⟨e, he, h1⟩ := Array.any_eq_true'.1 h
    simp only [Bool.and_eq_true, Bool.or_eq_true, beq_iff_eq] at h1
    have hle := hall e he h1.1
    rcases h1.2 with h2 | h2
    · rw [← h2]; exact hle
    · exact waits_listed hc n e.on h2 hle
def oldB (ops : Array Oper) (i t : Nat) : Bool :=
  (List.range ops.size).all fun j => match ops[j]? with
    | some o => o.dst != some t || j == i || waitsB ops i ops.size j
    | none => true
def newB (ops : Array Oper) (i t j : Nat) : Bool :=
  (match ops[j]? with | some o => o.dst == some t | none => false) && waitsB ops j ops.size i
variable {G : Nat → Value → World → Prop} {a0 a : Act} {w0 w : World} {listed : Array Bool}
theorem RInv.get_old (h : RInv ops G a0 w0 listed a w) {i : Nat} (hr : i ∈ Region.ready .any ops listed) (t : Nat) (hb : oldB ops i t = true) : a.eval (.tmp t) = a0.eval (.tmp t) := by
  have hu := (mem_ready.1 hr).1
  have hu' : listed.getD i false = false := by
    rcases Nat.lt_or_ge i listed.size with h' | h'
    · simp [h'] at hu ⊢; exact hu
    · simp [Array.getElem?_eq_none h'] at hu
  have := h.old t (fun j o hj hl he => by
    have hjl : j < ops.size := (Array.getElem?_eq_some_iff.1 hj).1
    have h1 := List.all_eq_true.1 hb j (List.mem_range.2 hjl)
    simp only [hj, he, bne_self_eq_false, Bool.false_or, Bool.or_eq_true, beq_iff_eq] at h1
    rcases h1 with h1 | h1
    · subst h1; rw [hl] at hu'; exact absurd hu' (by simp)
    · have := waits_listed h.closed _ _ h1 hl
      rw [this] at hu'; exact absurd hu' (by simp))
  simp only [Act.eval, Array.getD_eq_getD_getElem?, this]
theorem RInv.get_new (h : RInv ops G a0 w0 listed a w) {i : Nat} (hr : i ∈ Region.ready .any ops listed) (t j : Nat) (hb : newB ops i t j = true) : G j (a.eval (.tmp t)) w := by
  unfold newB at hb
  rw [Bool.and_eq_true] at hb
  obtain ⟨h1, h2⟩ := hb
  cases ho : ops[j]? with
  | none => rw [ho] at h1; simp at h1
  | some o =>
    rw [ho] at h1
    obtain ⟨v, hv, hg⟩ := h.new j o t ho (waits_ready h.closed h2 hr) (by simpa using h1)
    simpa only [Act.eval, Array.getD_eq_getD_getElem?, hv, Option.getD_some] using hg
theorem RInv.step {n : Nat} (hok : okB ops n = true) (hn : a0.tmps.size = n) (hG : ∀ i v W W', G i v W → Below W.heap.size W W' → G i v W') (h : RInv ops G a0 w0 listed a w) {i : Nat} {o : Oper} (ho : ops[i]? = some o) (hr : i ∈ Region.ready .any ops listed)
    {v : Value} {w' : World} (hg : G i v w') (hb : Below w.heap.size w w') : RInv ops G a0 w0 (listed.setIfInBounds i true) (a.put o.dst v) w' := by
  obtain ⟨hgd, haf, d, hd, hdn, hun⟩ := okB_spec hok ho
  obtain ⟨hu, o', ho', hall⟩ := mem_ready.1 hr
  have : o' = o := Option.some.inj (ho'.symm.trans ho)
  subst this
  have hil : i < listed.size := by rw [h.size]; exact (Array.getElem?_eq_some_iff.1 ho).1
  rw [hd]
  refine ⟨?_, by simp [h.size], h.defers, by simp [Act.put, h.tsize], ?_, ?_, h.below.trans (hb.mono h.below.size)⟩
  · intro j oj hj hl e he hbd
    by_cases hij : i = j
    · subst hij
      have : oj = o' := Option.some.inj (hj.symm.trans ho)
      subst this
      exact getD_set_true (hall e he hbd)
    · rw [getD_set_ne false hij] at hl
      exact getD_set_true (h.closed j oj hj hl e he hbd)
  · intro t ht
    have h1 : d ≠ t := fun e => ht i o' ho (by simp [hil]) (by rw [hd, e])
    have := h.old t (fun j oj hj hl => ht j oj hj (getD_set_true hl))
    simpa [Act.put, Array.getElem?_setIfInBounds_ne h1] using this
  · intro j oj dj hj hl hdj
    by_cases hij : i = j
    · subst hij
      have : oj = o' := Option.some.inj (hj.symm.trans ho)
      subst this
      have : dj = d := by rw [hd] at hdj; exact (Option.some.inj hdj).symm
      subst this
      exact ⟨v, by simp [Act.put, h.tsize, hn, hdn], hg⟩
    · rw [getD_set_ne false hij] at hl
      obtain ⟨u, hu1, hu2⟩ := h.new j oj dj hj hl hdj
      have h1 : d ≠ dj := fun e => hun j oj hj (Ne.symm hij) (by rw [hdj, e])
      exact ⟨u, by simpa [Act.put, Array.getElem?_setIfInBounds_ne h1] using hu1, hG j u w w' hu2 hb⟩
def fin (ops : List Oper) (a : Act) (vals : Nat → Value) (k : Nat) : Act :=
  match ops with
  | [] => a
  | o :: r => fin r (a.put o.dst (vals k)) vals (k + 1)
theorem fin_spec : ∀ (l : List Oper) (a : Act) (vals : Nat → Value) (k : Nat), (∀ o ∈ l, ∃ d, o.dst = some d ∧ d < a.tmps.size) → (∀ (i j : Nat) (o o' : Oper), l[i]? = some o → l[j]? = some o' → i ≠ j → o.dst ≠ o'.dst) →
    (fin l a vals k).defers = a.defers ∧ (fin l a vals k).tmps.size = a.tmps.size ∧ (∀ t, (∀ o ∈ l, o.dst ≠ some t) → (fin l a vals k).tmps[t]? = a.tmps[t]?) ∧ (∀ i o d, l[i]? = some o → o.dst = some d → (fin l a vals k).tmps[d]? = some (vals (k + i))) := by
  intro l
  induction l with
  | nil => intro a vals k _ _; exact ⟨rfl, rfl, fun _ _ => rfl, fun i o d h => by simp at h⟩
  | cons o r ih =>
    intro a vals k h1 h2
    obtain ⟨d, hd, hdl⟩ := h1 o (List.mem_cons_self ..)
    have hput : (a.put o.dst (vals k)).tmps.size = a.tmps.size := by rw [hd]; simp [Act.put]
    obtain ⟨i1, i2, i3, i4⟩ := ih (a.put o.dst (vals k)) vals (k + 1) (fun o' ho' => by rw [hput]; exact h1 o' (List.mem_cons_of_mem _ ho')) (fun i j p p' hi hj hne => h2 (i + 1) (j + 1) p p' (by simpa using hi) (by simpa using hj) (by omega))
    refine ⟨by rw [fin, i1, hd]; rfl, by rw [fin, i2, hput], fun t ht => ?_, fun i p e hp he => ?_⟩
    · rw [fin, i3 t (fun p hp => ht p (List.mem_cons_of_mem _ hp)), hd]
      have : d ≠ t := fun e => ht o (List.mem_cons_self ..) (by rw [hd, e])
      simp [Act.put, Array.getElem?_setIfInBounds_ne this]
    · cases i with
      | zero =>
        simp only [List.getElem?_cons_zero, Option.some.injEq] at hp
        subst hp
        rw [hd] at he
        injection he with he
        subst he
        rw [fin, i3 d (fun p hp e => by
          obtain ⟨j, hj⟩ := List.getElem?_of_mem hp
          exact h2 0 (j + 1) o p rfl (by simpa using hj) (by omega) (by rw [hd, e])), hd]
        simp [Act.put, hdl]
      | succ i =>
        rw [List.getElem?_cons_succ] at hp
        rw [fin, i4 i p e hp he]
        congr 2; omega
theorem act_ext {x y : Act} (h1 : x.tmps = y.tmps) (h2 : x.defers = y.defers) : x = y := by
  cases x; cases y; simp only at h1 h2; rw [h1, h2]
theorem RInv.finish {n : Nat} (hok : okB ops n = true) (hn : a0.tmps.size = n) (h : RInv ops G a0 w0 listed a w) (hr : Region.ready .any ops listed = []) : ∃ vals : Nat → Value, a = fin ops.toList a0 vals 0 ∧ ∀ i, i < ops.size → G i (vals i) w := by
  have hall : ∀ i, i < ops.size → listed.getD i false = true := by
    intro i
    induction i using Nat.strongRecOn with
    | _ i ih =>
      intro hi
      cases hl : listed.getD i false with
      | true => rfl
      | false =>
        exfalso
        have ho : ops[i]? = some ops[i] := by simp [hi]
        have hm : i ∈ Region.ready .any ops listed := mem_ready.2 ⟨by
          have : i < listed.size := by rw [h.size]; exact hi
          simp [this] at hl ⊢; exact hl, _, ho, fun e he hb => ih e.on ((okB_spec hok ho).2.1 e he) (Nat.lt_trans ((okB_spec hok ho).2.1 e he) hi)⟩
        rw [hr] at hm
        cases hm
  have hex : ∀ i, ∃ v, i < ops.size → (∀ o d, ops[i]? = some o → o.dst = some d → a.tmps[d]? = some v) ∧ G i v w := by
    intro i
    by_cases hi : i < ops.size
    · have ho : ops[i]? = some ops[i] := by simp [hi]
      obtain ⟨_, _, d, hd, _, _⟩ := okB_spec hok ho
      obtain ⟨v, h1, h2⟩ := h.new i _ d ho (hall i hi) hd
      refine ⟨v, fun _ => ⟨fun o d' ho' hd' => ?_, h2⟩⟩
      have : o = ops[i] := Option.some.inj (ho'.symm.trans ho)
      subst this
      rw [hd] at hd'
      injection hd' with hd'
      subst hd'
      exact h1
    · exact ⟨undef, fun h => absurd h hi⟩
  refine ⟨fun i => Classical.choose (hex i), ?_, fun i hi => (Classical.choose_spec (hex i) hi).2⟩
  have hl : ∀ i o, ops.toList[i]? = some o ↔ ops[i]? = some o := fun i o => by rw [Array.getElem?_toList]
  obtain ⟨f1, f2, f3, f4⟩ := fin_spec ops.toList a0 (fun i => Classical.choose (hex i)) 0 (fun o ho => by
      obtain ⟨i, hi⟩ := List.getElem?_of_mem ho
      obtain ⟨_, _, d, hd, hdn, _⟩ := okB_spec hok ((hl i o).1 hi)
      exact ⟨d, hd, by rw [hn]; exact hdn⟩)
    (fun i j o o' hi hj hne e => by
      obtain ⟨_, _, d, hd, hdn, hun⟩ := okB_spec hok ((hl i o).1 hi)
      exact hun j o' ((hl j o').1 hj) (Ne.symm hne) (by rw [← e]; exact hd))
  have e1 : a.tmps = (fin ops.toList a0 (fun i => Classical.choose (hex i)) 0).tmps := by
    apply Array.ext_getElem?
    intro t
    by_cases ht : ∃ (i : Nat) (o : Oper), ops[i]? = some o ∧ o.dst = some t
    · obtain ⟨i, o, ho, hd⟩ := ht
      have hi : i < ops.size := (Array.getElem?_eq_some_iff.1 ho).1
      rw [f4 i o t ((hl i o).2 ho) hd, Nat.zero_add]
      exact (Classical.choose_spec (hex i) hi).1 o t ho hd
    · rw [f3 t (fun o ho e => by
        obtain ⟨i, hi⟩ := List.getElem?_of_mem ho
        exact ht ⟨i, o, (hl i o).1 hi, e⟩)]
      exact h.old t (fun i o ho _ e => ht ⟨i, o, ho, e⟩)
  have e2 : a.defers = (fin ops.toList a0 (fun i => Classical.choose (hex i)) 0).defers := by rw [f1, h.defers]
  exact act_ext e1 e2
theorem wp_region_inv {id n : Nat} {a0 : Act} {w0 : World} (G : Nat → Value → World → Prop) (hm : P.follows .mixedOrders = true) (hok : okB ops n = true) (hn : a0.tmps.size = n) (hG : ∀ i v W W', G i v W → Below W.heap.size W W' → G i v W')
    (hstep : ∀ (i : Nat) (o : Oper), ops[i]? = some o → ∀ (listed : Array Bool) (a : Act) (w : World), i ∈ Region.ready .any ops listed → RInv ops G a0 w0.drew listed a w →
      ∀ K : Act → World → Prop, (∀ v w', G i v w' → Below w.heap.size w w' → K (a.put o.dst v) w') → o.wp P a w K Q)
    (hend : ∀ (vals : Nat → Value) (w : World), (∀ i, i < ops.size → G i (vals i) w) → Below w0.drew.heap.size w0.drew w → Q .normal (fin ops.toList a0 vals 0) w) : (Code.region id ops true).wp P Q a0 w0 := by
  refine wp_region_any hm ?_
  have main : ∀ (fuel : Nat) (listed : Array Bool) (a : Act) (w : World) (U : List Nat), (∀ i, i < ops.size → listed.getD i false = false → i ∈ U) → U.length ≤ fuel → RInv ops G a0 w0.drew listed a w → wpAny P .any ops Q fuel listed a w := by
    have done : ∀ (listed : Array Bool) (a : Act) (w : World), RInv ops G a0 w0.drew listed a w → Region.ready .any ops listed = [] → Q .normal a w := by
      intro listed a w hI hr
      obtain ⟨vals, he, hg⟩ := hI.finish hok hn hr
      rw [he]
      exact hend vals w hg hI.below
    intro fuel
    induction fuel with
    | zero =>
      intro listed a w U hU hl hI
      have hr : Region.ready .any ops listed = [] := by
        apply List.eq_nil_iff_forall_not_mem.2
        intro i hi
        obtain ⟨h0, o, ho, _⟩ := mem_ready.1 hi
        have hil : i < ops.size := (Array.getElem?_eq_some_iff.1 ho).1
        have hil' : i < listed.size := by rw [hI.size]; exact hil
        have := hU i hil (by simp [hil'] at h0 ⊢; exact h0)
        have hz : U = [] := List.eq_nil_of_length_eq_zero (by omega)
        rw [hz] at this
        cases this
      exact ⟨hr, done listed a w hI hr⟩
    | succ fuel ih =>
      intro listed a w U hU hl hI
      refine ⟨done listed a w hI, fun i hi => ?_⟩
      obtain ⟨h0, o, ho, _⟩ := mem_ready.1 hi
      have hil : i < ops.size := (Array.getElem?_eq_some_iff.1 ho).1
      have hil' : i < listed.size := by rw [hI.size]; exact hil
      have hmem := hU i hil (by simp [hil'] at h0 ⊢; exact h0)
      unfold wpOp
      rw [ho]
      simp only
      have hw : Region.wanted o (yielded ops a.tmps) = true := by unfold Region.wanted; rw [(okB_spec hok ho).1]
      rw [if_pos hw]
      refine .inl (hstep i o ho listed a w hi hI _ (fun v w' hg hb => ih _ _ _ (U.erase i) (fun j hj hlj => ?_) ?_ (hI.step hok hn hG ho hi hg hb)))
      · by_cases hij : i = j
        · subst hij; simp [hil'] at hlj
        · rw [getD_set_ne false hij] at hlj
          exact (List.mem_erase_of_ne (Ne.symm hij)).2 (hU j hj hlj)
      · rw [List.length_erase_of_mem hmem]; omega
  refine main ops.size _ a0 _ (List.range ops.size) (fun i hi _ => List.mem_range.2 hi) (by simp) ⟨?_, by simp, rfl, rfl, fun _ _ => rfl, ?_, Below.refl _ _⟩
  · intro j oj hj hl
    have : (Array.replicate ops.size false).getD j false = false := by
      simp only [Array.getD_eq_getD_getElem?, Array.getElem?_replicate]
      split <;> rfl
    rw [this] at hl
    cases hl
  · intro i o d hi hl
    have : (Array.replicate ops.size false).getD i false = false := by
      simp only [Array.getD_eq_getD_getElem?, Array.getElem?_replicate]
      split <;> rfl
    rw [this] at hl
    cases hl
end
end Go.Proofs.Ytppgbahiolhgbaa.Reg
namespace Go.Proofs.Ytppgbahiolhgbaa.Reg
open Go.RowKit Go.WideShapes Go.ChangeShapes
def lit (c : Value) : Value → World → Prop := fun v _ => v = c
def newb (T : TypeId) (cs : Array Value) : Value → World → Prop := fun v W => ∃ b, v = .slice (some ⟨b, 0, none⟩) cs.size cs.size ∧ W.heap[b]? = some (.cells cs T (0, 0))
def Stable (s : Value → World → Prop) : Prop := ∀ v W W', s v W → Below W.heap.size W W' → s v W'
theorem lit_stable (c : Value) : Stable (lit c) := fun _ _ _ h _ => h
theorem newb_stable (T : TypeId) (cs : Array Value) : Stable (newb T cs) := fun v W W' ⟨b, h1, h2⟩ hb => ⟨b, h1, by
  have hlt : b < W.heap.size := by
    rcases Nat.lt_or_ge b W.heap.size with h | h
    · exact h
    · rw [Array.getElem?_eq_none h] at h2; cases h2
  exact (hb.block b hlt).trans h2⟩
def GS (l : List (Value → World → Prop)) : Nat → Value → World → Prop := fun i v W => (l[i]?.getD (fun _ _ => True)) v W
theorem GS_stable {l : List (Value → World → Prop)} (h : ∀ s ∈ l, Stable s) : ∀ i v W W', GS l i v W → Below W.heap.size W W' → GS l i v W' := by
  intro i v W W' hg hb
  unfold GS at *
  cases hi : l[i]? with
  | none => trivial
  | some s =>
    rw [hi] at hg
    exact h s (List.mem_of_getElem? hi) v W W' hg hb
def All (p : Nat → Oper → Prop) : List Oper → Nat → Prop
  | [], _ => True
  | o :: r, k => p k o ∧ All p r (k + 1)
theorem All.get {p : Nat → Oper → Prop} : ∀ (l : List Oper) (k : Nat), All p l k → ∀ i o, l[i]? = some o → p (k + i) o := by
  intro l
  induction l with
  | nil => intro k _ i o h; simp at h
  | cons x r ih =>
    intro k h i o hi
    cases i with
    | zero => simp only [List.getElem?_cons_zero, Option.some.injEq] at hi; subst hi; exact h.1
    | succ i =>
      rw [List.getElem?_cons_succ] at hi
      have := ih (k + 1) h.2 i o hi
      rw [show k + (i + 1) = k + 1 + i from by omega]; exact this
theorem op_value {P : Program} {o : Oper} {a : Act} {w w' : World} {K : Act → World → Prop} {Q : Exit → Act → World → Prop} {v : Value} (h : (execOp a.eval o).run P w = .ok (.value v) w') (hk : K (a.put o.dst v) w') : o.wp P a w K Q := by
  unfold Oper.wp; rw [h]; exact hk
theorem op_call {P : Program} {o : Oper} {a : Act} {w w' : World} {K : Act → World → Prop} {Q : Exit → Act → World → Prop} {f : FuncId} {args : Array Value} {r : Value} (h : (execOp a.eval o).run P w = .ok (.enter f args) w')
    (hc : Calls P f args w' fun e w'' => e = .returned r ∧ Below w'.heap.size w' w'') (hk : ∀ w'', Below w'.heap.size w' w'' → K (a.put o.dst r) w'') : o.wp P a w K Q := by
  unfold Oper.wp; rw [h]
  exact hc.mono (fun e w'' ⟨he, hb⟩ => by subst he; exact hk w'' hb)
end Go.Proofs.Ytppgbahiolhgbaa.Reg
namespace Go.Proofs.Ytppgbahiolhgbaa.Reg
open Go.RowKit Go.WideShapes Go.ChangeShapes
def StepOK (P : Program) (ops : Array Oper) (Q : Exit → Act → World → Prop) (G : Nat → Value → World → Prop) (a0 : Act) (w0 : World) (i : Nat) (o : Oper) : Prop :=
  ∀ (listed : Array Bool) (a : Act) (w : World), i ∈ Region.ready .any ops listed → RInv ops G a0 w0.drew listed a w → ∀ K : Act → World → Prop, (∀ v w', G i v w' → Below w.heap.size w w' → K (a.put o.dst v) w') → o.wp P a w K Q
theorem below_dr {w W : World} (h : Below w.drew.heap.size w.drew W) : Below w.heap.size w W := ⟨h.os, h.tape, h.output, h.size, h.block⟩
theorem wp_region_inv' {P : Program} {ops : Array Oper} {Q : Exit → Act → World → Prop} {id n : Nat} {a0 : Act} {w0 : World} (l : List (Value → World → Prop)) (hm : P.follows .mixedOrders = true) (hok : okB ops n = true) (hn : a0.tmps.size = n) (hG : ∀ s ∈ l, Stable s)
    (hstep : All (StepOK P ops Q (GS l) a0 w0) ops.toList 0)
    (hend : ∀ (vals : Nat → Value) (w : World), (∀ i, i < ops.size → GS l i (vals i) w) → Below w0.drew.heap.size w0.drew w → Q .normal (fin ops.toList a0 vals 0) w) : (Code.region id ops true).wp P Q a0 w0 :=
  wp_region_inv (GS l) hm hok hn (GS_stable hG) (fun i o ho => by have := hstep.get ops.toList 0 i o (by rw [Array.getElem?_toList]; exact ho); rwa [Nat.zero_add] at this) hend
end Go.Proofs.Ytppgbahiolhgbaa.Reg
end
section
set_option linter.unusedVariables false
set_option linter.unusedSimpArgs false
namespace Go.Proofs.Ytppgbahiolhgbaa.Reg
open Go.RowKit Go.WideShapes Go.ChangeShapes
section
variable {a : Act} {o : Oper} {w : World}
theorem cf36 (args : Array Value) (w : World) : (callFunc 36 args).run Try.prog w = .ok (.enter 36 args) w := by kernel_rfl
theorem cf37 (args : Array Value) (w : World) : (callFunc 37 args).run Try.prog w = .ok (.enter 37 args) w := by kernel_rfl
theorem run_call1 {f : FuncId} (hcf : ∀ (args : Array Value) (w : World), (callFunc f args).run Try.prog w = .ok (.enter f args) w) {x : Operand} {v : Value} {ty : Array TypeId} (ho : o.op = .call { callee := .value (.func f), args := #[x], argTypes := ty }) (hx : a.eval x = v) : (execOp a.eval o).run Try.prog w = .ok (.enter f #[v]) w := by
  have hf : a.eval (.func f) = .func (.func f) #[] #[] := rfl
  unfold execOp
  rw [ho]
  simp only [resolve, List.map_toArray, List.map_cons, List.map_nil, hx, hf]
  simp [go_sem, hcf]
theorem run_len {x : Operand} {A : Option Addr} {n c : Nat} (ho : o.op = .call { callee := .builtin .len, args := #[x], argTypes := #[49] }) (ht : o.type = 3) (hx : a.eval x = .slice A n c) : (execOp a.eval o).run Try.prog w = .ok (.value (.int .i64 n)) w := by
  unfold execOp
  rw [ho]
  simp only [resolve, List.map_toArray, List.map_cons, List.map_nil, hx, ht]
  simp [go_sem]
  done
theorem run_build1 {x : Operand} {v : Int} (ho : o.op = .buildSlice 49 1 #[(0, x)]) (hx : a.eval x = .int .i64 v) : (execOp a.eval o).run Try.prog w = .ok (.value (.slice (some ⟨w.heap.size, 0, none⟩) 1 1)) (w.alloc (.cells #[.int .i64 v] 3)) := by
  unfold execOp
  rw [ho]
  simp only [List.map_toArray, List.map_cons, List.map_nil, hx]
  simp [go_sem]
  done
theorem run_build5 {x y z t u : Operand} {v0 v1 v2 v3 v4 : Int} (ho : o.op = .buildSlice 49 5 #[(0, x), (1, y), (2, z), (3, t), (4, u)]) (h0 : a.eval x = .int .i64 v0) (h1 : a.eval y = .int .i64 v1) (h2 : a.eval z = .int .i64 v2) (h3 : a.eval t = .int .i64 v3) (h4 : a.eval u = .int .i64 v4) :
    (execOp a.eval o).run Try.prog w = .ok (.value (.slice (some ⟨w.heap.size, 0, none⟩) 5 5)) (w.alloc (.cells #[.int .i64 v0, .int .i64 v1, .int .i64 v2, .int .i64 v3, .int .i64 v4] 3)) := by
  unfold execOp
  rw [ho]
  simp only [List.map_toArray, List.map_cons, List.map_nil, h0, h1, h2, h3, h4]
  simp [go_sem]
  done
theorem run_add {x y : Operand} {s t : ByteArray} (ho : o.op = .binOp .add 9 x y 9) (hx : a.eval x = .string s) (hy : a.eval y = .string t) (h : s.size + t.size ≤ 9223372036854775807) : (execOp a.eval o).run Try.prog w = .ok (.value (.string (s ++ t))) w := by
  have hu9 : Try.prog.underlying 9 = some (.string) := by kernel_rfl
  unfold execOp
  rw [ho]
  simp only [hx, hy]
  simp [go_sem, hu9, h]
end
end Go.Proofs.Ytppgbahiolhgbaa.Reg
end
