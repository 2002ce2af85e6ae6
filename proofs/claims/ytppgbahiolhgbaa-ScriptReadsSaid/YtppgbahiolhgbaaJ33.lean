/- Contracts and plain laws over the seat, laid together (group 33 of what the claim needs). -/
import Derived.Test.YtppgbahiolhgbaaJ32
import Derived.Deep.RegionLaw
import Derived.Outline
import Derived.Deep.AppendLies
import Derived.Test.YtppgbahiolhgbaaJ27
import Derived.Deep.RegionHeld3
import Derived.Deep.DrawnRows
import Derived.StillTailTactics
import Derived.Laws.MakeOwn
section
set_option linter.unusedVariables false
set_option linter.unusedSimpArgs false
namespace Go.Proofs.Ytppgbahiolhgbaa
open Go.RowKit Go.Proofs.YtppgbahiolhgbaaW.PrintWords Sp
open PScriptReads
def giveS (g : S48) : Bytes := numsB [g.f0] ++ textB (L g.f1)
def stepS (x : S51) : Bytes := numsB [x.f0, x.f1, x.f2, x.f3, x.f4] ++ textB (L x.f5) ++ numsB [(x.f6.length : Int)] ++ numsB x.f6
def pOrg (a : S37) : Bytes := if hOrg a.f0 = true then numsB [a.f1] else []
def pAud (a : S37) : Bytes := if hAud a.f0 = true then numsB [a.f2] else []
def pN (a : S37) : Bytes := if hN a.f0 = true then numsB [a.f3] else []
def pGives (a : S37) : Bytes := if hGives a.f0 = true then numsB [(a.f4.length : Int)] ++ a.f4.flatMap giveS else []
def pTxn (a : S37) : Bytes := if hTxn a.f0 = true then numsB [a.f5.f0, a.f5.f1, a.f5.f2] else []
def pYes (a : S37) : Bytes := if hYes a.f0 = true then [if a.f6 = true then 1 else 0] else []
def pSteps (a : S37) : Bytes := if hSteps a.f0 = true then numsB [(a.f7.length : Int)] ++ a.f7.flatMap stepS else []
def oneB (a : S37) : Bytes := [UInt8.ofNat a.f0.toNat] ++ pOrg a ++ pAud a ++ pN a ++ pGives a ++ pTxn a ++ pYes a ++ pSteps a
theorem mk_append (a b : Bytes) : mk (a ++ b) = mk a ++ mk b := L_inj (by rw [L_mk]; simp [L, mk])
theorem tcheck_len {l : Bytes} (h : tcheck l = 0) : l.length ≤ 16384 := by
  unfold tcheck tRead at h
  by_cases h1 : (tread 16 l).2 = 0
  · rw [if_neg (by simp [h1] : ¬ (tread 16 l).2 ≠ 0)] at h
    by_cases h2 : 16384 < (tread 16 l).1
    · rw [if_pos h2] at h
      simp at h
    · rw [if_neg h2] at h
      simp at h
      omega
  · rw [if_pos (by simpa using h1 : (tread 16 l).2 ≠ 0)] at h
    simp [h1] at h
theorem numOk_i {n : Int} (h : numOk n = true) : 0 ≤ n ∧ n ≤ 2147483647 := of_decide_eq_true h
theorem orgB_i {n : Int} (h : orgB n = true) : 0 ≤ n ∧ n ≤ 7 := of_decide_eq_true h
theorem may_facts {a : S37} (h : mayAct a = true) :
    (1 ≤ a.f0 ∧ a.f0 ≤ 10) ∧ (0 ≤ a.f1 ∧ a.f1 ≤ 7 ∧ 0 ≤ a.f2 ∧ a.f2 ≤ 7 ∧ 0 ≤ a.f3 ∧ a.f3 ≤ 2147483647 ∧ a.f4.length ≤ 6 ∧ a.f7.length ≤ 64 ∧ (0 ≤ a.f5.f0 ∧ a.f5.f0 ≤ 7 ∧ 0 ≤ a.f5.f1 ∧ a.f5.f1 ≤ 255 ∧ 0 ≤ a.f5.f2 ∧ a.f5.f2 ≤ 65535)) ∧
    (∀ g ∈ a.f4, 0 ≤ g.f0 ∧ g.f0 ≤ 7 ∧ g.f1.size ≤ 16384) ∧
    (∀ x ∈ a.f7, (1 ≤ x.f0 ∧ x.f0 ≤ 9) ∧ (0 ≤ x.f1 ∧ x.f1 ≤ 2147483647) ∧ (0 ≤ x.f2 ∧ x.f2 ≤ 2147483647) ∧ (0 ≤ x.f3 ∧ x.f3 ≤ 2147483647) ∧ (0 ≤ x.f4 ∧ x.f4 ≤ 2147483647) ∧ (∀ n ∈ x.f6, 0 ≤ n ∧ n ≤ 2147483647) ∧ x.f5.size ≤ 1024 ∧ x.f6.length ≤ 32) := by
  unfold mayAct at h
  rw [Bool.and_eq_true, Bool.and_eq_true, Bool.and_eq_true] at h
  obtain ⟨⟨⟨h1, h2⟩, h3⟩, h4⟩ := h
  unfold mayHead at h1
  simp only [Bool.and_eq_true, decide_eq_true_eq] at h1
  obtain ⟨⟨⟨⟨⟨⟨hd, hb⟩, ho⟩, ha⟩, hn⟩, hl4⟩, hl7⟩ := h1
  have ho := orgB_i ho
  have ha := orgB_i ha
  have hn := numOk_i hn
  have ht : (0 ≤ a.f5.f0 ∧ a.f5.f0 ≤ 7 ∧ 0 ≤ a.f5.f1 ∧ a.f5.f1 ≤ 255 ∧ 0 ≤ a.f5.f2 ∧ a.f5.f2 ≤ 65535) := by
    unfold mayTxnA at h2
    by_cases hk : a.f0 = 2 ∨ a.f0 = 9
    · have h2 : txnB a.f5.f0 a.f5.f1 a.f5.f2 = true := by simpa [hk] using h2
      unfold txnB at h2
      rw [Bool.and_eq_true] at h2
      have := orgB_i h2.1
      have := of_decide_eq_true h2.2
      omega
    · unfold bareA bareB at hb
      simp only [Bool.and_eq_true, Bool.or_eq_true, decide_eq_true_eq] at hb
      have := hb.1.1.1.2
      omega
  refine ⟨hd, ⟨ho.1, ho.2, ha.1, ha.2, hn.1, hn.2, hl4, hl7, ht⟩, fun g hg => ?_, fun x hx => ?_⟩
  · have h := List.all_eq_true.mp h3 g hg
    unfold giveB at h
    rw [Bool.and_eq_true] at h
    have h0 := orgB_i h.1
    have h1 := tcheck_len (by simpa using h.2)
    rw [L_len] at h1
    omega
  · have h := List.all_eq_true.mp h4 x hx
    unfold stepB at h
    simp only [Bool.and_eq_true, decide_eq_true_eq] at h
    obtain ⟨⟨⟨⟨⟨⟨⟨e0, e1⟩, e2⟩, e3⟩, e4⟩, e5⟩, e6⟩, e7⟩ := h
    exact ⟨e0, numOk_i e1, numOk_i e2, numOk_i e3, numOk_i e4, fun n hn => numOk_i (List.all_eq_true.mp e5 n hn), e6, e7⟩
section
variable (W : World) (b : Nat)
end
end Go.Proofs.Ytppgbahiolhgbaa
end
section
set_option linter.unusedVariables false
set_option linter.unusedSimpArgs false
namespace Go.Proofs.Ytppgbahiolhgbaa
open Go.RowKit Go.Proofs.YtppgbahiolhgbaaW.PrintWords Sp
open PScriptReads
theorem blk_of {W W1 : World} {b : Nat} {o : Obj} (h : W.heap[b]? = some o) (hb : Below W.heap.size W W1) : W1.heap[b]? = some o := (hb.block b (blk_lt h)).trans h
theorem blk_alloc {W : World} {b : Nat} {o o' : Obj} (h : W.heap[b]? = some o) : (W.alloc o').heap[b]? = some o := blk_of h (below_alloc (Below.refl _ _) _)
theorem blk_drew {W : World} {b : Nat} {o : Obj} (h : W.heap[b]? = some o) : W.drew.heap[b]? = some o := h
theorem blk_new {W : World} {b : Nat} {o : Obj} (h : b = W.heap.size) : (W.alloc o).heap[b]? = some o := by subst h; exact heap_alloc_new W o
theorem blk_set {W : World} {b o : Nat} {v : Value} {cs : Array Value} {t : TypeId} {fr : Nat × Nat} (h : W.heap[b]? = some (.cells cs t fr)) : (W.setCell ⟨b, o, none⟩ v).heap[b]? = some (.cells (cs.set! o v) t fr) := by
  simp [World.setCell, Array.getElem?_modify, h]
theorem blk_far {W : World} {b c o : Nat} {v : Value} {ob : Obj} (h : W.heap[b]? = some ob) (hne : b ≠ c) : (W.setCell ⟨c, o, none⟩ v).heap[b]? = some ob := (Below.heap_setCell W ⟨c, o, none⟩ v b hne).trans h
abbrev stC (x : S51) (v : Value) : Array Value := #[.int .u8 x.f0, .int .i64 x.f1, .int .i64 x.f2, .int .i64 x.f3, .int .i64 x.f4, .string x.f5, v]
def StepAt (W : World) (h : Nat) (x : S51) (v : Value) : Prop := W.heap[h]? = some (.cells (stC x v) 51 (0, 0))
structure Sev (W : World) (h : Nat) (x : S51) (v : Value) : Prop where
  s0 : W.cell? ⟨h, 0, none⟩ = some (.int .u8 x.f0)
  s1 : W.cell? ⟨h, 1, none⟩ = some (.int .i64 x.f1)
  s2 : W.cell? ⟨h, 2, none⟩ = some (.int .i64 x.f2)
  s3 : W.cell? ⟨h, 3, none⟩ = some (.int .i64 x.f3)
  s4 : W.cell? ⟨h, 4, none⟩ = some (.int .i64 x.f4)
  s5 : W.cell? ⟨h, 5, none⟩ = some (.string x.f5)
  s6 : W.cell? ⟨h, 6, none⟩ = some v
theorem StepAt.below {W W1 : World} {h : Nat} {x : S51} {v : Value} (k : StepAt W h x v) (hb : Below W.heap.size W W1) : StepAt W1 h x v := (hb.block h (blk_lt k)).trans k
end Go.Proofs.Ytppgbahiolhgbaa
end
section
set_option linter.unusedVariables false
set_option linter.unusedSimpArgs false
namespace Go.Proofs.Ytppgbahiolhgbaa
open Go.RowKit Go.Proofs.YtppgbahiolhgbaaW.PrintWords Sp
open PScriptReads
def thrownN : List PanicEntry := [{ v := .iface 86 (.agg #[]), recovered := false }]
theorem mustN_ok (w : World) : Calls Try.prog 105 #[.bool true] w fun e w' => e = .returned (.tuple #[]) ∧ w = w' := by
  go_enter Try.func105, Try.ntmps105
  go_wp2
  go_end0
  exact ⟨rfl, rfl⟩
theorem mustN_no (w : World) : Calls Try.prog 105 #[.bool false] w fun e w' => e = .panicked thrownN ∧ w = w' := by
  go_enter Try.func105, Try.ntmps105
  go_wp2
  exact ⟨rfl, rfl, rfl⟩
def RdAt (W : World) (r : Nat) (s : ByteArray) : Prop := W.heap[r]? = some (.cells #[.string s] 89 (0, 0))
theorem RdAt.cell {W : World} {r : Nat} {s : ByteArray} (h : RdAt W r s) : W.cell? ⟨r, 0, none⟩ = some (.string s) := (blk_cell h 0).trans rfl
theorem RdAt.lt {W : World} {r : Nat} {s : ByteArray} (h : RdAt W r s) : r < W.heap.size := blk_lt h
theorem RdAt.frz {W : World} {r : Nat} {s : ByteArray} (h : RdAt W r s) : W.frozen? ⟨r, 0, none⟩ = false := by
  unfold RdAt at h
  simp [World.frozen?, h]
theorem RdAt.below {W W1 : World} {r : Nat} {s : ByteArray} (h : RdAt W r s) (hb : Below W.heap.size W W1) : RdAt W1 r s := (hb.block r h.lt).trans h
theorem RdAt.set {W : World} {r : Nat} {s : ByteArray} (h : RdAt W r s) (t : ByteArray) : RdAt (W.setCell ⟨r, 0, none⟩ (.string t)) r t := by
  unfold RdAt at *
  rw [blk_set h]; rfl
theorem RdAt.far {W : World} {r : Nat} {p : Addr} {s : ByteArray} {v : Value} (h : RdAt W r s) (hne : r ≠ p.block) : RdAt (W.setCell p v) r s := (Below.heap_setCell W p v r hne).trans h
structure Took (w : World) (r : Nat) (p : Addr) (v : Value) (t : ByteArray) (w' : World) : Prop where
  os : w'.os = w.os
  tape : w'.tape = w.tape
  output : w'.output = w.output
  size : w'.heap.size = w.heap.size
  far : ∀ k, k ≠ r → k ≠ p.block → w'.heap[k]? = w.heap[k]?
  rd : RdAt w' r t
  at_ : w'.heap[p.block]? = (w.setCell p v).heap[p.block]?
theorem took_a {w : World} {r : Nat} {p : Addr} {v : Value} {s t : ByteArray} (h : RdAt w r s) (hne : p.block ≠ r) : Took w r p v t ((w.setCell p v).setCell ⟨r, 0, none⟩ (.string t)) :=
  ⟨rfl, rfl, rfl, by simp [World.setCell], fun k h1 h2 => (Below.heap_setCell _ ⟨r, 0, none⟩ _ k h1).trans (Below.heap_setCell _ p _ k h2), (h.far (Ne.symm hne)).set t, Below.heap_setCell _ ⟨r, 0, none⟩ _ _ hne⟩
theorem heap_set_eq {W W1 : World} {p : Addr} {v : Value} (h : W.heap[p.block]? = W1.heap[p.block]?) : (W.setCell p v).heap[p.block]? = (W1.setCell p v).heap[p.block]? := by
  simp [World.setCell, Array.getElem?_modify, h]
theorem took_b {w : World} {r : Nat} {p : Addr} {v : Value} {s t : ByteArray} (h : RdAt w r s) (hne : p.block ≠ r) : Took w r p v t ((w.setCell ⟨r, 0, none⟩ (.string t)).setCell p v) :=
  ⟨rfl, rfl, rfl, by simp [World.setCell], fun k h1 h2 => (Below.heap_setCell _ p _ k h2).trans (Below.heap_setCell _ ⟨r, 0, none⟩ _ k h1), (h.set t).far (Ne.symm hne), heap_set_eq (Below.heap_setCell _ ⟨r, 0, none⟩ _ _ hne)⟩
theorem Took.undrew {w : World} {r : Nat} {p : Addr} {v : Value} {t : ByteArray} {w' : World} (h : Took w.drew r p v t w') : Took w r p v t w' := ⟨h.os, h.tape, h.output, h.size, h.far, h.rd, h.at_⟩
def numP (m : Nat) (l : Bytes) : Option (Nat × Bytes) := if (rdNum l).2.2 = 0 ∧ (rdNum l).1 ≤ m then some ((rdNum l).1, l.drop (rdNum l).2.1) else none
def textP (m : Nat) (l : Bytes) : Option (Bytes × Bytes) := if (rdText l m).2.2 = 0 then some ((rdText l m).1, l.drop (rdText l m).2.1) else none
theorem drop_ext' (s : ByteArray) (a : Nat) : L (s.extract a s.size) = (L s).drop a := by
  rw [L_ext, List.take_of_length_le]; rw [List.length_drop, L_len]; omega
theorem ext_mk (s : ByteArray) (a : Nat) : s.extract a s.size = mk ((L s).drop a) := by rw [← drop_ext', mk_L]
set_option maxRecDepth 100000 in
set_option maxHeartbeats 2000000 in
theorem rnum103_ok (r : Nat) (p : Addr) (m v : Nat) (x : Int) (s : ByteArray) (t : Bytes) (w : World) (hr : RdAt w r s) (hp : w.cell? p = some (.int .i64 x)) (hf : w.frozen? p = false) (hne : p.block ≠ r) (hm : m ≤ 2147483647) (h : numP m (L s) = some (v, t)) :
    Calls Try.prog 103 #[.pointer (some ⟨r, 0, none⟩), .pointer (some p), .int .i64 (m : Int)] w fun e w' => e = .returned (.tuple #[]) ∧ Took w r p (.int .i64 (v : Int)) (mk t) w' := by
  have hN := fun w => rn72 s w
  unfold numP at h
  have hk := fun h => rdNum_ok (pair3 (r := rdNum (L s)) (c := 0) h)
  generalize rdNum (L s) = q at *
  obtain ⟨n, k, e⟩ := q
  simp only at h hk
  by_cases hc : e = 0 ∧ n ≤ m
  · rw [if_pos hc] at h
    injection h with h
    injection h with h1 h2
    subst h1
    obtain ⟨rfl, hnm⟩ := hc
    have hks := (hk rfl).1
    rw [L_len] at hks
    have hex : s.extract k s.size = mk t := by rw [ext_mk, h2]
    have hc := hr.cell
    have hfr := hr.frz
    have hlr := hr.lt
    have hlp := World.block_lt_of_cell? _ _ hp
    have hpr : p ≠ ⟨r, 0, none⟩ := fun h => hne (by rw [h])
    have e1 : (((w.drew.setCell p (.int .i64 (n : Int)))).cell? ⟨r, 0, none⟩) = some (.string s) := (World.cell?_setCell_other _ _ _ _ hpr).trans hc
    have e2 : (((w.drew.setCell ⟨r, 0, none⟩ (.string (mk t)))).cell? p) = some (.int .i64 x) := (World.cell?_setCell_other _ _ _ _ hpr.symm).trans hp
    have e3 : ((w.drew.setCell p (.int .i64 (n : Int))).frozen? ⟨r, 0, none⟩) = false := by rw [World.frozen?_setCell]; exact hfr
    have e4 : ((w.drew.setCell ⟨r, 0, none⟩ (.string (mk t))).frozen? p) = false := by rw [World.frozen?_setCell]; exact hf
    have wm : IntKind.u64.wrap (m : Int) = (m : Int) := IntWalk.u64_in _ ⟨by omega, by omega⟩
    have wn : IntKind.i64.wrap (n : Int) = (n : Int) := IntWalk.i64_in _ ⟨by omega, by omega⟩
    have i1 : (n : Int) ≤ (m : Int) := by omega
    have i2 : (k : Int) ≤ (s.size : Int) := by omega
    have i3 : (0 : Int) ≤ (k : Int) := by omega
    have F := Aid.hide (And.intro hN (And.intro hr hne))
    clear hN hk hr hne h2
    go_enter Try.func103, Try.ntmps103
    go_wp2_with (first | (go_at_call 72; refine ((Aid.unhide F).1 _).mono ?_; rintro e1 w1 ⟨rfl, rfl⟩; unfold rnV) | (go_at_call 105; refine (mustN_ok _).mono ?_; rintro e1 w1 ⟨rfl, rfl⟩))
    go_region_with (fail)
    all_goals
      go_end0
      refine ⟨rfl, ?_⟩
      first
        | exact (took_a (w := w.drew) (Aid.unhide F).2.1 (Aid.unhide F).2.2).undrew
        | exact (took_b (w := w.drew) (Aid.unhide F).2.1 (Aid.unhide F).2.2).undrew
  · rw [if_neg hc] at h; simp at h
set_option maxRecDepth 100000 in
set_option maxHeartbeats 2000000 in
theorem rnum103_no (r : Nat) (p : Addr) (m : Nat) (s : ByteArray) (w : World) (hr : RdAt w r s) (hm : m ≤ 2147483647) (h : numP m (L s) = none) :
    Calls Try.prog 103 #[.pointer (some ⟨r, 0, none⟩), .pointer (some p), .int .i64 (m : Int)] w fun e w' => e = .panicked thrownN ∧ w = w' := by
  have hN := fun w => rn72 s w
  unfold numP at h
  generalize rdNum (L s) = q at *
  obtain ⟨n, k, e⟩ := q
  simp only at h
  by_cases hc : e = 0 ∧ n ≤ m
  · rw [if_pos hc] at h; simp at h
  · clear h
    have hcl := hr.cell
    have wm : IntKind.u64.wrap (m : Int) = (m : Int) := IntWalk.u64_in _ ⟨by omega, by omega⟩
    have F := Aid.hide (And.intro hN hr)
    clear hN hr
    by_cases he : e = 0
    · subst he
      have i1 : m < n := by omega
      have i2 : decide (n ≤ m) = false := decide_eq_false (by omega)
      clear hc
      go_enter Try.func103, Try.ntmps103
      go_wp2_with (first | (go_at_call 72; refine ((Aid.unhide F).1 _).mono ?_; rintro e1 w1 ⟨rfl, rfl⟩; unfold rnV) | (go_at_call 105; refine (mustN_no _).mono ?_; rintro e1 w1 ⟨rfl, rfl⟩))
      exact ⟨rfl, rfl, rfl⟩
    · have c0 : ((e : Int) == 0) = false := by simpa using he
      clear hc
      go_enter Try.func103, Try.ntmps103
      go_wp2_with (first | (go_at_call 72; refine ((Aid.unhide F).1 _).mono ?_; rintro e1 w1 ⟨rfl, rfl⟩; unfold rnV) | (go_at_call 105; refine (mustN_no _).mono ?_; rintro e1 w1 ⟨rfl, rfl⟩))
      exact ⟨rfl, rfl, rfl⟩
set_option maxRecDepth 100000 in
set_option maxHeartbeats 2000000 in
theorem rtext104_ok (r : Nat) (p : Addr) (m : Nat) (x : ByteArray) (v : Bytes) (s : ByteArray) (t : Bytes) (w : World) (hr : RdAt w r s) (hp : w.cell? p = some (.string x)) (hf : w.frozen? p = false) (hne : p.block ≠ r) (hm : m ≤ 1000000) (hs : s.size ≤ 4611686018427387904) (h : textP m (L s) = some (v, t)) :
    Calls Try.prog 104 #[.pointer (some ⟨r, 0, none⟩), .pointer (some p), .int .i64 (m : Int)] w fun e w' => e = .returned (.tuple #[]) ∧ Took w r p (.string (mk v)) (mk t) w' := by
  have hN := fun w => rt70 s (m : Int) w (by omega) (by omega) (by omega)
  rw [Int.toNat_natCast] at hN
  unfold textP at h
  have hk := fun h => rdText_len (l := L s) (m := m) h
  generalize rdText (L s) m = q at *
  obtain ⟨u, k, e⟩ := q
  simp only at h hk
  by_cases hc : e = 0
  · rw [if_pos hc] at h
    injection h with h
    injection h with h1 h2
    subst h1
    subst hc
    have hks := (hk rfl).2.2
    rw [L_len] at hks
    have hex : s.extract k s.size = mk t := by rw [ext_mk, h2]
    have hc := hr.cell
    have hfr := hr.frz
    have hlr := hr.lt
    have hlp := World.block_lt_of_cell? _ _ hp
    have hpr : p ≠ ⟨r, 0, none⟩ := fun h => hne (by rw [h])
    have e1 : (((w.drew.setCell p (.string (mk u)))).cell? ⟨r, 0, none⟩) = some (.string s) := (World.cell?_setCell_other _ _ _ _ hpr).trans hc
    have e2 : (((w.drew.setCell ⟨r, 0, none⟩ (.string (mk t)))).cell? p) = some (.string x) := (World.cell?_setCell_other _ _ _ _ hpr.symm).trans hp
    have e3 : ((w.drew.setCell p (.string (mk u))).frozen? ⟨r, 0, none⟩) = false := by rw [World.frozen?_setCell]; exact hfr
    have e4 : ((w.drew.setCell ⟨r, 0, none⟩ (.string (mk t))).frozen? p) = false := by rw [World.frozen?_setCell]; exact hf
    have i2 : (k : Int) ≤ (s.size : Int) := by omega
    have i3 : (0 : Int) ≤ (k : Int) := by omega
    have F := Aid.hide (And.intro hN (And.intro hr hne))
    clear hN hk hr hne h2
    go_enter Try.func104, Try.ntmps104
    go_wp2_with (first | (go_at_call 70; refine ((Aid.unhide F).1 _).mono ?_; rintro e1 w1 ⟨rfl, rfl⟩; unfold rtV) | (go_at_call 105; refine (mustN_ok _).mono ?_; rintro e1 w1 ⟨rfl, rfl⟩))
    go_region_with (fail)
    all_goals
      go_end0
      refine ⟨rfl, ?_⟩
      first
        | exact (took_a (w := w.drew) (Aid.unhide F).2.1 (Aid.unhide F).2.2).undrew
        | exact (took_b (w := w.drew) (Aid.unhide F).2.1 (Aid.unhide F).2.2).undrew
  · rw [if_neg hc] at h; simp at h
set_option maxRecDepth 100000 in
set_option maxHeartbeats 2000000 in
theorem rtext104_no (r : Nat) (p : Addr) (m : Nat) (s : ByteArray) (w : World) (hr : RdAt w r s) (hm : m ≤ 1000000) (hs : s.size ≤ 4611686018427387904) (h : textP m (L s) = none) :
    Calls Try.prog 104 #[.pointer (some ⟨r, 0, none⟩), .pointer (some p), .int .i64 (m : Int)] w fun e w' => e = .panicked thrownN ∧ w = w' := by
  have hN := fun w => rt70 s (m : Int) w (by omega) (by omega) (by omega)
  rw [Int.toNat_natCast] at hN
  unfold textP at h
  generalize rdText (L s) m = q at *
  obtain ⟨u, k, e⟩ := q
  simp only at h
  by_cases hc : e = 0
  · rw [if_pos hc] at h; simp at h
  · clear h
    have hcl := hr.cell
    have F := Aid.hide (And.intro hN hr)
    clear hN hr
    have c0 : ((e : Int) == 0) = false := by simpa using hc
    clear hc
    go_enter Try.func104, Try.ntmps104
    go_wp2_with (first | (go_at_call 70; refine ((Aid.unhide F).1 _).mono ?_; rintro e1 w1 ⟨rfl, rfl⟩; unfold rtV) | (go_at_call 105; refine (mustN_no _).mono ?_; rintro e1 w1 ⟨rfl, rfl⟩))
    exact ⟨rfl, rfl, rfl⟩
end Go.Proofs.Ytppgbahiolhgbaa
end
section
set_option linter.unusedVariables false
set_option linter.unusedSimpArgs false
namespace Go.Proofs.Ytppgbahiolhgbaa
open Go.RowKit Go.Proofs.YtppgbahiolhgbaaW.PrintWords Sp
open PScriptReads
abbrev RL := Option Addr × Nat × Nat
def encL (p : RL) : Value := .slice p.1 p.2.1 p.2.2
def kRL : Kd RL := Kd.scalar encL (fun _ => rfl)
abbrev Raw := S51 × RL
def kraw : Kd Raw := Kd.iso (Kd.pair (Kd.int .u8) (Kd.pair (Kd.int .i64) (Kd.pair (Kd.int .i64) (Kd.pair (Kd.int .i64) (Kd.pair (Kd.int .i64) (Kd.pair Kd.string kRL)))))) (fun p : Raw => (p.1.f0, p.1.f1, p.1.f2, p.1.f3, p.1.f4, p.1.f5, p.2))
theorem kraw_sz : kraw.sz = 7 := rfl
abbrev rawC (x : S51) (v : Value) : List Value := [.int .u8 x.f0, .int .i64 x.f1, .int .i64 x.f2, .int .i64 x.f3, .int .i64 x.f4, .string x.f5, v]
theorem kraw_open {w : World} {p : Raw} {cs : List Value} (h : kraw.K w p cs) : cs = rawC p.1 (encL p.2) := by
  obtain ⟨_, _, rfl, rfl, ⟨_, _, rfl, rfl, ⟨_, _, rfl, rfl, ⟨_, _, rfl, rfl, ⟨_, _, rfl, rfl, ⟨_, _, rfl, rfl, rfl⟩⟩⟩⟩⟩⟩ := h
  rfl
theorem kraw_openM {w : World} {base : Nat} {ok : Nat → Prop} {p : Raw} {cs : List Value} (h : kraw.M w base ok p cs) : cs = rawC p.1 (encL p.2) := by
  obtain ⟨_, _, rfl, rfl, ⟨_, _, rfl, rfl, ⟨_, _, rfl, rfl, ⟨_, _, rfl, rfl, ⟨_, _, rfl, rfl, ⟨_, _, rfl, rfl, rfl⟩⟩⟩⟩⟩⟩ := h
  rfl
theorem kraw_mkM (w : World) (base : Nat) (ok : Nat → Prop) (p : Raw) : kraw.M w base ok p (rawC p.1 (encL p.2)) :=
  ⟨[_], _, rfl, rfl, ⟨[_], _, rfl, rfl, ⟨[_], _, rfl, rfl, ⟨[_], _, rfl, rfl, ⟨[_], _, rfl, rfl, ⟨[_], _, rfl, rfl, rfl⟩⟩⟩⟩⟩⟩
theorem R_of_raw {w : World} {base : Nat} {v : Value} {ps : List Raw} {ok : Nat → Prop} (h : kraw.R 51 w base ok v ps) (hl : ∀ p ∈ ps, (Kd.int .i64).R 3 w base (fun k => ok k ∧ some k ≠ v.ownBlock) (encL p.2) p.1.f6) : k51.R 51 w base ok v (ps.map (·.1)) := by
  obtain ⟨h0, inner, ho, hr⟩ := h
  refine ⟨h0, inner, by rw [List.length_map]; exact ho, ⟨by rw [List.length_map]; exact hr.1, fun j p hj => ?_⟩⟩
  rw [List.getElem?_map] at hj
  obtain ⟨q, hq, rfl⟩ := Option.map_eq_some_iff.1 hj
  have hM := kraw_openM (hr.2 j q hq)
  have e : (kraw.sz) = k51.sz := rfl
  rw [← e, hM]
  exact k51_mkM w base _ q.1 (hl q (List.mem_of_getElem? hq))
end Go.Proofs.Ytppgbahiolhgbaa
end
section
set_option linter.unusedVariables false
set_option linter.unusedSimpArgs false
namespace Go.Proofs.Ytppgbahiolhgbaa
open Go.RowKit Go.Proofs.YtppgbahiolhgbaaW.PrintWords Sp
open PScriptReads
theorem inf3 : (Try.prog.info? 3).map (fun i => (i.zero, i.size, i.bytes)) = some (some (.int .i64 0), 1, 8) := by kernel_rfl
theorem inf48 : (Try.prog.info? 48).map (fun i => (i.zero, i.size, i.bytes)) = some (some (.agg #[.int .i64 0, .string ⟨#[]⟩]), 2, 24) := by kernel_rfl
theorem inf51 : (Try.prog.info? 51).map (fun i => (i.zero, i.size, i.bytes)) = some (some (.agg #[.int .u8 0, .int .i64 0, .int .i64 0, .int .i64 0, .int .i64 0, .string ⟨#[]⟩, .slice none 0 0]), 7, 80) := by kernel_rfl
theorem inf37 : (Try.prog.info? 37).map (fun i => (i.zero, i.size, i.bytes)) = some (some (.agg #[.int .u8 0, .int .i64 0, .int .i64 0, .int .i64 0, .slice none 0 0, .int .i64 0, .int .i64 0, .int .i64 0, .bool false, .slice none 0 0]), 10, 112) := by kernel_rfl
abbrev actW (a : S37) (v4 v9 : Value) : Array Value := #[.int .u8 a.f0, .int .i64 a.f1, .int .i64 a.f2, .int .i64 a.f3, v4, .int .i64 a.f5.f0, .int .i64 a.f5.f1, .int .i64 a.f5.f2, .bool a.f6, v9]
def ActV (W : World) (g : Nat) (a : S37) (v4 v9 : Value) : Prop := W.heap[g]? = some (.cells (actW a v4 v9) 37 (0, 0))
structure TenV (W : World) (g : Nat) (a : S37) (v4 v9 : Value) : Prop where
  k0 : W.cell? ⟨g, 0, none⟩ = some (.int .u8 a.f0)
  k1 : W.cell? ⟨g, 1, none⟩ = some (.int .i64 a.f1)
  k2 : W.cell? ⟨g, 2, none⟩ = some (.int .i64 a.f2)
  k3 : W.cell? ⟨g, 3, none⟩ = some (.int .i64 a.f3)
  k4 : W.cell? ⟨g, 4, none⟩ = some v4
  k5 : W.cell? ⟨g, 5, none⟩ = some (.int .i64 a.f5.f0)
  k6 : W.cell? ⟨g, 6, none⟩ = some (.int .i64 a.f5.f1)
  k7 : W.cell? ⟨g, 7, none⟩ = some (.int .i64 a.f5.f2)
  k8 : W.cell? ⟨g, 8, none⟩ = some (.bool a.f6)
  k9 : W.cell? ⟨g, 9, none⟩ = some v9
section
variable {W W1 : World} {g : Nat} {a : S37} {v4 v9 u : Value}
theorem ActV.ten (h : ActV W g a v4 v9) : TenV W g a v4 v9 :=
  ⟨(blk_cell h 0).trans rfl, (blk_cell h 1).trans rfl, (blk_cell h 2).trans rfl, (blk_cell h 3).trans rfl, (blk_cell h 4).trans rfl, (blk_cell h 5).trans rfl, (blk_cell h 6).trans rfl, (blk_cell h 7).trans rfl, (blk_cell h 8).trans rfl, (blk_cell h 9).trans rfl⟩
theorem ActV.lt (h : ActV W g a v4 v9) : g < W.heap.size := blk_lt h
theorem ActV.frz (h : ActV W g a v4 v9) (o : Nat) : W.frozen? ⟨g, o, none⟩ = false := by
  unfold ActV at h
  simp [World.frozen?, h]
theorem ActV.below (h : ActV W g a v4 v9) (hb : Below W.heap.size W W1) : ActV W1 g a v4 v9 := blk_of h hb
theorem ActV.grown (h : ActV W g a v4 v9) {row : Option Nat} (hg : W.grownBy W1 row) (hne : some g ≠ row) : ActV W1 g a v4 v9 := blk_grown h hg hne
theorem ActV.set4 (h : ActV W g a v4 v9) : ActV (W.setCell ⟨g, 4, none⟩ u) g a u v9 := by unfold ActV at *; rw [blk_set h]; rfl
theorem ActV.set9 (h : ActV W g a v4 v9) : ActV (W.setCell ⟨g, 9, none⟩ u) g a v4 u := by unfold ActV at *; rw [blk_set h]; rfl
end
structure OwnSt (w : World) (g k : Nat) (x : S37) (out : Value) (done : List S37) (v4 v9 : Value) (ps : List Raw) (W : World) : Prop where
  hA : ActV W g x v4 v9
  hG : k48.R 48 W w.heap.size (fun b => g < b) v4 x.f4
  hS : kraw.R 51 W w.heap.size (fun b => g < b) v9 ps
  hP : ps.map (·.1) = x.f7
  hD : ∀ i p, ps[i]? = some p → i < k → (Kd.int .i64).R 3 W w.heap.size (fun b => g < b) (encL p.2) p.1.f6
  hT : ∀ i p, ps[i]? = some p → k ≤ i → p.2.2.1 = p.1.f6.length ∧ p.1.f6.length ≤ p.2.2.2 ∧ (Kd.int .i64).C w p.2.1 p.1.f6.length p.1.f6
  hO : k37.R 37 W w.heap.size (fun b => b < g) out done
  hB : Below w.heap.size w W
  hg : w.heap.size ≤ g
section
variable {w W W1 : World} {g k : Nat} {x : S37} {out : Value} {done : List S37} {v4 v9 : Value} {ps : List Raw}
theorem OwnSt.below (h : OwnSt w g k x out done v4 v9 ps W) (hb : Below W.heap.size W W1) : OwnSt w g k x out done v4 v9 ps W1 :=
  ⟨h.hA.below hb, Kd.R_below h.hG hb, Kd.R_below h.hS hb, h.hP, fun i p hi hk => Kd.R_below (h.hD i p hi hk) hb, h.hT, Kd.R_below h.hO hb, h.hB.trans (hb.mono h.hB.size), h.hg⟩
end
theorem own_block {w : World} {base e size n : Nat} {A : Option Addr} {m c : Nat} {xs : List Value} (h : w.ownsRow base e size (.slice A m c) n xs) (hn : 0 < n) : ∃ sb cur, A = some ⟨sb, 0, none⟩ ∧ w.heap[sb]? = some (.cells cur e (0, 0)) := by
  rcases h.2 with ⟨h1, h2⟩ | ⟨g, cap, cur, h1, _, h3, _⟩
  · omega
  · injection h1 with h1 _ _
    exact ⟨g, cur, h1, h3⟩
theorem kraw_take6 (x : S51) (v u : Value) : (rawC x v).take 6 ++ [u] ++ (rawC x v).drop (6 + [u].length) = rawC x u := rfl
theorem OwnSt.put {w W W2 : World} {g k sb n d9 : Nat} {x : S37} {out : Value} {done : List S37} {v4 : Value} {ps : List Raw} (h : OwnSt w g k x out done v4 (.slice (some ⟨sb, 0, none⟩) n d9) ps W) {p : Raw} (hp : ps[k]? = some p) {q : RL}
    (hgr : W.grownBy W2 none) (hR1 : (Kd.int .i64).R 3 W2 w.heap.size (fun b => g < b) (encL q) p.1.f6) :
    OwnSt w g (k + 1) x out done v4 (.slice (some ⟨sb, 0, none⟩) n d9) (ps.set k (p.1, q)) (W2.setCell ⟨sb, k * 7 + 6, none⟩ (encL q)) := by
  obtain ⟨hk, _⟩ := List.getElem?_eq_some_iff.1 hp
  have hS2 := Kd.R_grown h.hS hgr (fun _ _ => by simp)
  have hgs : g < sb := h.hS.1 sb rfl
  obtain ⟨inner, ho⟩ := Kd.R_own hS2
  obtain ⟨sb', cur, e1, hb⟩ := own_block ho (by omega)
  injection e1 with e1
  injection e1 with e1 _ _
  subst e1
  have hn : n = ps.length := (Kd.R_reads' hS2).1
  have hC := (Kd.R_reads' hS2).2.2
  have hcell : ∀ j u, (rawC p.1 (encL p.2))[j]? = some u → W2.cell? ⟨sb, (k : Int).toNat * kraw.sz + j, none⟩ = some u := by
    intro j u hj
    obtain ⟨ad, c, hA, hl, hK, hc⟩ := Kd.C_get hC (z51, (none, 0, 0)) (k : Int) (by omega) (by omega)
    injection hA with hA
    subst hA
    rw [Int.toNat_natCast, List.getD_eq_getElem?_getD, hp] at hK
    have := kraw_open hK
    subst this
    have h2 := hc j u hj
    have e : (⟨sb, 0, none⟩ : Addr).add ((k : Int).toNat * kraw.sz + j) = ⟨sb, (k : Int).toNat * kraw.sz + j, none⟩ := by
      by_cases h0 : (k : Int).toNat * kraw.sz + j = 0
      · rw [h0]; rfl
      · unfold Addr.add; rw [if_neg h0]; simp
    rwa [e] at h2
  have hseg := Kd.R_seg hS2 (k : Int) (by omega) (by omega) (c := rawC p.1 (encL p.2)) (seg := [encL q]) (j := 6) rfl hcell (by show 6 + 1 ≤ 7; omega) (x' := (p.1, q)) (okp := fun _ => False) (by rw [kraw_take6]; exact kraw_mkM _ _ _ (p.1, q)) (fun _ hk => hk.elim)
  rw [Int.toNat_natCast, kraw_sz] at hseg
  have hset : W2.setCells sb (k * 7 + 6) [encL q] = W2.setCell ⟨sb, k * 7 + 6, none⟩ (encL q) := rfl
  rw [hset] at hseg
  have hA2 := h.hA.grown hgr (by simp)
  have hbg : Below g W W2 := ⟨hgr.os, hgr.tape, hgr.output, hgr.size, fun b hb => hgr.block b (by have := h.hA.lt; omega) (by simp)⟩
  have hbs : Below g W2 (W2.setCell ⟨sb, k * 7 + 6, none⟩ (encL q)) := (Below.refl _ _).setCell (Nat.le_of_lt hgs) _
  refine ⟨blk_far hA2 (by omega), Kd.R_set (Kd.R_grown h.hG hgr (fun _ _ => by simp)) hb (by decide) _ _, hseg.1, ?_, fun i p' hi hik => ?_, fun i p' hi hik => ?_, Kd.R_step (Kd.R_step h.hO (fun b hb _ => hbg.block b hb)) (fun b hb _ => hbs.block b hb), ?_, h.hg⟩
  · rw [List.map_set]
    have : ps.map (·.1) = (ps.map (·.1)).set k p.1 := by
      symm
      apply List.ext_getElem?
      intro i
      rw [List.getElem?_set]
      split
      · rename_i e; subst e
        rw [List.getElem?_map, hp]; simp [hk]
      · rfl
    rw [← this]; exact h.hP
  · by_cases e : i = k
    · subst e
      rw [List.getElem?_set_self hk] at hi
      injection hi with hi
      subst hi
      exact Kd.R_set hR1 hb (by decide) _ _
    · rw [List.getElem?_set_ne (by omega)] at hi
      exact Kd.R_set (Kd.R_grown (h.hD i p' hi (by omega)) hgr (fun _ _ => by simp)) hb (by decide) _ _
  · rw [List.getElem?_set_ne (by omega)] at hi
    exact h.hT i p' hi (by omega)
  · exact (h.hB.trans ⟨hgr.os, hgr.tape, hgr.output, hgr.size, fun b hb => hgr.block b (Nat.lt_of_lt_of_le hb h.hB.size) (by simp)⟩).setCell (by have := h.hg; show w.heap.size ≤ sb; omega) _
end Go.Proofs.Ytppgbahiolhgbaa
end
section
set_option linter.unusedVariables false
set_option linter.unusedSimpArgs false
namespace Go.Proofs.Ytppgbahiolhgbaa
open Go.RowKit Go.Proofs.YtppgbahiolhgbaaW.PrintWords Sp
theorem grownBy_trans {a b c : World} {row : Option Nat} (h : a.grownBy b row) (k : b.grownBy c row) : a.grownBy c row :=
  ⟨k.os.trans h.os, k.tape.trans h.tape, k.output.trans h.output, Nat.le_trans h.size k.size, fun i hi hne => (k.block i (Nat.lt_of_lt_of_le hi h.size) hne).trans (h.block i hi hne)⟩
def WrAt (W : World) (r : Nat) (s : ByteArray) : Prop := W.heap[r]? = some (.cells #[.string s] 72 (0, 0))
theorem WrAt.cell {W : World} {r : Nat} {s : ByteArray} (h : WrAt W r s) : W.cell? ⟨r, 0, none⟩ = some (.string s) := (blk_cell h 0).trans rfl
theorem WrAt.frozen {W : World} {r : Nat} {s : ByteArray} (h : WrAt W r s) : W.frozen? ⟨r, 0, none⟩ = false := by
  unfold WrAt at h
  simp [World.frozen?, h]
theorem WrAt.lt {W : World} {r : Nat} {s : ByteArray} (h : WrAt W r s) : r < W.heap.size := blk_lt h
theorem WrAt.below {W w1 : World} {r : Nat} {s : ByteArray} (h : WrAt W r s) (hb : Below W.heap.size W w1) : WrAt w1 r s := (hb.block r h.lt).trans h
theorem WrAt.set {W : World} {r : Nat} {s : ByteArray} (h : WrAt W r s) (t : ByteArray) : WrAt (W.setCell ⟨r, 0, none⟩ (.string t)) r t := by
  unfold WrAt at *
  simp [World.setCell, Array.getElem?_modify, h]
theorem below_bt {n : Nat} {w W W1 : World} (h : Below n w W) (k : Below W.heap.size W W1) (hn : n ≤ w.heap.size := by exact Nat.le_refl _) : Below n w W1 := h.trans (k.mono (Nat.le_trans hn h.size))
set_option maxHeartbeats 400000 in
theorem wnum99 (r : Nat) (p : Addr) (n m : Int) (s : ByteArray) (w : World) (hr : WrAt w r s) (hp : w.cell? p = some (.int .i64 n)) (h0 : 0 ≤ n) (h1 : n ≤ 2147483647) (hs : s.size ≤ 4611686018427387904) :
    Calls Try.prog 99 #[.pointer (some ⟨r, 0, none⟩), .pointer (some p), .int .i64 m] w fun e w' => e = .returned (.tuple #[]) ∧ WrAt w' r (s ++ mk (numB n.toNat)) ∧ w.grownBy w' (some r) := by
  have hc := hr.cell
  have hfz : w.frozen? ⟨r, 0, none⟩ = false := hr.frozen
  have hlr := hr.lt
  have hlp := World.block_lt_of_cell? _ _ hp
  have hn := fun W => num101 n W h0 (by omega)
  obtain ⟨t, ht⟩ : ∃ t, t = mk (numB n.toNat) := ⟨_, rfl⟩
  rw [← ht] at hn ⊢
  have zt : t.size ≤ 9 := by rw [ht, size_mk]; exact (numB_len _ (by omega)).2
  have F := Aid.hide (And.intro hn (And.intro ht hr))
  have ha1 : ¬ (9223372036854775807 < s.size + t.size) := by omega
  clear hn ht hr
  have hwn : IntKind.u64.wrap n = n := IntWalk.u64_in n ⟨h0, by omega⟩
  go_enter Try.func99, Try.ntmps99
  go_region_with ((go_at_call 101; refine ((Aid.unhide F).1 _).mono ?_; rintro e1 w1 ⟨rfl, hb1⟩; have k1 := (hb1.cell (p := ⟨r, 0, none⟩) hlr).trans hc; have k2 := (hb1.frozen (p := ⟨r, 0, none⟩) hlr).trans hfz))
  all_goals
    go_end0
    have hb0 : Below w.heap.size w w1 := by (repeat first | exact Below.refl _ _ | apply below_drew | refine below_bt ?_ (by assumption))
    exact ⟨rfl, ((Aid.unhide F).2.2.below hb0).set _, Aid.only_setCell (grown_of_below hb0 _) (Or.inl rfl) _⟩
set_option maxHeartbeats 2000000 in
theorem wtext100 (r : Nat) (p : Addr) (x : ByteArray) (m : Int) (s : ByteArray) (w : World) (hr : WrAt w r s) (hp : w.cell? p = some (.string x)) (hx : x.size ≤ 1000000) (hs : s.size ≤ 4611686018427387904) :
    Calls Try.prog 100 #[.pointer (some ⟨r, 0, none⟩), .pointer (some p), .int .i64 m] w fun e w' => e = .returned (.tuple #[]) ∧ WrAt w' r (s ++ mk (textB (L x))) ∧ w.grownBy w' (some r) := by
  have hc := hr.cell
  have hfz : w.frozen? ⟨r, 0, none⟩ = false := hr.frozen
  have hlr := hr.lt
  have hlp := World.block_lt_of_cell? _ _ hp
  have hn := fun W => text102 x W (by omega)
  obtain ⟨t, ht⟩ : ∃ t, t = mk (textB (L x)) := ⟨_, rfl⟩
  rw [← ht] at hn ⊢
  have zt : t.size ≤ 9 + x.size := by
    rw [ht, size_mk]
    have := (numB_len x.size (by omega)).2
    unfold textB; rw [List.length_append, L_len]; omega
  have F := Aid.hide (And.intro hn (And.intro ht hr))
  have ha1 : ¬ (9223372036854775807 < s.size + t.size) := by omega
  clear hn ht hr
  go_enter Try.func100, Try.ntmps100
  go_region_with ((go_at_call 102; refine ((Aid.unhide F).1 _).mono ?_; rintro e1 w1 ⟨rfl, hb1⟩; have k1 := (hb1.cell (p := ⟨r, 0, none⟩) hlr).trans hc; have k2 := (hb1.frozen (p := ⟨r, 0, none⟩) hlr).trans hfz))
  all_goals
    go_end0
    have hb0 : Below w.heap.size w w1 := by (repeat first | exact Below.refl _ _ | apply below_drew | refine below_bt ?_ (by assumption))
    exact ⟨rfl, ((Aid.unhide F).2.2.below hb0).set _, Aid.only_setCell (grown_of_below hb0 _) (Or.inl rfl) _⟩
end Go.Proofs.Ytppgbahiolhgbaa
end
section
set_option linter.unusedVariables false
set_option linter.unusedSimpArgs false
namespace Go.Proofs.Ytppgbahiolhgbaa
open Go.RowKit Go.Proofs.YtppgbahiolhgbaaW.PrintWords Sp
open PScriptReads
abbrev formV (g T r : Nat) : Value := .agg #[.pointer (some ⟨g, 0, none⟩), .iface T (.pointer (some ⟨r, 0, none⟩))]
theorem meth_wnum (a : Addr) (W : World) : (method 246 69 (.pointer (some a)) "chirograph/script.num").run Try.prog W = .ok (99, .pointer (some a)) W := by kernel_rfl
theorem meth_wtext (a : Addr) (W : World) : (method 246 69 (.pointer (some a)) "chirograph/script.text").run Try.prog W = .ok (100, .pointer (some a)) W := by kernel_rfl
theorem meth_rnum (a : Addr) (W : World) : (method 246 88 (.pointer (some a)) "chirograph/script.num").run Try.prog W = .ok (103, .pointer (some a)) W := by kernel_rfl
theorem meth_rtext (a : Addr) (W : World) : (method 246 88 (.pointer (some a)) "chirograph/script.text").run Try.prog W = .ok (104, .pointer (some a)) W := by kernel_rfl
structure WSt (w0 : World) (g r : Nat) (a : S37) (A4 : Option Addr) (c4 : Nat) (A9 : Option Addr) (c9 : Nat) (s : ByteArray) (W : World) : Prop where
  hA : ActAt W g a A4 c4 A9 c9
  hR : WrAt W r s
  hB : Below w0.heap.size w0 W
  lr : w0.heap.size ≤ r
  lg : w0.heap.size ≤ g
section
variable {w0 : World} {g r : Nat} {a : S37} {A4 : Option Addr} {c4 : Nat} {A9 : Option Addr} {c9 : Nat} {s s' : ByteArray} {W W1 : World}
theorem WSt.ne (h : WSt w0 g r a A4 c4 A9 c9 s W) : g ≠ r := by
  rintro rfl
  have h1 := h.hA
  have h2 := h.hR
  unfold ActAt at h1; unfold WrAt at h2
  rw [h1] at h2
  injection h2 with h2
  injection h2 with _ h2
  exact absurd h2 (by decide)
theorem WSt.below (h : WSt w0 g r a A4 c4 A9 c9 s W) (hb : Below W.heap.size W W1) : WSt w0 g r a A4 c4 A9 c9 s W1 :=
  ⟨h.hA.below hb, h.hR.below hb, h.hB.trans (hb.mono h.hB.size), h.lr, h.lg⟩
theorem WSt.alloc (h : WSt w0 g r a A4 c4 A9 c9 s W) (o : Obj) : WSt w0 g r a A4 c4 A9 c9 s (W.alloc o) := h.below (below_alloc (Below.refl _ _) o)
theorem WSt.drew (h : WSt w0 g r a A4 c4 A9 c9 s W) : WSt w0 g r a A4 c4 A9 c9 s W.drew := h.below (below_drew (Below.refl _ _))
theorem WSt.step (h : WSt w0 g r a A4 c4 A9 c9 s W) (hw : WrAt W1 r s') (hg : W.grownBy W1 (some r)) : WSt w0 g r a A4 c4 A9 c9 s' W1 :=
  ⟨blk_grown h.hA hg (by intro e; injection e with e; exact h.ne e), hw, h.hB.grown hg h.hB.size (by intro k e; injection e with e; subst e; exact h.lr), h.lr, h.lg⟩
theorem WSt.ten (h : WSt w0 g r a A4 c4 A9 c9 s W) : Ten W g a A4 c4 A9 c9 := h.hA.ten
theorem WSt.gs (h : WSt w0 g r a A4 c4 A9 c9 s W) : g < W.heap.size := blk_lt h.hA
end
def FAt (W : World) (b g T r : Nat) : Prop := W.heap[b]? = some (.cells #[.pointer (some ⟨g, 0, none⟩), .iface T (.pointer (some ⟨r, 0, none⟩))] 78 (0, 0))
theorem FAt.lt {W : World} {b g T r : Nat} (h : FAt W b g T r) : b < W.heap.size := blk_lt h
theorem FAt.below {W W1 : World} {b g T r : Nat} (h : FAt W b g T r) (hb : Below W.heap.size W W1) : FAt W1 b g T r := (hb.block b h.lt).trans h
theorem FAt.new (W : World) (g T r : Nat) : FAt (W.alloc (.cells #[.pointer (some ⟨g, 0, none⟩), .iface T (.pointer (some ⟨r, 0, none⟩))] 78)) W.heap.size g T r := by unfold FAt; simpa using heap_alloc_new W _
theorem FAt.c0 {W : World} {b g T r : Nat} (h : FAt W b g T r) : W.cell? ⟨b, 0, none⟩ = some (.pointer (some ⟨g, 0, none⟩)) := (blk_cell h 0).trans rfl
theorem FAt.c1 {W : World} {b g T r : Nat} (h : FAt W b g T r) : W.cell? ⟨b, 1, none⟩ = some (.iface T (.pointer (some ⟨r, 0, none⟩))) := (blk_cell h 1).trans rfl
structure WFt (w0 : World) (b g r : Nat) (a : S37) (A4 : Option Addr) (c4 : Nat) (A9 : Option Addr) (c9 : Nat) (s : ByteArray) (W : World) : Prop where
  S : WSt w0 g r a A4 c4 A9 c9 s W
  F : FAt W b g 69 r
section
variable {w0 : World} {b g r : Nat} {a : S37} {A4 : Option Addr} {c4 : Nat} {A9 : Option Addr} {c9 : Nat} {s s' : ByteArray} {W W1 : World}
theorem WFt.ne (h : WFt w0 b g r a A4 c4 A9 c9 s W) : b ≠ r := by
  rintro rfl
  have h1 := h.F
  have h2 := h.S.hR
  unfold FAt at h1; unfold WrAt at h2
  rw [h1] at h2
  injection h2 with h2
  injection h2 with _ h2
  exact absurd h2 (by decide)
theorem WFt.below (h : WFt w0 b g r a A4 c4 A9 c9 s W) (hb : Below W.heap.size W W1) : WFt w0 b g r a A4 c4 A9 c9 s W1 := ⟨h.S.below hb, h.F.below hb⟩
theorem WFt.alloc (h : WFt w0 b g r a A4 c4 A9 c9 s W) (o : Obj) : WFt w0 b g r a A4 c4 A9 c9 s (W.alloc o) := h.below (below_alloc (Below.refl _ _) o)
theorem WFt.drew (h : WFt w0 b g r a A4 c4 A9 c9 s W) : WFt w0 b g r a A4 c4 A9 c9 s W.drew := h.below (below_drew (Below.refl _ _))
theorem WFt.step (h : WFt w0 b g r a A4 c4 A9 c9 s W) (hw : WrAt W1 r s') (hg : W.grownBy W1 (some r)) : WFt w0 b g r a A4 c4 A9 c9 s' W1 :=
  ⟨h.S.step hw hg, blk_grown h.F hg (by intro e; injection e with e; exact h.ne e)⟩
theorem WSt.boxed (h : WSt w0 g r a A4 c4 A9 c9 s W) : WFt w0 W.heap.size g r a A4 c4 A9 c9 s (W.alloc (.cells #[.pointer (some ⟨g, 0, none⟩), .iface 69 (.pointer (some ⟨r, 0, none⟩))] 78)) := ⟨h.alloc _, FAt.new _ _ _ _⟩
end
def Uns (w0 : World) (A : Option Addr) : Prop := ∀ ad, A = some ad → ∃ cs t, w0.heap[ad.block]? = some (.cells cs t (0, 0))
def WPart (f : Nat) (part : S37 → Bytes) : Prop := ∀ (w0 : World) (g r : Nat) (a : S37) (A4 : Option Addr) (c4 : Nat) (A9 : Option Addr) (c9 : Nat) (s : ByteArray) (W : World),
  mayAct a = true → k48.C w0 A4 a.f4.length a.f4 → k51.C w0 A9 a.f7.length a.f7 → Uns w0 A9 → s.size ≤ 1000000 → WSt w0 g r a A4 c4 A9 c9 s W →
  Calls Try.prog f #[formV g 69 r] W fun e w' => e = .returned (.tuple #[]) ∧ WSt w0 g r a A4 c4 A9 c9 (s ++ mk (part a)) w' ∧ W.grownBy w' (some r)
theorem numsB_one {x : Int} : numsB [x] = numB x.toNat := by simp [numsB]
set_option maxRecDepth 100000 in
set_option maxHeartbeats 400000 in
theorem wpart46 : WPart 46 (fun a => numsB [a.f1]) := by
  intro w0 g r a A4 c4 A9 c9 s w hm g4 g9 hu hs hS
  obtain ⟨hd, hf, _, _⟩ := may_facts hm
  have hf : 0 ≤ a.f1 ∧ a.f1 ≤ 2147483647 := by omega
  have hp : w.cell? ⟨g, 1, none⟩ = some (.int .i64 a.f1) := hS.ten.k1
  have hlp := hS.gs
  have hm := meth_wnum
  have hn : ∀ W, WSt w0 g r a A4 c4 A9 c9 s W → Calls Try.prog 99 #[.pointer (some ⟨r, 0, none⟩), .pointer (some ⟨g, 1, none⟩), .int .i64 7] W _ := fun W h => wnum99 r ⟨g, 1, none⟩ a.f1 7 s W h.hR h.ten.k1 hf.1 hf.2 (by omega)
  have F := Aid.hide hn
  have HS := Aid.hide hS
  simp only [numsB_one]
  clear hn g4 g9 hu hf hd
  go_enter Try.func46, Try.ntmps46
  go_wp2
  go_region_with ((go_at_call 99; refine ((Aid.unhide F) _ (by (repeat first | assumption | apply WSt.drew | apply WSt.alloc))).mono ?_; rintro e1 w1 ⟨rfl, hw1, hg1⟩))
  all_goals
    go_end0
    exact ⟨rfl, WSt.step (s := s) (by (repeat first | assumption | apply WSt.drew | apply WSt.alloc)) hw1 hg1, grownBy_trans (grown_of_below (by (repeat first | exact Below.refl _ _ | apply below_drew | apply below_alloc)) _) hg1⟩
set_option maxRecDepth 100000 in
set_option maxHeartbeats 400000 in
theorem wpart47 : WPart 47 (fun a => numsB [a.f2]) := by
  intro w0 g r a A4 c4 A9 c9 s w hm g4 g9 hu hs hS
  obtain ⟨hd, hf, _, _⟩ := may_facts hm
  have hf : 0 ≤ a.f2 ∧ a.f2 ≤ 2147483647 := by omega
  have hp : w.cell? ⟨g, 2, none⟩ = some (.int .i64 a.f2) := hS.ten.k2
  have hlp := hS.gs
  have hm := meth_wnum
  have hn : ∀ W, WSt w0 g r a A4 c4 A9 c9 s W → Calls Try.prog 99 #[.pointer (some ⟨r, 0, none⟩), .pointer (some ⟨g, 2, none⟩), .int .i64 7] W _ := fun W h => wnum99 r ⟨g, 2, none⟩ a.f2 7 s W h.hR h.ten.k2 hf.1 hf.2 (by omega)
  have F := Aid.hide hn
  have HS := Aid.hide hS
  simp only [numsB_one]
  clear hn g4 g9 hu hf hd
  go_enter Try.func47, Try.ntmps47
  go_wp2
  go_region_with ((go_at_call 99; refine ((Aid.unhide F) _ (by (repeat first | assumption | apply WSt.drew | apply WSt.alloc))).mono ?_; rintro e1 w1 ⟨rfl, hw1, hg1⟩))
  all_goals
    go_end0
    exact ⟨rfl, WSt.step (s := s) (by (repeat first | assumption | apply WSt.drew | apply WSt.alloc)) hw1 hg1, grownBy_trans (grown_of_below (by (repeat first | exact Below.refl _ _ | apply below_drew | apply below_alloc)) _) hg1⟩
set_option maxRecDepth 100000 in
set_option maxHeartbeats 400000 in
theorem wpart51 : WPart 51 (fun a => numsB [a.f3]) := by
  intro w0 g r a A4 c4 A9 c9 s w hm g4 g9 hu hs hS
  obtain ⟨hd, hf, _, _⟩ := may_facts hm
  have hf : 0 ≤ a.f3 ∧ a.f3 ≤ 2147483647 := by omega
  have hp : w.cell? ⟨g, 3, none⟩ = some (.int .i64 a.f3) := hS.ten.k3
  have hlp := hS.gs
  have hm := meth_wnum
  have hn : ∀ W, WSt w0 g r a A4 c4 A9 c9 s W → Calls Try.prog 99 #[.pointer (some ⟨r, 0, none⟩), .pointer (some ⟨g, 3, none⟩), .int .i64 2147483647] W _ := fun W h => wnum99 r ⟨g, 3, none⟩ a.f3 2147483647 s W h.hR h.ten.k3 hf.1 hf.2 (by omega)
  have F := Aid.hide hn
  have HS := Aid.hide hS
  simp only [numsB_one]
  clear hn g4 g9 hu hf hd
  go_enter Try.func51, Try.ntmps51
  go_wp2
  go_region_with ((go_at_call 99; refine ((Aid.unhide F) _ (by (repeat first | assumption | apply WSt.drew | apply WSt.alloc))).mono ?_; rintro e1 w1 ⟨rfl, hw1, hg1⟩))
  all_goals
    go_end0
    exact ⟨rfl, WSt.step (s := s) (by (repeat first | assumption | apply WSt.drew | apply WSt.alloc)) hw1 hg1, grownBy_trans (grown_of_below (by (repeat first | exact Below.refl _ _ | apply below_drew | apply below_alloc)) _) hg1⟩
theorem numsB_three {x y z : Int} : numsB [x, y, z] = numB x.toNat ++ (numB y.toNat ++ numB z.toNat) := by simp [numsB]
theorem mk3 (s : ByteArray) (a b c : Bytes) : s ++ mk (a ++ (b ++ c)) = s ++ mk a ++ mk b ++ mk c := by rw [mk_append, mk_append, ByteArray.append_assoc, ByteArray.append_assoc]
set_option maxRecDepth 100000 in
set_option maxHeartbeats 1000000 in
theorem wpart49 : WPart 49 (fun a => numsB [a.f5.f0, a.f5.f1, a.f5.f2]) := by
  intro w0 g r a A4 c4 A9 c9 s w hm g4 g9 hu hs hS
  obtain ⟨hd, hf, _, _⟩ := may_facts hm
  have hm := meth_wnum
  have z1 := (numB_len a.f5.f0.toNat (by omega)).2
  have z2 := (numB_len a.f5.f1.toNat (by omega)).2
  have n1 : ∀ W, WFt w0 w.heap.size g r a A4 c4 A9 c9 s W → Calls Try.prog 99 #[.pointer (some ⟨r, 0, none⟩), .pointer (some ⟨g, 5, none⟩), .int .i64 7] W _ := fun W h => wnum99 r ⟨g, 5, none⟩ a.f5.f0 7 s W h.S.hR h.S.ten.k5 (by omega) (by omega) (by omega)
  have n2 : ∀ W, WFt w0 w.heap.size g r a A4 c4 A9 c9 (s ++ mk (numB a.f5.f0.toNat)) W → Calls Try.prog 99 #[.pointer (some ⟨r, 0, none⟩), .pointer (some ⟨g, 6, none⟩), .int .i64 255] W _ := fun W h => wnum99 r ⟨g, 6, none⟩ a.f5.f1 255 _ W h.S.hR h.S.ten.k6 (by omega) (by omega) (by rw [ByteArray.size_append, size_mk]; omega)
  have n3 : ∀ W, WFt w0 w.heap.size g r a A4 c4 A9 c9 (s ++ mk (numB a.f5.f0.toNat) ++ mk (numB a.f5.f1.toNat)) W → Calls Try.prog 99 #[.pointer (some ⟨r, 0, none⟩), .pointer (some ⟨g, 7, none⟩), .int .i64 65535] W _ := fun W h => wnum99 r ⟨g, 7, none⟩ a.f5.f2 65535 _ W h.S.hR h.S.ten.k7 (by omega) (by omega) (by rw [ByteArray.size_append, ByteArray.size_append, size_mk, size_mk]; omega)
  have F := Aid.hide (And.intro n1 (And.intro n2 n3))
  simp only [numsB_three, mk3]
  generalize s ++ mk (numB a.f5.f0.toNat) = s1 at *
  generalize s1 ++ mk (numB a.f5.f1.toNat) = s2 at *
  generalize s2 ++ mk (numB a.f5.f2.toNat) = s3 at *
  clear n1 n2 n3 g4 g9 hu hf hd hs z1 z2
  go_enter Try.func49, Try.ntmps49
  go_upto_region 1 with (fail)
  have hX := hS.boxed
  have hW : w.grownBy (w.alloc (.cells #[.pointer (some ⟨g, 0, none⟩), .iface 69 (.pointer (some ⟨r, 0, none⟩))] 78)) (some r) := World.grownBy_alloc _ _ _
  generalize hw0 : w.alloc (.cells #[.pointer (some ⟨g, 0, none⟩), .iface 69 (.pointer (some ⟨r, 0, none⟩))] 78) = wx at *
  generalize hbx : w.heap.size = b at hX F ⊢
  clear hw0 hbx hS
  obtain ⟨k0, k1, k2, k3, k4, k5, k6, k7, k8, k9⟩ := hX.S.ten
  have f0 := hX.F.c0
  have f1 := hX.F.c1
  have hlp := hX.S.gs
  go_cut [] (fun wx => WFt w0 b g r a A4 c4 A9 c9 s1 wx ∧ w.grownBy wx (some r))
  case first =>
    go_region_with ((go_at_call 99; refine ((Aid.unhide F).1 _ (by (repeat first | assumption | apply WFt.drew | apply WFt.alloc))).mono ?_; rintro e1 w1 ⟨rfl, hw1, hg1⟩))
    all_goals
      go_wp2_with (fail)
      go_meet
      exact ⟨WFt.step (s := s) (by (repeat first | assumption | apply WFt.drew | apply WFt.alloc)) hw1 hg1, grownBy_trans (by (repeat first | assumption | apply Aid.only_drew | apply Aid.only_alloc)) hg1⟩
  case rest =>
    clear k0 k1 k2 k3 k4 k5 k6 k7 k8 k9 f0 f1 hX hlp
    have hX := hcut.1
    clear hW
    have hW := hcut.2
    clear hcut
    go_upto_region 2 with (fail)
    obtain ⟨k0, k1, k2, k3, k4, k5, k6, k7, k8, k9⟩ := hX.S.ten
    have f0 := hX.F.c0
    have f1 := hX.F.c1
    have hlp := hX.S.gs
    go_cut [] (fun wx => WFt w0 b g r a A4 c4 A9 c9 s2 wx ∧ w.grownBy wx (some r))
    case first =>
      go_region_with ((go_at_call 99; refine ((Aid.unhide F).2.1 _ (by (repeat first | assumption | apply WFt.drew | apply WFt.alloc))).mono ?_; rintro e1 w1 ⟨rfl, hw1, hg1⟩))
      all_goals
        go_wp2_with (fail)
        go_meet
        exact ⟨WFt.step (s := s1) (by (repeat first | assumption | apply WFt.drew | apply WFt.alloc)) hw1 hg1, grownBy_trans (by (repeat first | assumption | apply Aid.only_drew | apply Aid.only_alloc)) hg1⟩
    case rest =>
      clear k0 k1 k2 k3 k4 k5 k6 k7 k8 k9 f0 f1 hX hlp
      have hX := hcut.1
      clear hW
      have hW := hcut.2
      clear hcut
      go_upto_region 3 with (fail)
      obtain ⟨k0, k1, k2, k3, k4, k5, k6, k7, k8, k9⟩ := hX.S.ten
      have f0 := hX.F.c0
      have f1 := hX.F.c1
      have hlp := hX.S.gs
      go_region_with ((go_at_call 99; refine ((Aid.unhide F).2.2 _ (by (repeat first | assumption | apply WFt.drew | apply WFt.alloc))).mono ?_; rintro e1 w1 ⟨rfl, hw1, hg1⟩))
      all_goals
        go_end0
        exact ⟨rfl, (WFt.step (s := s2) (by (repeat first | assumption | apply WFt.drew | apply WFt.alloc)) hw1 hg1).S, grownBy_trans (by (repeat first | assumption | apply Aid.only_drew | apply Aid.only_alloc)) hg1⟩
end Go.Proofs.Ytppgbahiolhgbaa
end
section
set_option linter.unusedVariables false
set_option linter.unusedSimpArgs false
namespace Go.Proofs.Ytppgbahiolhgbaa
open Go.RowKit Go.Proofs.YtppgbahiolhgbaaW.PrintWords Sp
open PScriptReads
theorem ActAt.setYes {w : World} {g : Nat} {a : S37} {A4 : Option Addr} {c4 : Nat} {A9 : Option Addr} {c9 : Nat} (h : ActAt w g a A4 c4 A9 c9) : ActAt (w.setCell ⟨g, 8, none⟩ (.bool a.f6)) g a A4 c4 A9 c9 := by
  unfold ActAt at *
  rw [blk_set h]
  rfl
theorem ActAt.frz {w : World} {g o : Nat} {a : S37} {A4 : Option Addr} {c4 : Nat} {A9 : Option Addr} {c9 : Nat} (h : ActAt w g a A4 c4 A9 c9) : w.frozen? ⟨g, o, none⟩ = false := by
  unfold ActAt at h
  simp [World.frozen?, h]
theorem WrAt.far {W : World} {r c o : Nat} {s : ByteArray} {v : Value} (h : WrAt W r s) (hne : r ≠ c) : WrAt (W.setCell ⟨c, o, none⟩ v) r s := blk_far h hne
theorem WSt.setYes {w0 : World} {g r : Nat} {a : S37} {A4 : Option Addr} {c4 : Nat} {A9 : Option Addr} {c9 : Nat} {s : ByteArray} {W : World} (h : WSt w0 g r a A4 c4 A9 c9 s W) {y : Bool} (hy : y = a.f6) : WSt w0 g r a A4 c4 A9 c9 s (W.setCell ⟨g, 8, none⟩ (.bool y)) :=
  ⟨by subst hy; exact h.hA.setYes, h.hR.far (Ne.symm h.ne), h.hB.setCell h.lg _, h.lr, h.lg⟩
theorem grown_same {w W : World} {b o : Nat} {v : Value} {cs : Array Value} {t : TypeId} {row : Option Nat} (h : W.heap[b]? = some (.cells cs t (0, 0))) (hv : cs.set! o v = cs) (hg : w.grownBy W row) : w.grownBy (W.setCell ⟨b, o, none⟩ v) row :=
  ⟨hg.os, hg.tape, hg.output, by simpa [World.setCell] using hg.size, fun i hi hne => by
    by_cases e : i = b
    · subst e; rw [blk_set h, hv, ← h]; exact hg.block i hi hne
    · exact (Below.heap_setCell W ⟨b, o, none⟩ v i e).trans (hg.block i hi hne)⟩
theorem ActAt.grown {w W : World} {g : Nat} {a : S37} {A4 : Option Addr} {c4 : Nat} {A9 : Option Addr} {c9 : Nat} {row : Option Nat} {y : Bool} (h : ActAt W g a A4 c4 A9 c9) (hy : y = a.f6) (hg : w.grownBy W row) : w.grownBy (W.setCell ⟨g, 8, none⟩ (.bool y)) row := by
  subst hy
  exact grown_same h rfl hg
structure WNt (w0 : World) (q b g r : Nat) (n : Int) (a : S37) (A4 : Option Addr) (c4 : Nat) (A9 : Option Addr) (c9 : Nat) (s : ByteArray) (W : World) : Prop where
  S : WFt w0 b g r a A4 c4 A9 c9 s W
  N : W.heap[q]? = some (.cells #[.int .i64 n] 3 (0, 0))
section
variable {w0 : World} {q b g r : Nat} {n : Int} {a : S37} {A4 : Option Addr} {c4 : Nat} {A9 : Option Addr} {c9 : Nat} {s s' : ByteArray} {W W1 : World}
theorem WNt.ne (h : WNt w0 q b g r n a A4 c4 A9 c9 s W) : q ≠ r := by
  rintro rfl
  have h1 := h.N
  have h2 := h.S.S.hR
  unfold WrAt at h2
  rw [h1] at h2
  injection h2 with h2
  injection h2 with _ h2
  exact absurd h2 (by decide)
theorem WNt.neb (h : WNt w0 q b g r n a A4 c4 A9 c9 s W) : b ≠ q := by
  rintro rfl
  have h1 := h.N
  have h2 := h.S.F
  unfold FAt at h2
  rw [h1] at h2
  injection h2 with h2
  injection h2 with _ h2
  exact absurd h2 (by decide)
theorem WNt.neg (h : WNt w0 q b g r n a A4 c4 A9 c9 s W) : g ≠ q := by
  rintro rfl
  have h1 := h.N
  have h2 := h.S.S.hA
  unfold ActAt at h2
  rw [h1] at h2
  injection h2 with h2
  injection h2 with _ h2
  exact absurd h2 (by decide)
theorem WNt.below (h : WNt w0 q b g r n a A4 c4 A9 c9 s W) (hb : Below W.heap.size W W1) : WNt w0 q b g r n a A4 c4 A9 c9 s W1 := ⟨h.S.below hb, blk_of h.N hb⟩
theorem WNt.alloc (h : WNt w0 q b g r n a A4 c4 A9 c9 s W) (o : Obj) : WNt w0 q b g r n a A4 c4 A9 c9 s (W.alloc o) := h.below (below_alloc (Below.refl _ _) o)
theorem WNt.step (h : WNt w0 q b g r n a A4 c4 A9 c9 s W) (hw : WrAt W1 r s') (hg : W.grownBy W1 (some r)) : WNt w0 q b g r n a A4 c4 A9 c9 s' W1 :=
  ⟨h.S.step hw hg, blk_grown h.N hg (by intro e; injection e with e; exact h.ne e)⟩
theorem WNt.cell (h : WNt w0 q b g r n a A4 c4 A9 c9 s W) : W.cell? ⟨q, 0, none⟩ = some (.int .i64 n) := (blk_cell h.N 0).trans rfl
theorem WNt.lt (h : WNt w0 q b g r n a A4 c4 A9 c9 s W) : q < W.heap.size := blk_lt h.N
theorem WFt.num (h : WFt w0 b g r a A4 c4 A9 c9 s W) (n : Int) : WNt w0 W.heap.size b g r n a A4 c4 A9 c9 s (W.alloc (.cells #[.int .i64 n] 3)) := ⟨h.alloc _, blk_new rfl⟩
theorem WNt.out (h : WNt w0 q b g r n a A4 c4 A9 c9 s W) (hr : w0.heap.size ≤ q) (m : Int) : WNt w0 q b g r m a A4 c4 A9 c9 s (W.setCell ⟨q, 0, none⟩ (.int .i64 m)) :=
  ⟨⟨⟨blk_far h.S.S.hA h.neg, blk_far h.S.S.hR (Ne.symm h.ne), h.S.S.hB.setCell hr _, h.S.S.lr, h.S.S.lg⟩, blk_far h.S.F h.neb⟩, blk_set h.N⟩
theorem WNt.call (h : WNt w0 q b g r n a A4 c4 A9 c9 s W) (m : Int) (h0 : 0 ≤ n) (h1 : n ≤ 2147483647) (hs : s.size ≤ 4611686018427387904) : Calls Try.prog 99 #[.pointer (some ⟨r, 0, none⟩), .pointer (some ⟨q, 0, none⟩), .int .i64 m] W fun e w' => e = .returned (.tuple #[]) ∧ WNt w0 q b g r n a A4 c4 A9 c9 (s ++ Sp.mk (numB n.toNat)) w' ∧ W.grownBy w' (some r) :=
  (wnum99 r ⟨q, 0, none⟩ n m s W h.S.S.hR h.cell h0 h1 hs).mono fun _ _ k => ⟨k.1, h.step k.2.1 k.2.2, k.2.2⟩
end
set_option maxRecDepth 100000 in
set_option maxHeartbeats 1000000 in
theorem wpart50 : WPart 50 (fun a => numsB [if a.f6 = true then 1 else 0]) := by
  intro w0 g r a A4 c4 A9 c9 s w hm g4 g9 hu hs hS
  have hm := meth_wnum
  have hX := hS.boxed
  have hsz : w0.heap.size ≤ w.heap.size := hS.hB.size
  have hW : w.grownBy (w.alloc (.cells #[.pointer (some ⟨g, 0, none⟩), .iface 69 (.pointer (some ⟨r, 0, none⟩))] 78)) (some r) := World.grownBy_alloc _ _ _
  obtain ⟨y, hy⟩ : ∃ y, y = a.f6 := ⟨_, rfl⟩
  have Y := Aid.hide hy
  dsimp only
  rw [← hy]
  clear g4 g9 hu hy
  go_enter Try.func50, Try.ntmps50
  go_upto_region 1 with (fail)
  generalize hw0 : w.alloc (.cells #[.pointer (some ⟨g, 0, none⟩), .iface 69 (.pointer (some ⟨r, 0, none⟩))] 78) = wx at *
  have hsx : w.heap.size < wx.heap.size := hX.F.lt
  generalize hbx : w.heap.size = b at hX ⊢
  clear hw0 hbx hS
  go_upto_region 2 with (fail)
  have hN := hX.num 0
  have hV : w.grownBy (wx.alloc (.cells #[.int .i64 0] 3)) (some r) := Aid.only_alloc hW _
  have hqx : w.heap.size ≤ wx.heap.size := Nat.le_of_lt hsx
  generalize hw1 : wx.alloc (.cells #[.int .i64 0] 3) = wy at *
  generalize hbx : wx.heap.size = q at *
  clear hw1 hbx hX hW hsx
  obtain ⟨k0, k1, k2, k3, k4, k5, k6, k7, k8, k9⟩ := hN.S.S.ten
  rw [← Aid.unhide Y] at k8
  have f0 := hN.S.F.c0
  have f1 := hN.S.F.c1
  have n0 := hN.cell
  have nz : wy.frozen? ⟨q, 0, none⟩ = false := by have h := hN.N; simp [World.frozen?, h]
  clear k0 k1 k2 k3 k4 k5 k6 k7 k9
  have hq := hN.lt
  have hg := hN.S.S.gs
  cases y with
  | false =>
    have hN' := Aid.hide (hN.call 1 (by omega) (by omega) (by omega))
    clear hN
    go_wp2_with (go_at_call 99; (refine (Aid.unhide hN').mono ?_; rintro e1 w1 ⟨rfl, hN, hg1⟩; have f0 := hN.S.F.c0; have f1 := hN.S.F.c1; have n0 := hN.cell; have k8 := hN.S.S.ten.k8; have fz := hN.S.S.hA.frz (o := 8)))
    go_end0
    exact ⟨rfl, WSt.setYes hN.S.S (Aid.unhide Y), hN.S.S.hA.grown (Aid.unhide Y) (grownBy_trans hV hg1)⟩
  | true =>
    have hN1 := hN.out (by omega) 1
    have hN' := Aid.hide (hN1.call 1 (by omega) (by omega) (by omega))
    clear hN hN1
    go_wp2_with (go_at_call 99; (refine (Aid.unhide hN').mono ?_; rintro e1 w1 ⟨rfl, hN, hg1⟩; have f0 := hN.S.F.c0; have f1 := hN.S.F.c1; have n0 := hN.cell; have k8 := hN.S.S.ten.k8; have fz := hN.S.S.hA.frz (o := 8)))
    go_end0
    exact ⟨rfl, WSt.setYes hN.S.S (Aid.unhide Y), hN.S.S.hA.grown (Aid.unhide Y) (grownBy_trans (Aid.only_setCell hV (Or.inr hqx) _) hg1)⟩
end Go.Proofs.Ytppgbahiolhgbaa
end
section
set_option linter.unusedVariables false
set_option linter.unusedSimpArgs false
namespace Go.Proofs.Ytppgbahiolhgbaa
open Go.RowKit Go.Proofs.YtppgbahiolhgbaaW.PrintWords Sp
open PScriptReads
theorem wp_region_tail {P : Program} {id : Nat} {Q : Exit → Act → World → Prop} {a : Act} {w : World} {l : List Oper} (n : Nat) (hm : P.follows .mixedOrders = true) (hB : Region.lexTailB .any l.toArray n = true)
    (h : wpStill P l.toArray w.drew (fun a' => wpList P l.toArray Q (l.drop n) a' w.drew) (l.take n) a) : (Code.region id l.toArray true).wp P Q a w := wp_region_still_tail n hm hB h
structure RSt (w0 : World) (g r i : Nat) (a : S37) (v4 v9 : Value) (s : ByteArray) (W : World) : Prop where
  hA : ActV W g a v4 v9
  hR : RdAt W r s
  hI : W.heap[i]? = some (.cells #[.bool false] 4 (0, 0))
  hG : k48.R 48 W w0.heap.size (fun _ => True) v4 a.f4
  hS : k51.R 51 W w0.heap.size (fun _ => True) v9 a.f7
  hB : Below w0.heap.size w0 W
  lg : w0.heap.size ≤ g
  lr : w0.heap.size ≤ r
  li : w0.heap.size ≤ i
theorem ty_ne {W : World} {b c : Nat} {x y : Array Value} {t u : TypeId} (h : W.heap[b]? = some (.cells x t (0, 0))) (k : W.heap[c]? = some (.cells y u (0, 0))) (hne : t ≠ u) : b ≠ c := by
  rintro rfl
  rw [h] at k
  injection k with k
  injection k with _ k
  exact hne k
section
variable {w0 : World} {g r i : Nat} {a a' : S37} {v4 v9 u : Value} {s t : ByteArray} {W W1 : World}
theorem RSt.gr (h : RSt w0 g r i a v4 v9 s W) : g ≠ r := ty_ne h.hA h.hR (by decide)
theorem RSt.gi (h : RSt w0 g r i a v4 v9 s W) : g ≠ i := ty_ne h.hA h.hI (by decide)
theorem RSt.ir (h : RSt w0 g r i a v4 v9 s W) : i ≠ r := ty_ne h.hI h.hR (by decide)
theorem RSt.below (h : RSt w0 g r i a v4 v9 s W) (hb : Below W.heap.size W W1) : RSt w0 g r i a v4 v9 s W1 :=
  ⟨h.hA.below hb, h.hR.below hb, blk_of h.hI hb, Kd.R_below h.hG hb, Kd.R_below h.hS hb, h.hB.trans (hb.mono h.hB.size), h.lg, h.lr, h.li⟩
theorem RSt.alloc (h : RSt w0 g r i a v4 v9 s W) (o : Obj) : RSt w0 g r i a v4 v9 s (W.alloc o) := h.below (below_alloc (Below.refl _ _) o)
theorem RSt.drew (h : RSt w0 g r i a v4 v9 s W) : RSt w0 g r i a v4 v9 s W.drew := h.below (below_drew (Below.refl _ _))
theorem Took.below {p : Addr} {n : Nat} (h : Took W r p u t W1) (hr : n ≤ r) (hp : n ≤ p.block) : Below n W W1 :=
  ⟨h.os, h.tape, h.output, Nat.le_of_eq h.size.symm, fun k hk => h.far k (by omega) (by omega)⟩
theorem Kd.R_took {α : Type} {d : Kd α} {e : Nat} {base : Nat} {v : Value} {xs : List α} {p : Addr} {x y : Array Value} {tx ty : TypeId} (hR : d.R e W base (fun _ => True) v xs) (h : Took W r p u t W1) (hr : W.heap[r]? = some (.cells x tx (0, 0))) (hp : W.heap[p.block]? = some (.cells y ty (0, 0))) (h1 : ∀ q, q ∈ e :: d.E → q ≠ tx) (h2 : ∀ q, q ∈ e :: d.E → q ≠ ty) : d.R e W1 base (fun _ => True) v xs :=
  Kd.R_mono (Kd.R_step (Kd.R_types (Kd.R_types hR hr h1) hp h2) (fun k hk _ => h.far k hk.1.2 hk.2)) (fun _ _ => trivial)
theorem RSt.took (h : RSt w0 g r i a v4 v9 s W) {o : Nat} (hT : Took W r ⟨g, o, none⟩ u t W1) (ha : (actW a v4 v9).set! o u = actW a' v4 v9) (h4 : a'.f4 = a.f4) (h7 : a'.f7 = a.f7) : RSt w0 g r i a' v4 v9 t W1 := by
  refine ⟨?_, hT.rd, (hT.far i h.ir (Ne.symm h.gi)).trans h.hI, by rw [h4]; exact Kd.R_took h.hG hT h.hR h.hA (by decide) (by decide), by rw [h7]; exact Kd.R_took h.hS hT h.hR h.hA (by decide) (by decide), h.hB.trans (hT.below h.lr h.lg), h.lg, h.lr, h.li⟩
  have := hT.at_
  unfold ActV
  have e : (⟨g, o, none⟩ : Addr).block = g := rfl
  rw [e] at this
  rw [this, blk_set h.hA, ha]
end
def Keep2 (W : World) (g r : Nat) (W1 : World) : Prop := W.heap.size ≤ W1.heap.size ∧ ∀ k, k < W.heap.size → k ≠ g → k ≠ r → W1.heap[k]? = W.heap[k]?
theorem Keep2.refl (W : World) (g r : Nat) : Keep2 W g r W := ⟨Nat.le_refl _, fun _ _ _ _ => rfl⟩
theorem Keep2.below {W W1 W2 : World} {g r : Nat} (h : Keep2 W g r W1) (hb : Below W1.heap.size W1 W2) : Keep2 W g r W2 :=
  ⟨Nat.le_trans h.1 hb.size, fun k hk h1 h2 => (hb.block k (Nat.lt_of_lt_of_le hk h.1)).trans (h.2 k hk h1 h2)⟩
theorem Keep2.took {W W1 W2 : World} {g r o : Nat} {u : Value} {t : ByteArray} (h : Keep2 W g r W1) (hT : Took W1 r ⟨g, o, none⟩ u t W2) : Keep2 W g r W2 :=
  ⟨by rw [hT.size]; exact h.1, fun k hk h1 h2 => (hT.far k h2 h1).trans (h.2 k hk h1 h2)⟩
theorem Keep2.trans {W W1 W2 : World} {g r : Nat} (h : Keep2 W g r W1) (k : Keep2 W1 g r W2) : Keep2 W g r W2 :=
  ⟨Nat.le_trans h.1 k.1, fun b hb h1 h2 => (k.2 b (Nat.lt_of_lt_of_le hb h.1) h1 h2).trans (h.2 b hb h1 h2)⟩
structure DSt (w0 : World) (g i : Nat) (W : World) : Prop where
  hA : ∃ a v4 v9, ActV W g a v4 v9
  hI : W.heap[i]? = some (.cells #[.bool false] 4 (0, 0))
  hB : Below w0.heap.size w0 W
  lg : w0.heap.size ≤ g
  li : w0.heap.size ≤ i
theorem RSt.dead {w0 : World} {g r i : Nat} {a : S37} {v4 v9 : Value} {s : ByteArray} {W : World} (h : RSt w0 g r i a v4 v9 s W) : DSt w0 g i W := ⟨⟨a, v4, v9, h.hA⟩, h.hI, h.hB, h.lg, h.li⟩
structure RFt (w0 : World) (b g r i : Nat) (a : S37) (v4 v9 : Value) (s : ByteArray) (W : World) : Prop where
  S : RSt w0 g r i a v4 v9 s W
  F : FAt W b g 88 r
section
variable {w0 : World} {b g r i : Nat} {a a' : S37} {v4 v9 u : Value} {s t : ByteArray} {W W1 : World}
theorem RFt.br (h : RFt w0 b g r i a v4 v9 s W) : b ≠ r := ty_ne h.F h.S.hR (by decide)
theorem RFt.bg (h : RFt w0 b g r i a v4 v9 s W) : b ≠ g := ty_ne h.F h.S.hA (by decide)
theorem RFt.below (h : RFt w0 b g r i a v4 v9 s W) (hb : Below W.heap.size W W1) : RFt w0 b g r i a v4 v9 s W1 := ⟨h.S.below hb, h.F.below hb⟩
theorem RFt.alloc (h : RFt w0 b g r i a v4 v9 s W) (o : Obj) : RFt w0 b g r i a v4 v9 s (W.alloc o) := h.below (below_alloc (Below.refl _ _) o)
theorem RFt.drew (h : RFt w0 b g r i a v4 v9 s W) : RFt w0 b g r i a v4 v9 s W.drew := h.below (below_drew (Below.refl _ _))
theorem RFt.took (h : RFt w0 b g r i a v4 v9 s W) {o : Nat} (hT : Took W r ⟨g, o, none⟩ u t W1) (ha : (actW a v4 v9).set! o u = actW a' v4 v9) (h4 : a'.f4 = a.f4) (h7 : a'.f7 = a.f7) : RFt w0 b g r i a' v4 v9 t W1 :=
  ⟨h.S.took hT ha h4 h7, (hT.far b h.br h.bg).trans h.F⟩
theorem RSt.boxed (h : RSt w0 g r i a v4 v9 s W) : RFt w0 W.heap.size g r i a v4 v9 s (W.alloc (.cells #[.pointer (some ⟨g, 0, none⟩), .iface 88 (.pointer (some ⟨r, 0, none⟩))] 78)) := ⟨h.alloc _, FAt.new _ _ _ _⟩
end
def RPost (w0 : World) (g r i : Nat) (W : World) (q : Option (S37 × Bytes)) (e : Ending) (w' : World) : Prop :=
  match q with
  | some (a, t) => e = .returned (.tuple #[]) ∧ (∃ v4 v9, RSt w0 g r i a v4 v9 (mk t) w') ∧ Keep2 W g r w'
  | none => e = .panicked thrownN ∧ DSt w0 g i w'
def RPart (f : Nat) (rd : S37 → Bytes → Option (S37 × Bytes)) : Prop := ∀ (w0 : World) (g r i : Nat) (a : S37) (v4 v9 : Value) (s : ByteArray) (W : World),
  s.size ≤ 1000000 → RSt w0 g r i a v4 v9 s W → Calls Try.prog f #[formV g 88 r] W (RPost w0 g r i W (rd a (L s)))
def rdOne (m : Nat) (put : S37 → Int → S37) (a : S37) (l : Bytes) : Option (S37 × Bytes) := (numP m l).map fun q => (put a (q.1 : Int), q.2)
theorem numP_le {m v : Nat} {l t : Bytes} (h : numP m l = some (v, t)) : v ≤ m ∧ t.length ≤ l.length := by
  unfold numP at h
  split at h
  · rename_i hc
    injection h with h
    injection h with h1 h2
    subst h1; subst h2
    exact ⟨hc.2, by rw [List.length_drop]; omega⟩
  · simp at h
set_option maxRecDepth 100000 in
set_option maxHeartbeats 1000000 in
theorem rpart46 : RPart 46 (rdOne 7 (fun a v => { a with f1 := v })) := by
  intro w0 g r i a v4 v9 s w hs hS
  have hp : w.cell? ⟨g, 1, none⟩ = some (.int .i64 a.f1) := hS.hA.ten.k1
  have hlp := hS.hA.lt
  have hm := meth_rnum
  unfold rdOne
  cases h : numP 7 (L s) with
  | none =>
    have hn : ∀ W, RSt w0 g r i a v4 v9 s W → Calls Try.prog 103 #[.pointer (some ⟨r, 0, none⟩), .pointer (some ⟨g, 1, none⟩), .int .i64 7] W _ := fun W k => rnum103_no r ⟨g, 1, none⟩ 7 s W k.hR (by omega) h
    have F := Aid.hide hn
    have HS := Aid.hide hS
    clear hn hS h hs
    go_enter Try.func46, Try.ntmps46
    go_wp2
    refine wp_region_tail 8 (by kernel_rfl) (by kernel_rfl) ?_
    simp only [List.take_succ_cons, List.take_zero, List.drop_succ_cons, List.drop_zero]
    repeat still_step
    refine wpStill_nil ?_
    go_wp2_with (go_at_call 103; refine ((Aid.unhide F) _ (by (repeat first | exact Aid.unhide HS | apply RSt.drew | apply RSt.alloc))).mono ?_; rintro e1 w1 ⟨rfl, rfl⟩)
    exact ⟨rfl, rfl, (RSt.dead (s := s) (by (repeat first | exact Aid.unhide HS | apply RSt.drew | apply RSt.alloc)))⟩
  | some q =>
    obtain ⟨v, t⟩ := q
    have hn : ∀ W, RSt w0 g r i a v4 v9 s W → Calls Try.prog 103 #[.pointer (some ⟨r, 0, none⟩), .pointer (some ⟨g, 1, none⟩), .int .i64 7] W _ := fun W k => rnum103_ok r ⟨g, 1, none⟩ 7 v a.f1 s t W k.hR k.hA.ten.k1 (k.hA.frz 1) k.gr (by omega) h
    have F := Aid.hide hn
    have HS := Aid.hide hS
    clear hn hS h hs
    go_enter Try.func46, Try.ntmps46
    go_wp2
    go_region_with ((go_at_call 103; refine ((Aid.unhide F) _ (by (repeat first | exact Aid.unhide HS | apply RSt.drew | apply RSt.alloc))).mono ?_; rintro e1 w1 ⟨rfl, hT⟩))
    all_goals
      go_end0
      exact ⟨rfl, ⟨v4, v9, RSt.took (a := a) (a' := { a with f1 := (v : Int) }) (s := s) (by (repeat first | exact Aid.unhide HS | apply RSt.drew | apply RSt.alloc)) hT rfl rfl rfl⟩, Keep2.took ((Keep2.refl _ _ _).below (by (repeat first | exact Below.refl _ _ | apply below_drew | apply below_alloc))) hT⟩
set_option maxRecDepth 100000 in
set_option maxHeartbeats 1000000 in
theorem rpart47 : RPart 47 (rdOne 7 (fun a v => { a with f2 := v })) := by
  intro w0 g r i a v4 v9 s w hs hS
  have hp : w.cell? ⟨g, 2, none⟩ = some (.int .i64 a.f2) := hS.hA.ten.k2
  have hlp := hS.hA.lt
  have hm := meth_rnum
  unfold rdOne
  cases h : numP 7 (L s) with
  | none =>
    have hn : ∀ W, RSt w0 g r i a v4 v9 s W → Calls Try.prog 103 #[.pointer (some ⟨r, 0, none⟩), .pointer (some ⟨g, 2, none⟩), .int .i64 7] W _ := fun W k => rnum103_no r ⟨g, 2, none⟩ 7 s W k.hR (by omega) h
    have F := Aid.hide hn
    have HS := Aid.hide hS
    clear hn hS h hs
    go_enter Try.func47, Try.ntmps47
    go_wp2
    refine wp_region_tail 8 (by kernel_rfl) (by kernel_rfl) ?_
    simp only [List.take_succ_cons, List.take_zero, List.drop_succ_cons, List.drop_zero]
    repeat still_step
    refine wpStill_nil ?_
    go_wp2_with (go_at_call 103; refine ((Aid.unhide F) _ (by (repeat first | exact Aid.unhide HS | apply RSt.drew | apply RSt.alloc))).mono ?_; rintro e1 w1 ⟨rfl, rfl⟩)
    exact ⟨rfl, rfl, (RSt.dead (s := s) (by (repeat first | exact Aid.unhide HS | apply RSt.drew | apply RSt.alloc)))⟩
  | some q =>
    obtain ⟨v, t⟩ := q
    have hn : ∀ W, RSt w0 g r i a v4 v9 s W → Calls Try.prog 103 #[.pointer (some ⟨r, 0, none⟩), .pointer (some ⟨g, 2, none⟩), .int .i64 7] W _ := fun W k => rnum103_ok r ⟨g, 2, none⟩ 7 v a.f2 s t W k.hR k.hA.ten.k2 (k.hA.frz 2) k.gr (by omega) h
    have F := Aid.hide hn
    have HS := Aid.hide hS
    clear hn hS h hs
    go_enter Try.func47, Try.ntmps47
    go_wp2
    go_region_with ((go_at_call 103; refine ((Aid.unhide F) _ (by (repeat first | exact Aid.unhide HS | apply RSt.drew | apply RSt.alloc))).mono ?_; rintro e1 w1 ⟨rfl, hT⟩))
    all_goals
      go_end0
      exact ⟨rfl, ⟨v4, v9, RSt.took (a := a) (a' := { a with f2 := (v : Int) }) (s := s) (by (repeat first | exact Aid.unhide HS | apply RSt.drew | apply RSt.alloc)) hT rfl rfl rfl⟩, Keep2.took ((Keep2.refl _ _ _).below (by (repeat first | exact Below.refl _ _ | apply below_drew | apply below_alloc))) hT⟩
set_option maxRecDepth 100000 in
set_option maxHeartbeats 1000000 in
theorem rpart51 : RPart 51 (rdOne 2147483647 (fun a v => { a with f3 := v })) := by
  intro w0 g r i a v4 v9 s w hs hS
  have hp : w.cell? ⟨g, 3, none⟩ = some (.int .i64 a.f3) := hS.hA.ten.k3
  have hlp := hS.hA.lt
  have hm := meth_rnum
  unfold rdOne
  cases h : numP 2147483647 (L s) with
  | none =>
    have hn : ∀ W, RSt w0 g r i a v4 v9 s W → Calls Try.prog 103 #[.pointer (some ⟨r, 0, none⟩), .pointer (some ⟨g, 3, none⟩), .int .i64 2147483647] W _ := fun W k => rnum103_no r ⟨g, 3, none⟩ 2147483647 s W k.hR (by omega) h
    have F := Aid.hide hn
    have HS := Aid.hide hS
    clear hn hS h hs
    go_enter Try.func51, Try.ntmps51
    go_wp2
    refine wp_region_tail 8 (by kernel_rfl) (by kernel_rfl) ?_
    simp only [List.take_succ_cons, List.take_zero, List.drop_succ_cons, List.drop_zero]
    repeat still_step
    refine wpStill_nil ?_
    go_wp2_with (go_at_call 103; refine ((Aid.unhide F) _ (by (repeat first | exact Aid.unhide HS | apply RSt.drew | apply RSt.alloc))).mono ?_; rintro e1 w1 ⟨rfl, rfl⟩)
    exact ⟨rfl, rfl, (RSt.dead (s := s) (by (repeat first | exact Aid.unhide HS | apply RSt.drew | apply RSt.alloc)))⟩
  | some q =>
    obtain ⟨v, t⟩ := q
    have hn : ∀ W, RSt w0 g r i a v4 v9 s W → Calls Try.prog 103 #[.pointer (some ⟨r, 0, none⟩), .pointer (some ⟨g, 3, none⟩), .int .i64 2147483647] W _ := fun W k => rnum103_ok r ⟨g, 3, none⟩ 2147483647 v a.f3 s t W k.hR k.hA.ten.k3 (k.hA.frz 3) k.gr (by omega) h
    have F := Aid.hide hn
    have HS := Aid.hide hS
    clear hn hS h hs
    go_enter Try.func51, Try.ntmps51
    go_wp2
    go_region_with ((go_at_call 103; refine ((Aid.unhide F) _ (by (repeat first | exact Aid.unhide HS | apply RSt.drew | apply RSt.alloc))).mono ?_; rintro e1 w1 ⟨rfl, hT⟩))
    all_goals
      go_end0
      exact ⟨rfl, ⟨v4, v9, RSt.took (a := a) (a' := { a with f3 := (v : Int) }) (s := s) (by (repeat first | exact Aid.unhide HS | apply RSt.drew | apply RSt.alloc)) hT rfl rfl rfl⟩, Keep2.took ((Keep2.refl _ _ _).below (by (repeat first | exact Below.refl _ _ | apply below_drew | apply below_alloc))) hT⟩
def rdTxn (a : S37) (l : Bytes) : Option (S37 × Bytes) :=
  (numP 7 l).bind fun q1 => (numP 255 q1.2).bind fun q2 => (numP 65535 q2.2).bind fun q3 => some ({ a with f5 := ⟨(q1.1 : Int), (q2.1 : Int), (q3.1 : Int)⟩ }, q3.2)
set_option maxRecDepth 100000 in
set_option maxHeartbeats 4000000 in
theorem rpart49 : RPart 49 rdTxn := by
  intro w0 g r i a v4 v9 s w hs hS
  have hm := meth_rnum
  obtain ⟨q0, hq0⟩ : ∃ q, q = rdTxn a (L s) := ⟨_, rfl⟩
  rw [← hq0]
  unfold rdTxn at hq0
  have Q0 := Aid.hide hq0
  clear hq0
  go_enter Try.func49, Try.ntmps49
  go_upto_region 1 with (fail)
  have hX := hS.boxed
  have hK : Keep2 w g r (w.alloc (.cells #[.pointer (some ⟨g, 0, none⟩), .iface 88 (.pointer (some ⟨r, 0, none⟩))] 78)) := (Keep2.refl _ _ _).below (below_alloc (Below.refl _ _) _)
  generalize w.alloc (.cells #[.pointer (some ⟨g, 0, none⟩), .iface 88 (.pointer (some ⟨r, 0, none⟩))] 78) = wx at *
  generalize w.heap.size = b at hX ⊢
  clear hS
  go_upto_region 1 with (fail)
  have f0 := hX.F.c0
  have f1 := hX.F.c1
  cases h1 : numP 7 (L s) with
  | none =>
    have C := Aid.hide (fun W (k : RFt w0 b g r i (a) v4 v9 s W) => rnum103_no r ⟨g, 5, none⟩ 7 s W k.S.hR (by omega) (by rw [show L s = L s from rfl]; exact h1))
    have H := Aid.hide (And.intro hX hK)
    clear hX hK
    refine wp_region_tail 9 (by kernel_rfl) (by kernel_rfl) ?_
    simp only [List.take_succ_cons, List.take_zero, List.drop_succ_cons, List.drop_zero]
    repeat still_step
    refine wpStill_nil ?_
    go_wp2_with (go_at_call 103; refine (Aid.unhide C _ (by (repeat first | exact (Aid.unhide H).1 | apply RFt.drew | apply RFt.alloc))).mono ?_; rintro e1 w1 ⟨rfl, rfl⟩)
    refine ⟨rfl, ?_⟩
    rw [Aid.unhide Q0, h1, Option.bind_none]
    exact ⟨rfl, RSt.dead (RFt.S (by (repeat first | exact (Aid.unhide H).1 | apply RFt.drew | apply RFt.alloc)))⟩
  | some q =>
    obtain ⟨n1, t1⟩ := q
    have C := Aid.hide (fun W (k : RFt w0 b g r i (a) v4 v9 s W) => rnum103_ok r ⟨g, 5, none⟩ 7 n1 _ s t1 W k.S.hR k.S.hA.ten.k5 (k.S.hA.frz 5) k.S.gr (by omega) (by rw [show L s = L s from rfl]; exact h1))
    have H := Aid.hide (And.intro hX hK)
    clear hX hK
    refine wp_region_tail 9 (by kernel_rfl) (by kernel_rfl) ?_
    simp only [List.take_succ_cons, List.take_zero, List.drop_succ_cons, List.drop_zero]
    repeat still_step
    refine wpStill_nil ?_
    go_wp2_with (go_at_call 103; refine (Aid.unhide C _ (by (repeat first | exact (Aid.unhide H).1 | apply RFt.drew | apply RFt.alloc))).mono ?_; rintro e1 w1 ⟨rfl, hT⟩)
    have hX := RFt.took (a := a) (a' := { a with f5 := { a.f5 with f0 := (n1 : Int) } }) (by (repeat first | exact (Aid.unhide H).1 | apply RFt.drew | apply RFt.alloc)) hT rfl rfl rfl
    have hK := Keep2.took ((Aid.unhide H).2.below (by (repeat first | exact Below.refl _ _ | apply below_drew | apply below_alloc))) hT
    clear hT C H f0 f1
    go_upto_region 2 with (fail)
    have f0 := hX.F.c0
    have f1 := hX.F.c1
    cases h2 : numP 255 t1 with
    | none =>
      have C := Aid.hide (fun W (k : RFt w0 b g r i ({ a with f5 := { a.f5 with f0 := (n1 : Int) } }) v4 v9 (mk t1) W) => rnum103_no r ⟨g, 6, none⟩ 255 (mk t1) W k.S.hR (by omega) (by rw [L_mk]; exact h2))
      have H := Aid.hide (And.intro hX hK)
      clear hX hK
      refine wp_region_tail 9 (by kernel_rfl) (by kernel_rfl) ?_
      simp only [List.take_succ_cons, List.take_zero, List.drop_succ_cons, List.drop_zero]
      repeat still_step
      refine wpStill_nil ?_
      go_wp2_with (go_at_call 103; refine (Aid.unhide C _ (by (repeat first | exact (Aid.unhide H).1 | apply RFt.drew | apply RFt.alloc))).mono ?_; rintro e1 w1 ⟨rfl, rfl⟩)
      refine ⟨rfl, ?_⟩
      rw [Aid.unhide Q0, h1, Option.bind_some, h2, Option.bind_none]
      exact ⟨rfl, RSt.dead (RFt.S (by (repeat first | exact (Aid.unhide H).1 | apply RFt.drew | apply RFt.alloc)))⟩
    | some q =>
      obtain ⟨n2, t2⟩ := q
      have C := Aid.hide (fun W (k : RFt w0 b g r i ({ a with f5 := { a.f5 with f0 := (n1 : Int) } }) v4 v9 (mk t1) W) => rnum103_ok r ⟨g, 6, none⟩ 255 n2 _ (mk t1) t2 W k.S.hR k.S.hA.ten.k6 (k.S.hA.frz 6) k.S.gr (by omega) (by rw [L_mk]; exact h2))
      have H := Aid.hide (And.intro hX hK)
      clear hX hK
      refine wp_region_tail 9 (by kernel_rfl) (by kernel_rfl) ?_
      simp only [List.take_succ_cons, List.take_zero, List.drop_succ_cons, List.drop_zero]
      repeat still_step
      refine wpStill_nil ?_
      go_wp2_with (go_at_call 103; refine (Aid.unhide C _ (by (repeat first | exact (Aid.unhide H).1 | apply RFt.drew | apply RFt.alloc))).mono ?_; rintro e1 w1 ⟨rfl, hT⟩)
      have hX := RFt.took (a := { a with f5 := { a.f5 with f0 := (n1 : Int) } }) (a' := { a with f5 := ⟨(n1 : Int), (n2 : Int), a.f5.f2⟩ }) (by (repeat first | exact (Aid.unhide H).1 | apply RFt.drew | apply RFt.alloc)) hT rfl rfl rfl
      have hK := Keep2.took ((Aid.unhide H).2.below (by (repeat first | exact Below.refl _ _ | apply below_drew | apply below_alloc))) hT
      clear hT C H f0 f1
      go_upto_region 3 with (fail)
      have f0 := hX.F.c0
      have f1 := hX.F.c1
      cases h3 : numP 65535 t2 with
      | none =>
        have C := Aid.hide (fun W (k : RFt w0 b g r i ({ a with f5 := ⟨(n1 : Int), (n2 : Int), a.f5.f2⟩ }) v4 v9 (mk t2) W) => rnum103_no r ⟨g, 7, none⟩ 65535 (mk t2) W k.S.hR (by omega) (by rw [L_mk]; exact h3))
        have H := Aid.hide (And.intro hX hK)
        clear hX hK
        refine wp_region_tail 9 (by kernel_rfl) (by kernel_rfl) ?_
        simp only [List.take_succ_cons, List.take_zero, List.drop_succ_cons, List.drop_zero]
        repeat still_step
        refine wpStill_nil ?_
        go_wp2_with (go_at_call 103; refine (Aid.unhide C _ (by (repeat first | exact (Aid.unhide H).1 | apply RFt.drew | apply RFt.alloc))).mono ?_; rintro e1 w1 ⟨rfl, rfl⟩)
        refine ⟨rfl, ?_⟩
        rw [Aid.unhide Q0, h1, Option.bind_some, h2, Option.bind_some, h3, Option.bind_none]
        exact ⟨rfl, RSt.dead (RFt.S (by (repeat first | exact (Aid.unhide H).1 | apply RFt.drew | apply RFt.alloc)))⟩
      | some q =>
        obtain ⟨n3, t3⟩ := q
        have C := Aid.hide (fun W (k : RFt w0 b g r i ({ a with f5 := ⟨(n1 : Int), (n2 : Int), a.f5.f2⟩ }) v4 v9 (mk t2) W) => rnum103_ok r ⟨g, 7, none⟩ 65535 n3 _ (mk t2) t3 W k.S.hR k.S.hA.ten.k7 (k.S.hA.frz 7) k.S.gr (by omega) (by rw [L_mk]; exact h3))
        have H := Aid.hide (And.intro hX hK)
        clear hX hK
        refine wp_region_tail 9 (by kernel_rfl) (by kernel_rfl) ?_
        simp only [List.take_succ_cons, List.take_zero, List.drop_succ_cons, List.drop_zero]
        repeat still_step
        refine wpStill_nil ?_
        go_wp2_with (go_at_call 103; refine (Aid.unhide C _ (by (repeat first | exact (Aid.unhide H).1 | apply RFt.drew | apply RFt.alloc))).mono ?_; rintro e1 w1 ⟨rfl, hT⟩)
        go_end0
        have hX := RFt.took (a := { a with f5 := ⟨(n1 : Int), (n2 : Int), a.f5.f2⟩ }) (a' := { a with f5 := ⟨(n1 : Int), (n2 : Int), (n3 : Int)⟩ }) (by (repeat first | exact (Aid.unhide H).1 | apply RFt.drew | apply RFt.alloc)) hT rfl rfl rfl
        rw [Aid.unhide Q0, h1, Option.bind_some, h2, Option.bind_some, h3, Option.bind_some]
        exact ⟨rfl, ⟨v4, v9, hX.S⟩, Keep2.took ((Aid.unhide H).2.below (by (repeat first | exact Below.refl _ _ | apply below_drew | apply below_alloc))) hT⟩
end Go.Proofs.Ytppgbahiolhgbaa
end
section
set_option linter.unusedVariables false
set_option linter.unusedSimpArgs false
namespace Go.Proofs.Ytppgbahiolhgbaa
open Go.RowKit Go.Proofs.YtppgbahiolhgbaaW.PrintWords Sp
open PScriptReads
theorem took_grown {W W1 W2 : World} {r : Nat} {p : Addr} {u : Value} {t : ByteArray} (h : W.grownBy W1 (some r)) (hT : Took W1 r p u t W2) (hp : W.heap.size ≤ p.block) : W.grownBy W2 (some r) :=
  ⟨hT.os.trans h.os, hT.tape.trans h.tape, hT.output.trans h.output, by rw [hT.size]; exact h.size, fun k hk hne => (hT.far k (fun e => hne (by rw [e])) (by omega)).trans (h.block k hk hne)⟩
theorem took_cell {W W1 : World} {r q : Nat} {n : Value} {u : Value} {t : ByteArray} (h : W.heap[q]? = some (.cells #[n] 3 (0, 0))) (hT : Took W r ⟨q, 0, none⟩ u t W1) : W1.heap[q]? = some (.cells #[u] 3 (0, 0)) := by
  have := hT.at_
  have e : (⟨q, 0, none⟩ : Addr).block = q := rfl
  rw [e] at this
  rw [this, blk_set h]; rfl
theorem Kd.R_grownr {α : Type} {d : Kd α} {e : Nat} {base : Nat} {v : Value} {xs : List α} {W W1 : World} {r : Nat} {x : Array Value} {tx : TypeId} (hR : d.R e W base (fun _ => True) v xs) (hg : W.grownBy W1 (some r)) (hr : W.heap[r]? = some (.cells x tx (0, 0))) (h1 : ∀ q, q ∈ e :: d.E → q ≠ tx) : d.R e W1 base (fun _ => True) v xs :=
  Kd.R_mono (Kd.R_grown (Kd.R_types hR hr h1) hg (fun k hk e => by injection e with e; exact hk.2 e)) (fun _ _ => trivial)
section
variable {w0 : World} {b g r i : Nat} {a a' : S37} {v4 v9 u : Value} {s t : ByteArray} {W W1 : World}
theorem RSt.step (h : RSt w0 g r i a v4 v9 s W) (hr : RdAt W1 r t) (hg : W.grownBy W1 (some r)) : RSt w0 g r i a v4 v9 t W1 :=
  ⟨h.hA.grown hg (fun e => by injection e with e; exact h.gr e), hr, blk_grown h.hI hg (fun e => by injection e with e; exact h.ir e), Kd.R_grownr h.hG hg h.hR (by decide), Kd.R_grownr h.hS hg h.hR (by decide), h.hB.grown hg h.hB.size (by intro k e; injection e with e; subst e; exact h.lr), h.lg, h.lr, h.li⟩
theorem RFt.step (h : RFt w0 b g r i a v4 v9 s W) (hr : RdAt W1 r t) (hg : W.grownBy W1 (some r)) : RFt w0 b g r i a v4 v9 t W1 :=
  ⟨h.S.step hr hg, blk_grown h.F hg (fun e => by injection e with e; exact h.br e)⟩
theorem RSt.put (h : RSt w0 g r i a v4 v9 s W) {o : Nat} (ha : (actW a v4 v9).set! o u = actW a' v4 v9) (h4 : a'.f4 = a.f4) (h7 : a'.f7 = a.f7) : RSt w0 g r i a' v4 v9 s (W.setCell ⟨g, o, none⟩ u) :=
  ⟨by unfold ActV; rw [blk_set h.hA, ha], h.hR.far (Ne.symm h.gr), blk_far h.hI (Ne.symm h.gi), by rw [h4]; exact Kd.R_set h.hG h.hA (by decide) _ _, by rw [h7]; exact Kd.R_set h.hS h.hA (by decide) _ _, h.hB.setCell h.lg _, h.lg, h.lr, h.li⟩
theorem Keep2.grown (h : Keep2 W g r W1) {W2 : World} (hg : W1.grownBy W2 (some r)) : Keep2 W g r W2 :=
  ⟨Nat.le_trans h.1 hg.size, fun k hk h1 h2 => (hg.block k (Nat.lt_of_lt_of_le hk h.1) (fun e => by injection e with e; exact h2 e)).trans (h.2 k hk h1 h2)⟩
theorem Keep2.put (h : Keep2 W g r W1) {o : Nat} : Keep2 W g r (W1.setCell ⟨g, o, none⟩ u) :=
  ⟨by simp [World.setCell]; exact h.1, fun k hk h1 h2 => (Below.heap_setCell W1 ⟨g, o, none⟩ u k h1).trans (h.2 k hk h1 h2)⟩
end
def rdYes (a : S37) (l : Bytes) : Option (S37 × Bytes) := (numP 1 l).map fun q => ({ a with f6 := decide (q.1 = 1) }, q.2)
set_option maxRecDepth 100000 in
set_option maxHeartbeats 4000000 in
theorem rpart50 : RPart 50 rdYes := by
  intro w0 g r i a v4 v9 s w hs hS
  have hm := meth_rnum
  obtain ⟨q0, hq0⟩ : ∃ q, q = rdYes a (L s) := ⟨_, rfl⟩
  rw [← hq0]
  unfold rdYes at hq0
  have Q0 := Aid.hide hq0
  clear hq0
  obtain ⟨y, hy⟩ : ∃ y, y = a.f6 := ⟨_, rfl⟩
  have Y := Aid.hide hy
  go_enter Try.func50, Try.ntmps50
  go_upto_region 1 with (fail)
  have hX := hS.boxed
  have hK : Keep2 w g r (w.alloc (.cells #[.pointer (some ⟨g, 0, none⟩), .iface 88 (.pointer (some ⟨r, 0, none⟩))] 78)) := (Keep2.refl _ _ _).below (below_alloc (Below.refl _ _) _)
  generalize w.alloc (.cells #[.pointer (some ⟨g, 0, none⟩), .iface 88 (.pointer (some ⟨r, 0, none⟩))] 78) = wx at *
  generalize w.heap.size = b at hX ⊢
  clear hS
  go_upto_region 2 with (fail)
  have hN : (wx.alloc (.cells #[.int .i64 0] 3)).heap[wx.heap.size]? = some (.cells #[.int .i64 0] 3 (0, 0)) := blk_new rfl
  have hG : wx.grownBy (wx.alloc (.cells #[.int .i64 0] 3)) (some r) := World.grownBy_alloc _ _ _
  have hX1 := hX.alloc (.cells #[.int .i64 0] 3)
  have hqs : wx.heap.size ≤ wx.heap.size := Nat.le_refl _
  have hqr : wx.heap.size ≠ r := by have := hX.S.hR.lt; omega
  have hqg : wx.heap.size ≠ g := by have := hX.S.hA.lt; omega
  have hqb : wx.heap.size ≠ b := by have := hX.F.lt; omega
  generalize wx.alloc (.cells #[.int .i64 0] 3) = wy at *
  obtain ⟨q, hq⟩ : ∃ q, q = wx.heap.size := ⟨_, rfl⟩
  rw [← hq] at hN hqr hqg hqb ⊢
  have hqs : wx.heap.size ≤ q := by omega
  clear hq
  have k8 := hX1.S.hA.ten.k8
  rw [← hy] at k8
  clear hy
  have f0 := hX1.F.c0
  have f1 := hX1.F.c1
  have n0 : wy.cell? ⟨q, 0, none⟩ = some (.int .i64 0) := (blk_cell hN 0).trans rfl
  have nz : wy.frozen? ⟨q, 0, none⟩ = false := by simp [World.frozen?, hN]
  have hlq : q < wy.heap.size := blk_lt hN
  have hlg := hX1.S.hA.lt
  have hlb := hX1.F.lt
  have hlr := hX1.S.hR.lt
  -- the number's cell when it is read
  have key : ∀ (n : Int) (wz : World), wz.heap[q]? = some (.cells #[.int .i64 n] 3 (0, 0)) → wx.grownBy wz (some r) → RFt w0 b g r i a v4 v9 s wz →
      Calls Try.prog 103 #[.pointer (some ⟨r, 0, none⟩), .pointer (some ⟨q, 0, none⟩), .int .i64 1] wz fun e w' => match numP 1 (L s) with | some (v, t) => e = .returned (.tuple #[]) ∧ w'.heap[q]? = some (.cells #[.int .i64 (v : Int)] 3 (0, 0)) ∧ RFt w0 b g r i a v4 v9 (mk t) w' ∧ Keep2 w g r w' | none => e = .panicked thrownN ∧ DSt w0 g i w' := by
    intro n wz h1 h2 h3
    cases h : numP 1 (L s) with
    | none => exact (rnum103_no r ⟨q, 0, none⟩ 1 s wz h3.S.hR (by omega) h).mono fun _ _ ⟨k1, k2⟩ => ⟨k1, by subst k2; exact h3.S.dead⟩
    | some z =>
      obtain ⟨v, t⟩ := z
      exact (rnum103_ok r ⟨q, 0, none⟩ 1 v n s t wz h3.S.hR ((blk_cell h1 0).trans rfl) (by simp [World.frozen?, h1]) hqr (by omega) h).mono fun _ _ ⟨k1, hT⟩ =>
        ⟨k1, took_cell h1 hT, hX.step hT.rd (took_grown h2 hT hqs), hK.grown (took_grown h2 hT hqs)⟩
  have key2 : ∀ n wz, wz = wy.setCell ⟨q, 0, none⟩ (.int .i64 n) → wz.heap[q]? = some (.cells #[.int .i64 n] 3 (0, 0)) ∧ wx.grownBy wz (some r) ∧ RFt w0 b g r i a v4 v9 s wz := by
    intro n wz e
    subst e
    have h1 : (wy.setCell ⟨q, 0, none⟩ (.int .i64 n)).heap[q]? = some (.cells #[.int .i64 n] 3 (0, 0)) := by rw [blk_set hN]; rfl
    have h2 : wx.grownBy (wy.setCell ⟨q, 0, none⟩ (.int .i64 n)) (some r) := Aid.only_setCell hG (Or.inr hqs) _
    exact ⟨h1, h2, hX.step (hX1.S.hR.far (Ne.symm hqr)) h2⟩
  have K := Aid.hide (And.intro key (And.intro key2 (And.intro hN (And.intro hG hX1))))
  clear key key2 hN hG hX1 hX hK
  cases hn : numP 1 (L s) with
  | none =>
    rw [hn] at K
    cases y with
    | false =>
      have C := Aid.hide ((Aid.unhide K).1 0 wy (Aid.unhide K).2.2.1 (Aid.unhide K).2.2.2.1 (Aid.unhide K).2.2.2.2)
      clear K
      go_wp2_with (go_at_call 103; refine (Aid.unhide C).mono ?_; rintro e1 w1 ⟨rfl, hD⟩)
      refine ⟨rfl, ?_⟩
      rw [Aid.unhide Q0, hn]
      exact ⟨rfl, hD⟩
    | true =>
      have h2 := (Aid.unhide K).2.1 1 _ rfl
      have C := Aid.hide ((Aid.unhide K).1 1 _ h2.1 h2.2.1 h2.2.2)
      clear K h2
      go_wp2_with (go_at_call 103; refine (Aid.unhide C).mono ?_; rintro e1 w1 ⟨rfl, hD⟩)
      refine ⟨rfl, ?_⟩
      rw [Aid.unhide Q0, hn]
      exact ⟨rfl, hD⟩
  | some z =>
    obtain ⟨v, t⟩ := z
    rw [hn] at K
    have hv := (numP_le hn).1
    have hb : ((v : Int) == 1) = decide (v = 1) := by rw [Bool.eq_iff_iff]; simp; omega
    have HB := Aid.hide hb
    clear hb
    cases y with
    | false =>
      have C := Aid.hide ((Aid.unhide K).1 0 wy (Aid.unhide K).2.2.1 (Aid.unhide K).2.2.2.1 (Aid.unhide K).2.2.2.2)
      clear K
      go_wp2_with (go_at_call 103; refine (Aid.unhide C).mono ?_; rintro e1 w1 ⟨rfl, hN, hX, hK⟩; have f0 := hX.F.c0; have f1 := hX.F.c1; have n0 : w1.cell? ⟨q, 0, none⟩ = some (.int .i64 (v : Int)) := (blk_cell hN 0).trans rfl; have k8 := hX.S.hA.ten.k8; have fz := hX.S.hA.frz 8)
      go_end0
      rw [Aid.unhide Q0, hn]
      refine ⟨rfl, ⟨v4, v9, ?_⟩, hK.put⟩
      rw [Aid.unhide HB]
      exact RSt.put (a' := { a with f6 := decide (v = 1) }) hX.S rfl rfl rfl
    | true =>
      have h2 := (Aid.unhide K).2.1 1 _ rfl
      have C := Aid.hide ((Aid.unhide K).1 1 _ h2.1 h2.2.1 h2.2.2)
      clear K h2
      go_wp2_with (go_at_call 103; refine (Aid.unhide C).mono ?_; rintro e1 w1 ⟨rfl, hN, hX, hK⟩; have f0 := hX.F.c0; have f1 := hX.F.c1; have n0 : w1.cell? ⟨q, 0, none⟩ = some (.int .i64 (v : Int)) := (blk_cell hN 0).trans rfl; have k8 := hX.S.hA.ten.k8; have fz := hX.S.hA.frz 8)
      go_end0
      rw [Aid.unhide Q0, hn]
      refine ⟨rfl, ⟨v4, v9, ?_⟩, hK.put⟩
      rw [Aid.unhide HB]
      exact RSt.put (a' := { a with f6 := decide (v = 1) }) hX.S rfl rfl rfl
end Go.Proofs.Ytppgbahiolhgbaa
end
section
set_option linter.unusedVariables false
set_option linter.unusedSimpArgs false
namespace Go.Proofs.Ytppgbahiolhgbaa
open Go.RowKit Go.Proofs.YtppgbahiolhgbaaW.PrintWords Sp
open PScriptReads
theorem heap_set_same {W : World} {p : Addr} {v : Value} (h : W.cell? p = some v) (i : Nat) : (W.setCell p v).heap[i]? = W.heap[i]? := by
  by_cases e : i = p.block
  · subst e
    unfold World.cell? at h
    cases hh : W.heap[p.block]? with
    | none => rw [hh] at h; simp at h
    | some o =>
      rw [hh] at h
      cases o with
      | cells c e fr =>
        simp only at h
        by_cases hs : p.spot.isSome = true
        · rw [if_pos hs] at h; simp at h
        · rw [if_neg hs] at h
          have e2 : c.setIfInBounds p.off v = c := by
            obtain ⟨hl, hv⟩ := Array.getElem?_eq_some_iff.1 h
            rw [Array.setIfInBounds, dif_pos hl]
            have hv' := hv
            subst hv'
            exact Array.set_getElem_self hl
          simp [World.setCell, Array.getElem?_modify, hh, hs, e2]
      | _ => simp at h
  · exact Below.heap_setCell W p v i e
theorem below_same {W : World} {p : Addr} {v : Value} (h : W.cell? p = some v) : Below W.heap.size W (W.setCell p v) :=
  ⟨rfl, rfl, rfl, by simp [World.setCell], fun k _ => heap_set_same h k⟩
def Blk (W : World) (h : Nat) (cs : Array Value) (t : TypeId) : Prop := W.heap[h]? = some (.cells cs t (0, 0))
theorem Blk.below {W W1 : World} {h : Nat} {cs : Array Value} {t : TypeId} (k : Blk W h cs t) (hb : Below W.heap.size W W1) : Blk W1 h cs t := blk_of k hb
theorem Blk.alloc {W : World} {h : Nat} {cs : Array Value} {t : TypeId} (k : Blk W h cs t) (o : Obj) : Blk (W.alloc o) h cs t := blk_alloc k
theorem Blk.drew {W : World} {h : Nat} {cs : Array Value} {t : TypeId} (k : Blk W h cs t) : Blk W.drew h cs t := k
theorem Blk.new (W : World) (cs : Array Value) (t : TypeId) : Blk (W.alloc (.cells cs t)) W.heap.size cs t := blk_new rfl
theorem Blk.cell {W : World} {h : Nat} {cs : Array Value} {t : TypeId} (k : Blk W h cs t) (o : Nat) : W.cell? ⟨h, o, none⟩ = cs[o]? := blk_cell k o
theorem Blk.grown {W W1 : World} {h r : Nat} {cs : Array Value} {t : TypeId} {s : ByteArray} (k : Blk W h cs t) (ht : t ≠ 72) (hR : WrAt W r s) (hg : W.grownBy W1 (some r)) : Blk W1 h cs t := by
  refine blk_grown k hg (fun e => ?_)
  injection e with e
  subst e
  unfold Blk at k; unfold WrAt at hR
  rw [k] at hR
  injection hR with hR
  injection hR with _ hR
  exact ht hR
end Go.Proofs.Ytppgbahiolhgbaa
end
section
set_option linter.unusedVariables false
set_option linter.unusedSimpArgs false
namespace Go.Proofs.Ytppgbahiolhgbaa
open Go.RowKit Go.Proofs.YtppgbahiolhgbaaW.PrintWords Sp
open PScriptReads
theorem R_made {α : Type} (d : Kd α) (e : Nat) {W : World} {base : Nat} {z : Value} {z0 : α} (n : Nat) (hz : z.cells.size = d.sz) (hs0 : 0 < d.sz) (hzero : ∀ W ok, d.M W base ok z0 z.cells.toList) (hb : base ≤ W.heap.size) (hm : n ≤ 1000000) :
    d.R e (W.alloc (.cells (madeCells z.cells (n * d.sz)) e)) base (fun _ => True) (.slice (some ⟨W.heap.size, 0, none⟩) n n) (List.replicate n z0) := by
  refine ⟨fun _ _ => trivial, (madeCells z.cells (n * d.sz)).toList, ?_, ?_⟩
  · rw [List.length_replicate]
    exact World.ownsRow_lit W _ n hb (by simp only [maxLen]; omega) (size_madeCells _ _)
  · exact Kd.reps_made hz hs0 (hzero _ _) n
theorem mk48 (n : Nat) (hn : n ≤ 1000) (W : World) : (Instr.makeSlice 32 (.int .i64 (n : Int)) (.int .i64 (n : Int))).run Try.prog W = .ok (.slice (some ⟨W.heap.size, 0, none⟩) n n) (W.alloc (.cells (madeCells (Value.agg #[.int .i64 0, .string ⟨#[]⟩]).cells (n * k48.sz)) 48)) := by
  obtain ⟨i0, hi, hzz⟩ := Option.map_eq_some_iff.1 inf48
  simp only [Prod.mk.injEq] at hzz
  obtain ⟨hz0, hz1, hz2⟩ := hzz
  have h := run_make (P := Try.prog) W 32 48 i0 _ Try.underlying32 hi hz0 .i64 .i64 (n : Int) (n : Int) (by omega) (by omega) (by rw [hz2]; omega) (by omega)
  rw [hz1] at h
  simp only [Int.toNat_natCast] at h
  exact h
theorem mk51 (n : Nat) (hn : n ≤ 1000) (W : World) : (Instr.makeSlice 35 (.int .i64 (n : Int)) (.int .i64 (n : Int))).run Try.prog W = .ok (.slice (some ⟨W.heap.size, 0, none⟩) n n) (W.alloc (.cells (madeCells (Value.agg #[.int .u8 0, .int .i64 0, .int .i64 0, .int .i64 0, .int .i64 0, .string ⟨#[]⟩, .slice none 0 0]).cells (n * kraw.sz)) 51)) := by
  obtain ⟨i0, hi, hzz⟩ := Option.map_eq_some_iff.1 inf51
  simp only [Prod.mk.injEq] at hzz
  obtain ⟨hz0, hz1, hz2⟩ := hzz
  have h := run_make (P := Try.prog) W 35 51 i0 _ Try.underlying35 hi hz0 .i64 .i64 (n : Int) (n : Int) (by omega) (by omega) (by rw [hz2]; omega) (by omega)
  rw [hz1] at h
  simp only [Int.toNat_natCast] at h
  exact h
theorem mkr3 (n : Nat) (hn : n ≤ 1000) (W : World) : (Instr.makeSlice 49 (.int .i64 (n : Int)) (.int .i64 (n : Int))).run Try.prog W = .ok (.slice (some ⟨W.heap.size, 0, none⟩) n n) (W.alloc (.cells (madeCells (Value.int .i64 0).cells (n * (Kd.int .i64).sz)) 3)) := by
  obtain ⟨i0, hi, hzz⟩ := Option.map_eq_some_iff.1 inf3
  simp only [Prod.mk.injEq] at hzz
  obtain ⟨hz0, hz1, hz2⟩ := hzz
  have h := run_make (P := Try.prog) W 49 3 i0 _ Try.underlying49 hi hz0 .i64 .i64 (n : Int) (n : Int) (by omega) (by omega) (by rw [hz2]; omega) (by omega)
  rw [hz1] at h
  simp only [Int.toNat_natCast] at h
  exact h
def NewRow {α : Type} (d : Kd α) (e : Nat) (W w' : World) (n : Nat) (z0 : α) (b : Nat) : Prop :=
  W.heap.size ≤ b ∧ d.R e w' W.heap.size (fun _ => True) (.slice (some ⟨b, 0, none⟩) n n) (List.replicate n z0)
set_option maxRecDepth 100000 in
set_option maxHeartbeats 2000000 in
theorem room64 (c g T r : Nat) (n : Nat) (a : S37) (v4 v9 : Value) (w : World) (hn : n ≤ 1000) (hF : FAt w c g T r) (hA : ActV w g a v4 v9) :
    Calls Try.prog 64 #[.int .i64 (n : Int), .pointer (some ⟨c, 0, none⟩)] w fun e w' => e = .returned (.tuple #[]) ∧ ∃ b, NewRow k48 48 w w' n ⟨0, ⟨#[]⟩⟩ b ∧ ActV w' g a (.slice (some ⟨b, 0, none⟩) n n) v9 ∧ w.grownBy w' (some g) := by
  have hmk := mk48 n hn
  have f0 := hF.c0
  have k4 := hA.ten.k4
  have z4 := hA.frz 4
  have hlf := hF.lt
  have hlg := hA.lt
  have H := Aid.hide (And.intro hF hA)
  clear hF hA
  generalize hcs : (madeCells (Value.agg #[.int .i64 0, .string ⟨#[]⟩]).cells (n * k48.sz)) = cs at hmk
  have HC := Aid.hide hcs
  clear hcs
  go_enter Try.func64, Try.ntmps64
  go_region_with (fail)
  all_goals
    go_end0
    have hz : (w.setCell ⟨g, 4, none⟩ (.slice (some ⟨w.heap.size, 0, none⟩) n n)).heap.size = w.heap.size := by simp [World.setCell]
    have hA1 := ((Aid.unhide H).2.set4 (u := .slice (some ⟨w.heap.size, 0, none⟩) n n)).below (below_drew (below_alloc (Below.refl _ _) (.cells cs 48)))
    have hR := R_made k48 48 (W := w.setCell ⟨g, 4, none⟩ (.slice (some ⟨w.heap.size, 0, none⟩) n n)) (base := w.heap.size) (z := .agg #[.int .i64 0, .string ⟨#[]⟩]) (z0 := ⟨0, ⟨#[]⟩⟩) n rfl (by decide) (fun W ok => k48_mkM W _ ok ⟨0, ⟨#[]⟩⟩) (by omega) (by omega)
    rw [Aid.unhide HC, hz] at hR
    exact ⟨rfl, _, ⟨Nat.le_refl _, Kd.R_below hR (below_drew (Below.refl _ _))⟩, hA1, Aid.only_drew (Aid.only_alloc (Aid.only_setCell (World.grownBy.refl _ _) (Or.inl rfl) _) _)⟩
set_option maxRecDepth 100000 in
set_option maxHeartbeats 2000000 in
theorem room65 (c g T r : Nat) (n : Nat) (a : S37) (v4 v9 : Value) (w : World) (hn : n ≤ 1000) (hF : FAt w c g T r) (hA : ActV w g a v4 v9) :
    Calls Try.prog 65 #[.int .i64 (n : Int), .pointer (some ⟨c, 0, none⟩)] w fun e w' => e = .returned (.tuple #[]) ∧ ∃ b, NewRow kraw 51 w w' n (z51, (none, 0, 0)) b ∧ ActV w' g a v4 (.slice (some ⟨b, 0, none⟩) n n) ∧ w.grownBy w' (some g) := by
  have hmk := mk51 n hn
  have f0 := hF.c0
  have k9 := hA.ten.k9
  have z9 := hA.frz 9
  have hlf := hF.lt
  have hlg := hA.lt
  have H := Aid.hide (And.intro hF hA)
  clear hF hA
  generalize hcs : (madeCells (Value.agg #[.int .u8 0, .int .i64 0, .int .i64 0, .int .i64 0, .int .i64 0, .string ⟨#[]⟩, .slice none 0 0]).cells (n * kraw.sz)) = cs at hmk
  have HC := Aid.hide hcs
  clear hcs
  go_enter Try.func65, Try.ntmps65
  go_region_with (fail)
  all_goals
    go_end0
    have hz : (w.setCell ⟨g, 9, none⟩ (.slice (some ⟨w.heap.size, 0, none⟩) n n)).heap.size = w.heap.size := by simp [World.setCell]
    have hA1 := ((Aid.unhide H).2.set9 (u := .slice (some ⟨w.heap.size, 0, none⟩) n n)).below (below_drew (below_alloc (Below.refl _ _) (.cells cs 51)))
    have hR := R_made kraw 51 (W := w.setCell ⟨g, 9, none⟩ (.slice (some ⟨w.heap.size, 0, none⟩) n n)) (base := w.heap.size) (z := .agg #[.int .u8 0, .int .i64 0, .int .i64 0, .int .i64 0, .int .i64 0, .string ⟨#[]⟩, .slice none 0 0]) (z0 := (z51, (none, 0, 0))) n rfl (by decide) (fun W ok => kraw_mkM W _ ok (z51, (none, 0, 0))) (by omega) (by omega)
    rw [Aid.unhide HC, hz] at hR
    exact ⟨rfl, _, ⟨Nat.le_refl _, Kd.R_below hR (below_drew (Below.refl _ _))⟩, hA1, Aid.only_drew (Aid.only_alloc (Aid.only_setCell (World.grownBy.refl _ _) (Or.inl rfl) _) _)⟩
set_option maxRecDepth 100000 in
set_option maxHeartbeats 2000000 in
theorem room66 (h : Nat) (P : Addr) (n : Nat) (x : Value) (w : World) (hn : n ≤ 1000) (hP : Blk w h #[.pointer (some P)] 110) (hx : w.cell? ⟨P.block, P.off + 6, none⟩ = some x) (hf : w.frozen? ⟨P.block, P.off + 6, none⟩ = false) :
    Calls Try.prog 66 #[.int .i64 (n : Int), .pointer (some ⟨h, 0, none⟩)] w fun e w' => e = .returned (.tuple #[]) ∧ ∃ b, NewRow (Kd.int .i64) 3 w w' n 0 b ∧ w'.heap[P.block]? = (w.setCell ⟨P.block, P.off + 6, none⟩ (.slice (some ⟨b, 0, none⟩) n n)).heap[P.block]? ∧ w.grownBy w' (some P.block) := by
  have hmk := mkr3 n hn
  have p0 : w.cell? ⟨h, 0, none⟩ = some (.pointer (some P)) := hP.cell 0
  have hlh : h < w.heap.size := blk_lt hP
  have hlp : P.block < w.heap.size := World.block_lt_of_cell? _ ⟨P.block, P.off + 6, none⟩ hx
  have H := Aid.hide hP
  clear hP
  generalize hcs : (madeCells (Value.int .i64 0).cells (n * (Kd.int .i64).sz)) = cs at hmk
  have HC := Aid.hide hcs
  clear hcs
  go_enter Try.func66, Try.ntmps66
  go_region_with (fail)
  all_goals
    go_end0
    have hz : (w.setCell ⟨P.block, P.off + 6, none⟩ (.slice (some ⟨w.heap.size, 0, none⟩) n n)).heap.size = w.heap.size := by simp [World.setCell]
    have hR := R_made (Kd.int .i64) 3 (W := w.setCell ⟨P.block, P.off + 6, none⟩ (.slice (some ⟨w.heap.size, 0, none⟩) n n)) (base := w.heap.size) (z := .int .i64 0) (z0 := (0 : Int)) n rfl (by decide) (fun W ok => rfl) (by omega) (by omega)
    rw [Aid.unhide HC, hz] at hR
    exact ⟨rfl, _, ⟨Nat.le_refl _, Kd.R_below hR (below_drew (Below.refl _ _))⟩, Below.heap_alloc _ _ _ (by rw [hz]; exact hlp), Aid.only_drew (Aid.only_alloc (Aid.only_setCell (World.grownBy.refl _ _) (Or.inl rfl) _) _)⟩
end Go.Proofs.Ytppgbahiolhgbaa
end
section
set_option linter.unusedVariables false
set_option linter.unusedSimpArgs false
namespace Go.Proofs.Ytppgbahiolhgbaa
open Go.RowKit Go.Proofs.YtppgbahiolhgbaaW.PrintWords Sp
open PScriptReads
theorem isReader (a : Addr) (W : World) : (Instr.typeAssert (.iface 88 (.pointer (some a))) 76 88 true).run Try.prog W = .ok (.tuple #[.pointer (some a), .bool true]) W := by kernel_rfl
structure Ask (w : World) (q b g r : Nat) (n0 : Int) (s : ByteArray) (W : World) : Prop where
  N : W.heap[q]? = some (.cells #[.int .i64 n0] 3 (0, 0))
  F : FAt W b g 88 r
  R : RdAt W r s
  G : w.grownBy W (some r)
  hq : w.heap.size ≤ q
theorem ask_new (w : World) (g r : Nat) (n0 : Int) (s : ByteArray) (hR : RdAt w r s) : Ask w (w.heap.size + 1) w.heap.size g r n0 s ((w.alloc (.cells #[.pointer (some ⟨g, 0, none⟩), .iface 88 (.pointer (some ⟨r, 0, none⟩))] 78)).alloc (.cells #[.int .i64 n0] 3)) :=
  ⟨blk_new (by simp), (FAt.new _ _ _ _).below (below_alloc (Below.refl _ _) _), (hR.below (below_alloc (Below.refl _ _) _)).below (below_alloc (Below.refl _ _) _), Aid.only_alloc (World.grownBy_alloc _ _ _) _, by omega⟩
set_option maxRecDepth 100000 in
set_option maxHeartbeats 2000000 in
theorem rrows63_no (g r : Nat) (n0 : Int) (m : Nat) (s : ByteArray) (fv : Value) (w : World) (hR : RdAt w r s) (hm : m ≤ 2147483647) (h : numP m (L s) = none) :
    Calls Try.prog 63 #[formV g 88 r, .int .i64 n0, .int .i64 (m : Int), fv] w fun e w' => e = .panicked thrownN ∧ Below w.heap.size w w' := by
  have hmt := meth_rnum
  have hN := ask_new w g r n0 s hR
  have hb : Below w.heap.size w ((w.alloc (.cells #[.pointer (some ⟨g, 0, none⟩), .iface 88 (.pointer (some ⟨r, 0, none⟩))] 78)).alloc (.cells #[.int .i64 n0] 3)) := below_alloc (below_alloc (Below.refl _ _) _) _
  have H := Aid.hide h
  clear h
  go_enter Try.func63, Try.ntmps63
  go_upto_region 1 with (fail)
  generalize (w.alloc (.cells #[.pointer (some ⟨g, 0, none⟩), .iface 88 (.pointer (some ⟨r, 0, none⟩))] 78)).alloc (.cells #[.int .i64 n0] 3) = wx at *
  generalize w.heap.size + 1 = q at *
  generalize hbx : w.heap.size = b at hN ⊢
  have HBX := Aid.hide hbx
  clear hbx
  have f1 := hN.F.c1
  have C := Aid.hide (rnum103_no r ⟨q, 0, none⟩ m s wx hN.R hm (Aid.unhide H))
  go_wp2_with (go_at_call 103; refine (Aid.unhide C).mono ?_; rintro e1 w1 ⟨rfl, rfl⟩)
  exact ⟨rfl, rfl, Aid.unhide HBX ▸ hb⟩
def Q63 (w : World) (r : Nat) (v : Nat) (t : Bytes) (Q : World → World → Prop) (e : Ending) (w' : World) : Prop :=
  e = .returned (.int .i64 (v : Int)) ∧ ∃ W1, w.grownBy W1 (some r) ∧ RdAt W1 r (mk t) ∧ Q W1 w'
set_option maxRecDepth 100000 in
set_option maxHeartbeats 2000000 in
theorem rrows63 (F : Nat) (hF : F = 64 ∨ F = 65 ∨ F = 66) (c g r : Nat) (n0 : Int) (m v : Nat) (s : ByteArray) (t : Bytes) (w : World) (hR : RdAt w r s) (hm : m ≤ 2147483647) (h : numP m (L s) = some (v, t)) (Q : World → World → Prop)
    (hf : ∀ W1, w.grownBy W1 (some r) → RdAt W1 r (mk t) → Calls Try.prog F #[.int .i64 (v : Int), .pointer (some ⟨c, 0, none⟩)] W1 fun e w' => e = .returned (.tuple #[]) ∧ Q W1 w' ∧ ∃ x, x < w.heap.size ∧ W1.grownBy w' (some x)) :
    Calls Try.prog 63 #[formV g 88 r, .int .i64 n0, .int .i64 (m : Int), .func (.func F) #[] #[.pointer (some ⟨c, 0, none⟩)]] w (Q63 w r v t Q) := by
  have hmt := meth_rnum
  have hta := isReader
  have hN := ask_new w g r n0 s hR
  have H := Aid.hide (And.intro h hf)
  have hsz : r < w.heap.size := hR.lt
  clear h hf
  obtain rfl | rfl | rfl := hF
  all_goals
    go_enter Try.func63, Try.ntmps63
    go_upto_region 1 with (fail)
    generalize (w.alloc (.cells #[.pointer (some ⟨g, 0, none⟩), .iface 88 (.pointer (some ⟨r, 0, none⟩))] 78)).alloc (.cells #[.int .i64 n0] 3) = wx at *
    generalize w.heap.size + 1 = q at *
    generalize hbx : w.heap.size = b at hN ⊢
    have hwb : w.heap.size ≤ b := by omega
    clear hbx
    have f1 := hN.F.c1
    have n1 := hN.N
    have hqr : q ≠ r := ty_ne hN.N hN.R (by decide)
    have C := Aid.hide (rnum103_ok r ⟨q, 0, none⟩ m v n0 s t wx hN.R ((blk_cell hN.N 0).trans rfl) (by simp [World.frozen?, n1]) hqr hm (Aid.unhide H).1)
    have HN := Aid.hide hN
    have hbr : b ≠ r := ty_ne hN.F hN.R (by decide)
    have hbq : b ≠ q := ty_ne hN.F hN.N (by decide)
    have hqs : w.heap.size ≤ q := hN.hq
    clear n1 hN
    go_upto_region 2 with (go_at_call 103; refine (Aid.unhide C).mono ?_; rintro e1 w1 ⟨rfl, hT⟩)
    have hG := took_grown (Aid.unhide HN).G hT hqs
    have hF1 : FAt w1 b g 88 r := (hT.far b hbr hbq).trans (Aid.unhide HN).F
    have hQ1 := took_cell (Aid.unhide HN).N hT
    have hRd := hT.rd
    have f1 := hF1.c1
    have n1 : w1.cell? ⟨q, 0, none⟩ = some (.int .i64 (v : Int)) := (blk_cell hQ1 0).trans rfl
    have D := Aid.hide ((Aid.unhide H).2 w1 hG hRd)
    have HG := Aid.hide (And.intro hG (And.intro hRd hQ1))
    clear hG hF1 hQ1 hRd hT C HN
    go_wp2_with (first | (go_at_call 64; (refine (Aid.unhide D).mono ?_; rintro e1 w2 ⟨rfl, hq, x, hx, hgx⟩; have n1 : w2.cell? ⟨q, 0, none⟩ = some (.int .i64 (v : Int)) := (blk_cell (blk_grown (Aid.unhide HG).2.2 hgx (by intro e; injection e with e; omega)) 0).trans rfl)) | (go_at_call 65; (refine (Aid.unhide D).mono ?_; rintro e1 w2 ⟨rfl, hq, x, hx, hgx⟩; have n1 : w2.cell? ⟨q, 0, none⟩ = some (.int .i64 (v : Int)) := (blk_cell (blk_grown (Aid.unhide HG).2.2 hgx (by intro e; injection e with e; omega)) 0).trans rfl)) | (go_at_call 66; (refine (Aid.unhide D).mono ?_; rintro e1 w2 ⟨rfl, hq, x, hx, hgx⟩; have n1 : w2.cell? ⟨q, 0, none⟩ = some (.int .i64 (v : Int)) := (blk_cell (blk_grown (Aid.unhide HG).2.2 hgx (by intro e; injection e with e; omega)) 0).trans rfl)))
    go_ret
    exact ⟨rfl, w1, (Aid.unhide HG).1, (Aid.unhide HG).2.1, hq⟩
end Go.Proofs.Ytppgbahiolhgbaa
end
