/- Contracts and plain laws over the seat, laid together (group 46 of what the claim needs). -/
import Derived.Test.YtppgbahiolhgbaaJ41
import Derived.Test.YtppgbahiolhgbaaJ42
import Derived.Test.YtppgbahiolhgbaaJ44
import Derived.Test.YtppgbahiolhgbaaJ45
import Derived.Outline
import Derived.Test.YtppgbahiolhgbaaJ40
import Derived.Test.YtppgbahiolhgbaaJ8
section
set_option linter.unusedVariables false
set_option linter.unusedSimpArgs false
namespace Go.Proofs.Ytppgbahiolhgbaa
open Go.RowKit Go.Proofs.YtppgbahiolhgbaaW.PrintWords Sp
open PScriptReads
theorem givesT_small : ∀ (n : Nat) (x : TS), (givesT n x).1.length ≤ x.1.size + 1 ∧ ∀ g ∈ (givesT n x).1, g.f1.size ≤ 16384 := by
  intro n
  induction n with
  | zero => intro x; simp [givesT]
  | succ n ih =>
    intro x
    rw [givesT]
    by_cases h : x.2 = true
    · rw [if_pos h]
      obtain ⟨a1, a2⟩ := ih (textT 16384 (numT x).2).2
      obtain ⟨b1, b2, b3⟩ := numT_le x
      obtain ⟨c1, c2, c3⟩ := textT_le 16384 (numT x).2
      refine ⟨?_, fun g hg => ?_⟩
      · simp only [List.length_cons]
        cases hq : (textT 16384 (numT x).2).2.2 with
        | true => have := b2 (c2 hq); omega
        | false =>
          have : (givesT n (textT 16384 (numT x).2).2).1 = [] := by
            cases n with
            | zero => rfl
            | succ n => rw [givesT, if_neg (by rw [hq]; simp)]
          rw [this]; simp
      · rcases List.mem_cons.1 hg with rfl | hg
        · exact c3
        · exact a2 g hg
    · rw [if_neg h]; simp
theorem stepT_small (x : TS) : (stepT x).1.f5.size ≤ 1024 ∧ (stepT x).1.f6.length ≤ x.1.size + 1 := by
  unfold stepT
  have a0 := numT_le x
  have a1 := numT_le (numT x).2
  have a2 := numT_le (numT (numT x).2).2
  have a3 := numT_le (numT (numT (numT x).2).2).2
  have a4 := numT_le (numT (numT (numT (numT x).2).2).2).2
  simp only
  generalize numT (numT (numT (numT (numT x).2).2).2).2 = q4 at *
  generalize numT (numT (numT (numT x).2).2).2 = q3 at *
  generalize numT (numT (numT x).2).2 = q2 at *
  generalize numT (numT x).2 = q1 at *
  generalize numT x = q0 at *
  have a5 := textT_le 1024 q4.2
  generalize textT 1024 q4.2 = q5 at *
  have a6 := numT_le q5.2
  generalize numT q5.2 = q6 at *
  have a7 := listT_le q6.1.toNat q6.2
  generalize listT q6.1.toNat q6.2 = q7 at *
  split
  · exact ⟨Nat.zero_le _, Nat.zero_le _⟩
  · exact ⟨a5.2.2, by simp only; omega⟩
theorem stepsT_small : ∀ (n : Nat) (x : TS), (stepsT n x).1.length ≤ x.1.size + 1 ∧ ∀ g ∈ (stepsT n x).1, g.f5.size ≤ 1024 ∧ g.f6.length ≤ x.1.size + 1 := by
  intro n
  induction n with
  | zero => intro x; simp [stepsT]
  | succ n ih =>
    intro x
    rw [stepsT]
    by_cases h : x.2 = true
    · rw [if_pos h]
      obtain ⟨a1, a2⟩ := ih (stepT x).2
      obtain ⟨b1, b2⟩ := stepT_le x
      refine ⟨?_, fun g hg => ?_⟩
      · simp only [List.length_cons]
        cases hq : (stepT x).2.2 with
        | true => have := b2 hq; omega
        | false =>
          have : (stepsT n (stepT x).2).1 = [] := by
            cases n with
            | zero => rfl
            | succ n => rw [stepsT, if_neg (by rw [hq]; simp)]
          rw [this]; simp
      · rcases List.mem_cons.1 hg with rfl | hg
        · exact stepT_small x
        · have := a2 g hg; omega
    · rw [if_neg h]; simp
theorem act7_small (d : Int) (x : TS) (hs : x.1.size ≤ 100000) : (act7 d x).1.f4.length ≤ 1000000 ∧ (act7 d x).1.f7.length ≤ 1000000 ∧ (∀ y ∈ (act7 d x).1.f4, y.f1.size ≤ 1000000) ∧ (∀ y ∈ (act7 d x).1.f7, y.f5.size ≤ 1000000 ∧ y.f6.length ≤ 1000000) ∧ (act7 d x).2.1.size ≤ x.1.size := by
  have one : ∀ (c : Bool) (put : S37 → Int → S37) (y : TA), (ifT c (oneT put) y).2.1.size ≤ y.2.1.size := fun c put y => by
    unfold ifT; split
    · exact (numT_le y.2).1
    · exact Nat.le_refl _
  have l1 : (act1 d x).2.1.size ≤ x.1.size := one _ _ _
  have l2 : (act2 d x).2.1.size ≤ x.1.size := Nat.le_trans (one _ _ _) l1
  have l3 : (act3 d x).2.1.size ≤ x.1.size := Nat.le_trans (one _ _ _) l2
  have n3 : (act3 d x).1.f4 = [] ∧ (act3 d x).1.f7 = [] := by
    have m1 : (act1 d x).1.f4 = [] ∧ (act1 d x).1.f7 = [] := by unfold act1 ifT; split <;> exact ⟨rfl, rfl⟩
    have m2 : (act2 d x).1.f4 = [] ∧ (act2 d x).1.f7 = [] := by unfold act2 ifT; split <;> exact m1
    unfold act3 ifT; split <;> exact m2
  have s4 : (act4 d x).2.1.size ≤ x.1.size ∧ (act4 d x).1.f7 = [] ∧ (act4 d x).1.f4.length ≤ 1000000 ∧ ∀ y ∈ (act4 d x).1.f4, y.f1.size ≤ 1000000 := by
    unfold act4 ifT
    split
    · have h1 := givesT_le (numT (act3 d x).2).1.toNat (numT (act3 d x).2).2
      have h2 := givesT_small (numT (act3 d x).2).1.toNat (numT (act3 d x).2).2
      have h3 := (numT_le (act3 d x).2).1
      exact ⟨by show (givesT _ _).2.1.size ≤ _; omega, n3.2, by show (givesT _ _).1.length ≤ _; omega, fun y hy => by have := h2.2 y hy; omega⟩
    · exact ⟨l3, n3.2, by rw [n3.1]; simp, fun y hy => by rw [n3.1] at hy; cases hy⟩
  have s5 : (act5 d x).2.1.size ≤ x.1.size ∧ (act5 d x).1.f7 = [] ∧ (act5 d x).1.f4 = (act4 d x).1.f4 := by
    unfold act5 ifT
    split
    · have h1 := (numT_le (act4 d x).2).1
      have h2 := (numT_le (numT (act4 d x).2).2).1
      have h3 := (numT_le (numT (numT (act4 d x).2).2).2).1
      exact ⟨by show (numT _).2.1.size ≤ _; omega, s4.2.1, rfl⟩
    · exact ⟨s4.1, s4.2.1, rfl⟩
  have s6 : (act6 d x).2.1.size ≤ x.1.size ∧ (act6 d x).1.f7 = [] ∧ (act6 d x).1.f4 = (act4 d x).1.f4 := by
    unfold act6 ifT
    split
    · have h1 := (numT_le (act5 d x).2).1
      exact ⟨by show (numT _).2.1.size ≤ _; omega, s5.2.1, s5.2.2⟩
    · exact s5
  unfold act7 ifT
  split
  · have h1 := stepsT_le (numT (act6 d x).2).1.toNat (numT (act6 d x).2).2
    have h2 := stepsT_small (numT (act6 d x).2).1.toNat (numT (act6 d x).2).2
    have h3 := (numT_le (act6 d x).2).1
    refine ⟨by show (act6 d x).1.f4.length ≤ _; rw [s6.2.2]; exact s4.2.2.1, by show (stepsT _ _).1.length ≤ _; omega, fun y hy => s4.2.2.2 y (by rw [← s6.2.2]; exact hy), fun y hy => by have := h2.2 y hy; omega, by show (stepsT _ _).2.1.size ≤ _; omega⟩
  · exact ⟨by rw [s6.2.2]; exact s4.2.2.1, by rw [s6.2.1]; simp, fun y hy => s4.2.2.2 y (by rw [← s6.2.2]; exact hy), (fun y hy => absurd hy (by rw [s6.2.1]; exact List.not_mem_nil)), s6.1⟩
end Go.Proofs.Ytppgbahiolhgbaa
end
section
set_option linter.unusedVariables false
set_option linter.unusedSimpArgs false
namespace Go.Proofs.Ytppgbahiolhgbaa
open Go.RowKit Go.Proofs.YtppgbahiolhgbaaW.PrintWords Sp
open PScriptReads
def FrRel (w : World) (l0 : Bytes) (v n : Value) (wr : World) : Prop :=
  ∃ (xs : List S37) (p : Nat), n = .int .i64 (p : Int) ∧ p ≤ l0.length ∧ xs.length ≤ p ∧ frontP l0 = (xs ++ (frontP (l0.drop p)).1, (frontP (l0.drop p)).2) ∧ k37.R 37 wr w.heap.size (fun _ => True) v xs ∧ Below w.heap.size w wr
set_option maxRecDepth 100000 in
set_option maxHeartbeats 8000000 in
theorem front16 (s : ByteArray) (w : World) (hs : s.size ≤ 100000) : Calls Try.prog 16 #[.string s] w (FrontPost w (L s)) := by
  obtain ⟨l0, hl⟩ : ∃ l0, l0 = L s := ⟨_, rfl⟩
  have hz : s.size = l0.length := by rw [hl, L_len]
  rw [← hl]
  have HL := Aid.hide (And.intro hl hz)
  have hz0 : l0.length ≤ 100000 := by omega
  have hsz : s.size ≤ l0.length := by omega
  have hsz' : l0.length ≤ s.size := by omega
  clear hl hs hz
  go_enter Try.func16, Try.ntmps16
  go_wp2_with (fail)
  go_loopw [4, 5] (FrRel w l0) (fun _ i _ => l0.length - (intOf i).toNat)
  case atStart => exact ⟨[], 0, rfl, Nat.zero_le _, by simp, rfl, Kd.R_nil _ _ _ _ _, Below.refl _ _⟩
  case round =>
    obtain ⟨xs, p, rfl, hp, hxl, hq, hO, hB⟩ := hrel
    by_cases hlt : p < l0.length
    · have hlt2 : p < s.size := by omega
      obtain ⟨c, l, hcl⟩ : ∃ c l, l0.drop p = c :: l := by
        cases h : l0.drop p with
        | nil => have := congrArg List.length h; rw [List.length_drop] at this; simp at this; omega
        | cons c l => exact ⟨c, l, rfl⟩
      have hll : l.length + 1 = l0.length - p := by have := congrArg List.length hcl; rw [List.length_drop] at this; simpa using this.symm
      have hdr : l0.drop (p + 1) = l := by rw [← List.drop_drop, hcl]; rfl
      have hex : s.extract (p + 1) s.size = mk l := by rw [ext_mk, ← (Aid.unhide HL).1, hdr]
      have hbt : bt s (p : Int) = (c.toNat : Int) := by
        rw [bt_eq, ← (Aid.unhide HL).1]
        have : l0.getD p 0 = c := by
          have h := congrArg (fun q : Bytes => q[0]?) hcl
          simp only [List.getElem?_drop, Nat.add_zero, List.getElem?_cons_zero] at h
          rw [List.getD_eq_getElem?_getD, h]; rfl
        rw [this]
      have hu := u8_lt c
      have hix : ∀ W, (Instr.index 9 (.string s) (.int .i64 (p : Int))).run Try.prog W = .ok (.int .u8 (c.toNat : Int)) W := fun W => by rw [← hbt]; exact ix9 s .i64 (p : Int) (by omega) (by omega) W
      have hw1 : IntKind.i64.wrap ((p : Int) + 1) = (p : Int) + 1 := IntWalk.i64_in _ (by omega)
      have hle1 : (p : Int) + 1 ≤ (s.size : Int) := by omega
      go_upto_region 5 with (fail)
      have hI : IsS67 wr (wr.alloc (.cells #[.string (mk l), .bool true] 67)) wr.heap.size (mk l) true := IsS67.new wr wr _ _ (Below.refl _ _)
      have hB1 : Below wr.heap.size wr (wr.alloc (.cells #[.string (mk l), .bool true] 67)) := below_alloc (Below.refl _ _) _
      have hzl : (mk l).size ≤ 100000 := by rw [size_mk]; omega
      have hC := act34 wr wr.heap.size (c.toNat : Int) (mk l, true) _ hI hB1 (by omega) hzl
      have hsm := act7_small (c.toNat : Int) (mk l, true) hzl
      have hyes := fun a b => act7_yes (c := c) (l := l) a b
      have hno := fun a => act7_no (c := c) (l := l) a
      have hsl : (mk l).size = l.length := size_mk l
      generalize act7 (c.toNat : Int) (mk l, true) = y at *
      obtain ⟨ya, ys, yb⟩ := y
      simp only at hyes hno hsm
      rw [hsl] at hsm
      obtain ⟨m4, m7, n4, n7, hys⟩ := hsm
      obtain ⟨r, hr⟩ : ∃ r, r = wr.heap.size := ⟨_, rfl⟩
      have hlr : wr.heap.size ≤ r := by omega
      rw [← hr] at hC ⊢
      have hsz1 : wr.heap.size ≤ (wr.alloc (.cells #[.string (mk l), .bool true] 67)).heap.size := hB1.size
      generalize wr.alloc (.cells #[.string (mk l), .bool true] 67) = w1 at *
      obtain ⟨d, hd⟩ : ∃ d : Int, d = (c.toNat : Int) := ⟨_, rfl⟩
      rw [← hd] at hix hC
      have hM := fun (A4 : Option Addr) (c4 : Nat) (A9 : Option Addr) (c9 : Nat) (W : World) h4 h9 => may14 ya A4 c4 A9 c9 W h4 h9 (by omega) (by omega) (fun y hy => by have := n4 y hy; omega) (fun y hy => by have := n7 y hy; omega)
      have hbase := hB.size
      have F := Aid.hide (And.intro hC (And.intro hM (And.intro hyes (And.intro hno (And.intro hq (And.intro hO (And.intro hB (And.intro hcl hdr))))))))
      clear hC hM hyes hno hq hO hB hcl hI hB1 hex hbt hu hw1 hle1 hd n4 n7 hdr hr
      have fin : ∀ W, Below wr.heap.size wr W → rdOK (c :: l) = none → FrontPost w l0 (.returned (.tuple #[u4, .int .i64 (p : Int)])) W := fun W hW hn => by
        obtain ⟨_, _, _, _, hq, hO, hB, hcl, _⟩ := Aid.unhide F
        rw [hcl, frontP_none hn] at hq
        refine ⟨u4, ?_, by rw [hq]; simp only [List.append_nil]; exact Kd.R_below hO hW, hB.trans (hW.mono hB.size)⟩
        rw [hq]
        have : (l0.length : Int) - ((c :: l).length : Int) = (p : Int) := by simp only [List.length_cons]; omega
        show _ = Ending.returned (.tuple #[u4, .int .i64 ((l0.length : Int) - ((c :: l).length : Int))])
        rw [this]
      have FIN := Aid.hide fin
      clear fin
      cases yb with
      | false =>
        go_wp2_with (go_at_call 34; refine (Aid.unhide F).1.mono ?_; rintro e2 w2 ⟨v4, v9, rfl, hG, hS, hT, hB2, hK⟩; obtain ⟨V4, d4, rfl⟩ := Kd.R_slice hG; obtain ⟨V9, d9, rfl⟩ := Kd.R_slice hS; have k1 : w2.cell? ⟨r, 1, none⟩ = some (.bool false) := (blk_cell hT.1 1).trans rfl; have hl2 := blk_lt hT.1)
        go_ret2
        exact (Aid.unhide FIN) _ (hB2.trans ((below_alloc (Below.refl _ _) _).mono hB2.size)) ((Aid.unhide F).2.2.2.1 (by simp))
      | true =>
        cases hm : mayAct ya with
        | false =>
          go_wp2_with (first
            | (go_at_call 34; refine (Aid.unhide F).1.mono ?_; rintro e2 w2 ⟨v4, v9, rfl, hG, hS, hT, hB2, hK⟩; obtain ⟨V4, d4, rfl⟩ := Kd.R_slice hG; obtain ⟨V9, d9, rfl⟩ := Kd.R_slice hS; have k1 : w2.cell? ⟨r, 1, none⟩ = some (.bool true) := (blk_cell hT.1 1).trans rfl; have hl2 := blk_lt hT.1)
            | (go_at_call 14; refine ((Aid.unhide F).2.1 V4 d4 V9 d9 _ (Kd.C_below (Kd.R_reads' hG).2.2 (below_alloc (Below.refl _ _) _)) (Kd.C_below (Kd.R_reads' hS).2.2 (below_alloc (Below.refl _ _) _))).mono ?_; rintro e3 w4 ⟨rfl, hb4⟩; rw [hm]))
          go_ret2
          exact (Aid.unhide FIN) _ (hB2.trans (((below_alloc (Below.refl _ _) _).trans (hb4.mono (by simp))).mono hB2.size)) ((Aid.unhide F).2.2.2.1 (by rw [hm]; simp))
        | true =>
          go_upto_region 8 with (first
            | (go_at_call 34; refine (Aid.unhide F).1.mono ?_; rintro e2 w2 ⟨v4, v9, rfl, hG, hS, hT, hB2, hK⟩; obtain ⟨V4, d4, rfl⟩ := Kd.R_slice hG; obtain ⟨V9, d9, rfl⟩ := Kd.R_slice hS; have k1 : w2.cell? ⟨r, 1, none⟩ = some (.bool true) := (blk_cell hT.1 1).trans rfl; have hl2 := blk_lt hT.1)
            | (go_at_call 14; refine ((Aid.unhide F).2.1 V4 d4 V9 d9 _ (Kd.C_below (Kd.R_reads' hG).2.2 (below_alloc (Below.refl _ _) _)) (Kd.C_below (Kd.R_reads' hS).2.2 (below_alloc (Below.refl _ _) _))).mono ?_; rintro e3 w4 ⟨rfl, hb4⟩; rw [hm]))
          have hA3 : ActV (w2.alloc (.cells (actW ya (.slice V4 ya.f4.length d4) (.slice V9 ya.f7.length d9)) 37)) w2.heap.size ya (.slice V4 ya.f4.length d4) (.slice V9 ya.f7.length d9) := blk_new rfl
          have hA4 := hA3.below hb4
          have hb24 : Below w2.heap.size w2 w4 := (below_alloc (Below.refl _ _) _).trans (hb4.mono (by simp))
          have hb04 : Below wr.heap.size wr w4 := hB2.trans (hb24.mono hB2.size)
          have hT4 := hT.below hb24
          have hG4 : k48.R 48 w4 w.heap.size (fun b => wr.heap.size ≤ b) (.slice V4 ya.f4.length d4) ya.f4 := Kd.R_lower (Kd.R_below (Kd.R_mono (Kd.R_bound hG) (fun k hk => Nat.le_trans hsz1 hk.2.1)) hb24) (Nat.le_trans hbase hsz1)
          have hS4 : k51.R 51 w4 w.heap.size (fun b => wr.heap.size ≤ b) (.slice V9 ya.f7.length d9) ya.f7 := Kd.R_lower (Kd.R_below (Kd.R_mono (Kd.R_bound hS) (fun k hk => Nat.le_trans hsz1 hk.2.1)) hb24) (Nat.le_trans hbase hsz1)
          obtain ⟨k0, k1', k2, k3, k4, k5, k6, k7, k8, k9⟩ := hA4.ten
          have hlen4 := hb04.size
          have K4 := Aid.hide (And.intro hT4 (And.intro hG4 (And.intro hS4 hb04)))
          clear hA3 hA4 hb24 hb04 hT4 hG4 hS4 hb4 hG hS hT hB2 hK k1 hl2
          generalize w2.heap.size = gb at *
          have hxl2 : xs.length ≤ 100000 := by omega
          go_wp2_with ((at_builtin; refine Kd.R_append k37 (w0 := w) (W := w4) w.heap.size rfl (.tmp 35) (.tmp 37) 22 37 (.agg #[.int .u8 0, .int .i64 0, .int .i64 0, .int .i64 0, .slice none 0 0, .int .i64 0, .int .i64 0, .int .i64 0, .bool false, .slice none 0 0]) 112 rfl Try.underlying22 inf37 rfl (by decide) (by omega) u4 xs ya [.int .u8 ya.f0, .int .i64 ya.f1, .int .i64 ya.f2, .int .i64 ya.f3, .slice V4 ya.f4.length d4, .int .i64 ya.f5.f0, .int .i64 ya.f5.f1, .int .i64 ya.f5.f2, .bool ya.f6, .slice V9 ya.f7.length d9] (fun _ => True) (fun b => wr.heap.size ≤ b) rfl rfl (k37_mkM _ _ _ ya (Aid.unhide K4).2.1 (Aid.unhide K4).2.2.1) ?c1 (fun _ _ => trivial) (Kd.R_below (Aid.unhide F).2.2.2.2.2.1 (Aid.unhide K4).2.2.2) ((Aid.unhide F).2.2.2.2.2.2.1.trans ((Aid.unhide K4).2.2.2.mono hbase)) (Nat.le_trans hbase hlen4) ?c3 ?_; (case c1 => intro b hb; refine ⟨trivial, fun e => ?_⟩; obtain ⟨inner, ho⟩ := Kd.R_own (Aid.unhide F).2.2.2.2.2.1; have h1 := own_lt ho b e.symm; omega); (case c3 => omega); intro v1 w5 hR1 hB1 hg1 hat1; have hT5 := blk_grown (Aid.unhide K4).1.1 hg1 (fun e => by obtain ⟨inner, ho⟩ := Kd.R_own (Aid.unhide F).2.2.2.2.2.1; have h1 := own_lt ho r e.symm; omega); have k0r : w5.cell? ⟨r, 0, none⟩ = some (.string ys) := (blk_cell hT5 0).trans rfl))
          go_roundw
          case rel =>
            obtain ⟨_, _, hyes, _, hq, hO, hB, hcl, _⟩ := Aid.unhide F
            have hy := hyes trivial hm
            have e1 := (rdOK_to hy).1
            have hlt1 := (rdOK_lt hy).1
            rw [L_len] at hlt1
            simp only [List.length_cons] at hlt1
            have hdrop : l0.drop (s.size - ys.size) = L ys := by
              have e2 : l0.drop p = oneB ya ++ L ys := by rw [hcl]; exact e1
              have e3 := congrArg List.length e2
              rw [List.length_drop, List.length_append, L_len] at e3
              rw [show s.size - ys.size = p + (oneB ya).length from by omega, ← List.drop_drop, e2, List.drop_left]
            refine ⟨xs ++ [ya], s.size - ys.size, ?_, by omega, ?_, ?_, hR1, hB1⟩
            · congr 1; omega
            · rw [List.length_append]; simp only [List.length_cons, List.length_nil]; omega
            · rw [hdrop, hq, hcl, frontP_some hy]; simp
          case measure =>
            simp [intOf]; omega
    · obtain rfl : p = l0.length := by omega
      have HQ := Aid.hide (And.intro hq (And.intro hO hB))
      clear hq hO hB
      go_wp2_with (fail)
      go_ret2
      obtain ⟨hq, hO, hB⟩ := Aid.unhide HQ
      rw [List.drop_length, frontP_empty] at hq
      refine ⟨u4, by rw [hq]; simp, by rw [hq]; simp only [List.append_nil]; exact hO, hB⟩
end Go.Proofs.Ytppgbahiolhgbaa
end
section
set_option linter.unusedVariables false
set_option linter.unusedSimpArgs false
namespace Go.Proofs.Ytppgbahiolhgbaa
open Go.RowKit Go.Proofs.YtppgbahiolhgbaaW.PrintWords Sp
open PScriptReads
theorem wnat (j : Nat) (h : j ≤ 1000000) : wrap64 ((j : Int) + 1) = ((j + 1 : Nat) : Int) := by rw [w64 (by omega) (by omega)]; omega
theorem ints_refl (l : List Int) (hl : l.length ≤ 100000) : ∀ (n j : Nat), j + n = l.length → ∃ K, ∀ k, K ≤ k → chirographref01_SameInts.l0 k l l (j : Int) = some true := by
  intro n
  induction n with
  | zero =>
    intro j hj
    refine ⟨1, fun k hk => ?_⟩
    obtain ⟨k, rfl⟩ : ∃ k', k = k' + 1 := ⟨k - 1, by omega⟩
    rw [chirographref01_SameInts.l0, if_neg (by omega)]
  | succ n ih =>
    intro j hj
    obtain ⟨K, hK⟩ := ih (j + 1) (by omega)
    refine ⟨K + 1, fun k hk => ?_⟩
    obtain ⟨k, rfl⟩ : ∃ k', k = k' + 1 := ⟨k - 1, by omega⟩
    rw [chirographref01_SameInts.l0, if_pos (by omega), if_pos (by omega), if_pos (by omega), if_pos rfl, wnat j (by omega)]
    exact hK k (by omega)
theorem step_refl (x : S51) (h6 : x.f6.length ≤ 100000) : ∃ K, ∀ k, K ≤ k → chirographref32_SameStep.f k x.f0 x.f1 x.f2 x.f3 x.f4 x.f5 x.f6 x.f0 x.f1 x.f2 x.f3 x.f4 x.f5 x.f6 = some true := by
  obtain ⟨K, hK⟩ := ints_refl x.f6 h6 x.f6.length 0 (by omega)
  refine ⟨K, fun k hk => ?_⟩
  unfold chirographref32_SameStep.f chirographref01_SameInts.f
  rw [if_pos rfl, if_pos rfl, if_pos rfl, if_pos rfl, if_pos rfl, if_pos rfl, if_pos rfl]
  have := hK k hk
  simp only [Int.ofNat_zero, Int.natCast_zero] at this
  rw [this]
  rfl
def sa1 (k : Nat) (j : Int) (a : S37) := chirographref32_SameAct.l1 k j a.f0 a.f1 a.f2 a.f3 a.f4 a.f5.f0 a.f5.f1 a.f5.f2 a.f6 a.f7 a.f0 a.f1 a.f2 a.f3 a.f4 a.f5.f0 a.f5.f1 a.f5.f2 a.f6 a.f7
def sa0 (k : Nat) (j : Int) (a : S37) := chirographref32_SameAct.l0 k j a.f0 a.f1 a.f2 a.f3 a.f4 a.f5.f0 a.f5.f1 a.f5.f2 a.f6 a.f7 a.f0 a.f1 a.f2 a.f3 a.f4 a.f5.f0 a.f5.f1 a.f5.f2 a.f6 a.f7
def saf (k : Nat) (a : S37) := chirographref32_SameAct.f k a.f0 a.f1 a.f2 a.f3 a.f4 a.f5.f0 a.f5.f1 a.f5.f2 a.f6 a.f7 a.f0 a.f1 a.f2 a.f3 a.f4 a.f5.f0 a.f5.f1 a.f5.f2 a.f6 a.f7
theorem rd51_mem (l : List S51) (j : Nat) (h : j < l.length) : rd_T51 l (j : Int) ∈ l := by
  unfold rd_T51
  rw [Int.toNat_natCast, List.getD_eq_getElem?_getD, List.getElem?_eq_getElem h]
  exact List.getElem_mem h
theorem rd37_at (l : List S37) (j : Nat) (h : j < l.length) : rd_T37 l (j : Int) = l[j] := by
  unfold rd_T37
  rw [Int.toNat_natCast, List.getD_eq_getElem?_getD, List.getElem?_eq_getElem h]
  rfl
theorem sa1_refl (a : S37) (h7 : a.f7.length ≤ 100000) (h6 : ∀ y ∈ a.f7, y.f6.length ≤ 100000) : ∀ (n j : Nat), j + n = a.f7.length → ∃ K, ∀ k, K ≤ k → sa1 k (j : Int) a = some true := by
  intro n
  induction n with
  | zero =>
    intro j hj
    refine ⟨1, fun k hk => ?_⟩
    obtain ⟨k, rfl⟩ : ∃ k', k = k' + 1 := ⟨k - 1, by omega⟩
    unfold sa1
    rw [chirographref32_SameAct.l1, if_neg (by omega)]
  | succ n ih =>
    intro j hj
    obtain ⟨K, hK⟩ := ih (j + 1) (by omega)
    obtain ⟨K2, hK2⟩ := step_refl (rd_T51 a.f7 (j : Int)) (h6 _ (rd51_mem _ _ (by omega)))
    refine ⟨K + K2 + 1, fun k hk => ?_⟩
    obtain ⟨k, rfl⟩ : ∃ k', k = k' + 1 := ⟨k - 1, by omega⟩
    unfold sa1
    rw [chirographref32_SameAct.l1, if_pos (by omega), if_pos (by omega), if_pos (by omega), hK2 k (by omega), Option.bind_some, if_pos rfl, wnat j (by omega)]
    exact hK k (by omega)
theorem sa0_refl (a : S37) (h4 : a.f4.length ≤ 100000) (h7 : a.f7.length ≤ 100000) (h6 : ∀ y ∈ a.f7, y.f6.length ≤ 100000) : ∀ (n j : Nat), j + n = a.f4.length → ∃ K, ∀ k, K ≤ k → sa0 k (j : Int) a = some true := by
  intro n
  induction n with
  | zero =>
    intro j hj
    obtain ⟨K, hK⟩ := sa1_refl a h7 h6 a.f7.length 0 (by omega)
    refine ⟨K + 1, fun k hk => ?_⟩
    obtain ⟨k, rfl⟩ : ∃ k', k = k' + 1 := ⟨k - 1, by omega⟩
    unfold sa0
    rw [chirographref32_SameAct.l0, if_neg (by omega)]
    exact hK k (by omega)
  | succ n ih =>
    intro j hj
    obtain ⟨K, hK⟩ := ih (j + 1) (by omega)
    refine ⟨K + 1, fun k hk => ?_⟩
    obtain ⟨k, rfl⟩ : ∃ k', k = k' + 1 := ⟨k - 1, by omega⟩
    unfold sa0
    rw [chirographref32_SameAct.l0, if_pos (by omega), if_pos (by omega), if_pos (by omega), if_neg (by simp), wnat j (by omega)]
    exact hK k (by omega)
theorem saf_refl (a : S37) (h4 : a.f4.length ≤ 100000) (h7 : a.f7.length ≤ 100000) (h6 : ∀ y ∈ a.f7, y.f6.length ≤ 100000) : ∃ K, ∀ k, K ≤ k → saf k a = some true := by
  obtain ⟨K, hK⟩ := sa0_refl a h4 h7 h6 a.f4.length 0 (by omega)
  refine ⟨K + 1, fun k hk => ?_⟩
  obtain ⟨k, rfl⟩ : ∃ k', k = k' + 1 := ⟨k - 1, by omega⟩
  unfold saf chirographref32_SameAct.f
  rw [if_pos rfl, if_pos rfl, if_pos rfl, if_pos rfl, if_neg (by simp), if_neg (by simp), if_pos rfl, show (((a.f7.length : Int)) != (a.f7.length : Int)) = false by simp, chirographref32_SameAct.j0, if_neg (by simp)]
  exact hK k (by omega)
theorem same_refl_l (l : List S37) (hl : l.length ≤ 100000) (h : ∀ x ∈ l, x.f4.length ≤ 1000 ∧ x.f7.length ≤ 1000 ∧ ∀ y ∈ x.f7, y.f6.length ≤ 1000) : ∀ (n j : Nat), j + n = l.length → ∃ K, ∀ k, K ≤ k → chirographref32_Same.l0 k l l (j : Int) = some true := by
  intro n
  induction n with
  | zero =>
    intro j hj
    refine ⟨1, fun k hk => ?_⟩
    obtain ⟨k, rfl⟩ : ∃ k', k = k' + 1 := ⟨k - 1, by omega⟩
    rw [chirographref32_Same.l0, if_neg (by omega)]
  | succ n ih =>
    intro j hj
    obtain ⟨K, hK⟩ := ih (j + 1) (by omega)
    have hj2 : j < l.length := by omega
    have hx := h l[j] (List.getElem_mem hj2)
    obtain ⟨K2, hK2⟩ := saf_refl (rd_T37 l (j : Int)) (by rw [rd37_at l j hj2]; omega) (by rw [rd37_at l j hj2]; omega) (by rw [rd37_at l j hj2]; intro y hy; have := hx.2.2 y hy; omega)
    refine ⟨K + K2 + 1, fun k hk => ?_⟩
    obtain ⟨k, rfl⟩ : ∃ k', k = k' + 1 := ⟨k - 1, by omega⟩
    have e := hK2 k (by omega)
    unfold saf at e
    rw [chirographref32_Same.l0, if_pos (by omega), if_pos (by omega), if_pos (by omega), e, Option.bind_some, if_pos rfl, wnat j (by omega)]
    exact hK k (by omega)
theorem same_refl (l : List S37) (hl : l.length ≤ 100000) (h : ∀ x ∈ l, x.f4.length ≤ 1000 ∧ x.f7.length ≤ 1000 ∧ ∀ y ∈ x.f7, y.f6.length ≤ 1000) : ∃ k, chirographref32_Same.f k l l = some true := by
  obtain ⟨K, hK⟩ := same_refl_l l hl h l.length 0 (by omega)
  refine ⟨K, ?_⟩
  unfold chirographref32_Same.f
  rw [if_pos rfl]
  exact hK K (Nat.le_refl _)
end Go.Proofs.Ytppgbahiolhgbaa
end
section
set_option linter.unusedVariables false
set_option linter.unusedSimpArgs false
namespace Go.Proofs.Ytppgbahiolhgbaa
open Go.RowKit Go.Proofs.YtppgbahiolhgbaaW.PrintWords Sp
open PScriptReads
def lv1 : S37 := ⟨3, 2, 0, 0, [], ⟨0, 0, 0⟩, false, []⟩
def lv2 : S37 := ⟨4, 0, 0, 300, [], ⟨0, 0, 0⟩, false, []⟩
def lv3 : S37 := ⟨7, 1, 0, 0, [], ⟨0, 0, 0⟩, false, []⟩
def lvs : List S37 := [lv1, lv2, lv3]
def lvB : Bytes := [3, 2, 4, 249, 1, 44, 7, 1, 0]
theorem digs300 : digs 300 = [1, 44] := by
  rw [digs_pos (by decide), show 300 / 256 = 1 from rfl, digs_pos (by decide), show 1 / 256 = 0 from rfl, digs_zero]
  rfl
theorem lvs_may : lvs.all mayAct = true := by decide
theorem lvs_bytes : lvs.flatMap oneB = lvB := by
  have e : numB 300 = [249, 1, 44] := by unfold numB; rw [if_neg (by decide), digs300]; rfl
  have h2 : oneB lv2 = [4, 249, 1, 44] := by
    show [(4 : UInt8)] ++ [] ++ [] ++ numsB [300] ++ [] ++ [] ++ [] ++ [] = _
    rw [numsB_one, show (300 : Int).toNat = 300 from rfl, e]
    rfl
  have h1 : oneB lv1 = [3, 2] := by rfl
  have h3 : oneB lv3 = [7, 1, 0] := by rfl
  unfold lvs
  rw [List.flatMap_cons, List.flatMap_cons, List.flatMap_cons, h1, h2, h3]
  rfl
theorem lvs_enc : encV lvs = (lvB, 0) := by
  unfold encV
  rw [if_pos lvs_may, lvs_bytes, if_neg (by decide)]
theorem lvs_dec : decP lvB = (lvs, 0) := by
  have h := frontP_flat lvs [] lvs_may
  rw [List.append_nil, lvs_bytes, frontP_empty] at h
  unfold decP
  rw [if_neg (by decide), h, if_neg (by simp)]
  simp
theorem lvs_small : SmallA lvs := by
  refine ⟨by decide, fun x hx => ?_⟩
  simp only [lvs, List.mem_cons, List.not_mem_nil, or_false] at hx
  rcases hx with rfl | rfl | rfl <;> exact ⟨by decide, by decide, (fun y hy => by cases hy), (fun y hy => by cases hy)⟩
def actZ (x : S37) : List Value := [.int .u8 x.f0, .int .i64 x.f1, .int .i64 x.f2, .int .i64 x.f3, .slice none 0 0, .int .i64 x.f5.f0, .int .i64 x.f5.f1, .int .i64 x.f5.f2, .bool x.f6, .slice none 0 0]
theorem AC_three {W : World} {b : Nat} {x y z : S37} (h : W.heap[b]? = some (.cells (actZ x ++ actZ y ++ actZ z).toArray 37 (0, 0))) (hx : x.f4 = [] ∧ x.f7 = []) (hy : y.f4 = [] ∧ y.f7 = []) (hz : z.f4 = [] ∧ z.f7 = []) :
    AC W (some ⟨b, 0, none⟩) 3 [x, y, z] := by
  have hR : ∀ x : S37, x.f4 = [] ∧ x.f7 = [] → ActR W x (actZ x) := fun x hx =>
    ⟨none, 0, none, 0, by unfold actZ actC; rw [hx.1, hx.2]; rfl, by rw [hx.1]; exact Kd.C_nil _ _, by rw [hx.2]; exact Kd.C_nil _ _, by rw [hx.1]; exact Nat.le_refl _, by rw [hx.2]; exact Nat.le_refl _, fun ad hA => by simp at hA⟩
  refine ⟨rfl, by simp, fun _ => ⟨_, rfl, fun j p hj => ?_⟩⟩
  have hc : ∀ q v, (actZ x ++ actZ y ++ actZ z)[q]? = some v → W.cell? ⟨b, q, none⟩ = some v := fun q v hq => by
    rw [blk_cell h q]
    simpa using hq
  have l10 : ∀ x : S37, (actZ x).length = 10 := fun _ => rfl
  have key : ∀ (k : Nat) (p : S37), (∀ q, q < 10 → (actZ x ++ actZ y ++ actZ z)[k * 10 + q]? = (actZ p)[q]?) → (p.f4 = [] ∧ p.f7 = []) →
      ∃ c, c.length = 10 ∧ ActR W p c ∧ ∀ i u, c[i]? = some u → W.cell? ((⟨b, 0, none⟩ : Addr).add (k * 10 + i)) = some u := by
    intro k p hq hp
    refine ⟨_, l10 p, hR p hp, fun q v hv => ?_⟩
    have hlt : q < 10 := by
      have := (List.getElem?_eq_some_iff.1 hv).1
      rwa [l10] at this
    have ea : (⟨b, 0, none⟩ : Addr).add (k * 10 + q) = ⟨b, k * 10 + q, none⟩ := by
      unfold Addr.add
      split
      · rename_i h0; rw [h0]
      · simp
    rw [ea]
    exact hc _ _ (by rw [hq q hlt]; exact hv)
  match j, hj with
  | 0, hj =>
    obtain rfl : x = p := by simpa using hj
    exact key 0 _ (fun q hq => by rw [Nat.zero_mul, Nat.zero_add, List.append_assoc, List.getElem?_append_left (by rw [l10]; exact hq)]) hx
  | 1, hj =>
    obtain rfl : y = p := by simpa using hj
    exact key 1 _ (fun q hq => by rw [List.append_assoc, List.getElem?_append_right (by rw [l10]; omega), l10, List.getElem?_append_left (by rw [l10]; omega)]; congr 1; omega) hy
  | 2, hj =>
    obtain rfl : z = p := by simpa using hj
    exact key 2 _ (fun q hq => by rw [List.getElem?_append_right (by rw [List.length_append, l10, l10]; omega), List.length_append, l10, l10]; congr 1; omega) hz
set_option maxRecDepth 100000 in
set_option maxHeartbeats 8000000 in
theorem alive8 (w : World) : Calls Try.prog 8 #[] w fun e w' => e = .returned (.bool true) ∧ Below w.heap.size w w' := by
  have e1 : (encV lvs).1 = lvB := by rw [lvs_enc]
  have e2 : (encV lvs).2 = 0 := by rw [lvs_enc]
  have d1 : (decP lvB).1 = lvs := by rw [lvs_dec]
  have d2 : (decP lvB).2 = 0 := by rw [lvs_dec]
  have c1 : ((mk lvB).toList == ([3, 2, 4, 249, 1, 44, 7, 1, 0] : List UInt8)) = true := by rw [toL, L_mk]; rfl
  have hlen : lvs.length = 3 := rfl
  have hno : mayAct ⟨3, 0, 0, 1, [], ⟨0, 0, 0⟩, false, []⟩ = false := by decide
  go_enter Try.func8, Try.ntmps8
  go_wp2_with (first
    | (go_at_call 10; refine (encode10 (some ⟨_, 0, none⟩) 3 lvs _ (AC_three (blk_new (by first | rfl | simp)) ⟨rfl, rfl⟩ ⟨rfl, rfl⟩ ⟨rfl, rfl⟩) lvs_small).mono ?_; rintro x1 w1 ⟨rfl, hb1⟩; rw [e1, e2])
    | (go_at_call 17; refine (decode17 (mk lvB) _ (by decide)).mono ?_; rintro x2 w2 ⟨v, rfl, hR2, hb2⟩; rw [L_mk] at hR2 ⊢; rw [d1] at hR2; rw [d2]; obtain ⟨A, c, rfl⟩ := Kd.R_slice hR2; rw [hlen])
    | (go_at_call 13; refine (check13 ⟨3, 0, 0, 1, [], ⟨0, 0, 0⟩, false, []⟩ none 0 none 0 _ (Kd.C_nil _ _) (Kd.C_nil _ _) (by decide) (by decide) (fun y hy => by cases hy) (fun y hy => by cases hy)).mono ?_; rintro x3 w3 ⟨rfl, hb3⟩; rw [hno, show errC false = 2 from rfl]))
  go_ret
  exact ⟨rfl, below_bt (below_bt (below_bt (below_alloc (Below.refl _ _) _) hb1) hb2) hb3⟩
end Go.Proofs.Ytppgbahiolhgbaa
end
section
set_option linter.unusedVariables false
set_option linter.unusedSimpArgs false
namespace Go.Proofs.Ytppgbahiolhgbaa
open Go.RowKit Go.Proofs.YtppgbahiolhgbaaW.PrintWords Sp
open PScriptReads
structure Short (l : List S37) : Prop where
  h1 : l.length ≤ 60
  h2 : ∀ x ∈ l, x.f4.length ≤ 20 ∧ x.f7.length ≤ 100 ∧ (∀ y ∈ x.f4, y.f1.size ≤ 8192) ∧ ∀ y ∈ x.f7, y.f5.size ≤ 4096 ∧ y.f6.length ≤ 100
theorem Short.own {l : List S37} (h : Short l) : ∀ x ∈ l, x.f4.length ≤ 1000 ∧ x.f7.length ≤ 1000 ∧ ∀ y ∈ x.f7, y.f6.length ≤ 1000 := fun x hx => by
  obtain ⟨a, b, c, d⟩ := h.h2 x hx
  exact ⟨by omega, by omega, fun y hy => by have := d y hy; omega⟩
end Go.Proofs.Ytppgbahiolhgbaa
end
section
set_option linter.unusedVariables false
set_option linter.unusedSimpArgs false
namespace Go.Proofs.Ytppgbahiolhgbaa
open Go.RowKit Go.Proofs.YtppgbahiolhgbaaW.PrintWords Sp
open PScriptReads
set_option maxRecDepth 100000 in
set_option maxHeartbeats 2000000 in
theorem decode18 (s : ByteArray) (w : World) (hs : s.size ≤ 65536) : Calls Try.prog 18 #[.string s] w (DecPost w (L s)) := by
  obtain ⟨l, hl⟩ : ∃ l, l = L s := ⟨_, rfl⟩
  rw [← hl]
  have hz : s.size = l.length := by rw [hl, L_len]
  have hbig : ¬ 65536 < l.length := by omega
  have hF := fun W => front16 s W (by omega)
  rw [← hl] at hF
  obtain ⟨m, hm⟩ : ∃ m, m = (frontP l).2.length := ⟨_, rfl⟩
  have hle := frontP_le l
  rw [← hm] at hle
  by_cases hr : m = 0
  · have hp : decP l = ((frontP l).1, 0) := by unfold decP; rw [if_neg hbig, if_neg (by omega)]
    have HP := Aid.hide (And.intro hp (And.intro hm hF))
    clear hp hm hF hl
    subst hr
    go_enter Try.func18, Try.ntmps18
    go_wp2_with (go_at_call 16; refine ((Aid.unhide HP).2.2 _).mono ?_; rintro e1 w1 ⟨v, rfl, hR, hB⟩; rw [← (Aid.unhide HP).2.1]; have HR := Aid.hide (And.intro hR hB); clear hR hB)
    go_ret2
    obtain ⟨hp, hm, hF⟩ := Aid.unhide HP
    exact ⟨_, by rw [hp]; rfl, by rw [hp]; exact (Aid.unhide HR).1, (Aid.unhide HR).2⟩
  · have hp : decP l = ([], 7) := by unfold decP; rw [if_neg hbig, if_pos (by omega)]
    have HP := Aid.hide (And.intro hp (And.intro hm hF))
    clear hp hm hF hl
    go_enter Try.func18, Try.ntmps18
    go_wp2_with (go_at_call 16; refine ((Aid.unhide HP).2.2 _).mono ?_; rintro e1 w1 ⟨v, rfl, hR, hB⟩; rw [← (Aid.unhide HP).2.1]; have HR := Aid.hide (And.intro hR hB); clear hR hB)
    go_ret2
    obtain ⟨hp, hm, hF⟩ := Aid.unhide HP
    exact ⟨_, by rw [hp]; rfl, by rw [hp]; exact Kd.R_nil _ _ _ _ _, (Aid.unhide HR).2⟩
abbrev SameOK (l : List S37) : Prop := ∀ W A c A' c', k37.C W A l.length l → l.length ≤ c → k37.C W A' l.length l → l.length ≤ c' → Calls Try.prog 12 #[.slice A l.length c, .slice A' l.length c'] W fun e w' => e = .returned (.bool true) ∧ Below W.heap.size W w'
theorem same_ok {l : List S37} (hl : l.length ≤ 100000) (h : l.all mayAct = true) : SameOK l := by
  obtain ⟨k, hk⟩ := same_refl l hl (fun x hx => by
    obtain ⟨_, a, _, b⟩ := may_facts (List.all_eq_true.mp h x hx)
    exact ⟨by omega, by omega, fun y hy => by have := b y hy; omega⟩)
  exact fun W A c A' c' h1 h2 h3 h4 => chirographref32_Same.calls k A c l A' c' l true W h1 h2 h3 h4 hk
def ReadsPost (w : World) (e : Ending) (w' : World) : Prop := e = .returned (.bool true) ∧ Below w.heap.size w w'
def FrR (W : World) (l : List S37) (n : Int) (e : Ending) (w' : World) : Prop := ∃ v, e = .returned (.tuple #[v, .int .i64 n]) ∧ k37.R 37 w' W.heap.size (fun _ => True) v l ∧ Below W.heap.size W w'
structure REnv (s : ByteArray) (la : List S37) (na : Int) (ld : List S37) (nd : Int) : Prop where
  f15 : ∀ W, Calls Try.prog 15 #[.string s] W (FrR W la na)
  f16 : ∀ W, Calls Try.prog 16 #[.string s] W (FrR W la na)
  d17 : ∀ W, Calls Try.prog 17 #[.string s] W (FrR W ld nd)
  d18 : ∀ W, Calls Try.prog 18 #[.string s] W (FrR W ld nd)
  sa : SameOK la
  sd : SameOK ld
set_option maxRecDepth 100000 in
set_option maxHeartbeats 8000000 in
theorem reads_main {s : ByteArray} {la : List S37} {na : Int} {ld : List S37} {nd : Int} (H0 : REnv s la na ld nd) (w : World) (hs : s.size ≤ 16384) : Calls Try.prog 4 #[.string s] w (ReadsPost w) := by
  have H := Aid.hide H0
  clear H0
  have c1 : (na == na) = true := beq_self_eq_true _
  have c2 : (nd == nd) = true := beq_self_eq_true _
  have hW : Below w.heap.size w w := Below.refl _ _
  go_enter Try.func4, Try.ntmps4
  go_wp2_with (first
    | (go_at_call 15; refine ((Aid.unhide H).f15 _).mono ?_; rintro e1 w1 ⟨v1, rfl, hR1, hb1⟩; obtain ⟨A1, d1, rfl⟩ := Kd.R_slice hR1; replace hW := below_bt hW hb1; obtain ⟨_, q1, g1⟩ := Kd.R_reads' hR1; clear hR1 hb1)
    | (go_at_call 16; refine ((Aid.unhide H).f16 _).mono ?_; rintro e2 w2 ⟨v2, rfl, hR2, hb2⟩; obtain ⟨A2, d2, rfl⟩ := Kd.R_slice hR2; replace hW := below_bt hW hb2; obtain ⟨_, q2, g2⟩ := Kd.R_reads' hR2; replace g1 := Kd.C_below g1 hb2; clear hR2 hb2)
    | (go_at_call 17; refine ((Aid.unhide H).d17 _).mono ?_; rintro e3 w3 ⟨v3, rfl, hR3, hb3⟩; obtain ⟨A3, d3, rfl⟩ := Kd.R_slice hR3; replace hW := below_bt hW hb3; obtain ⟨_, q3, g3⟩ := Kd.R_reads' hR3; replace g1 := Kd.C_below g1 hb3; replace g2 := Kd.C_below g2 hb3; clear hR3 hb3)
    | (go_at_call 18; refine ((Aid.unhide H).d18 _).mono ?_; rintro e4 w4 ⟨v4, rfl, hR4, hb4⟩; obtain ⟨A4, d4, rfl⟩ := Kd.R_slice hR4; replace hW := below_bt hW hb4; obtain ⟨_, q4, g4⟩ := Kd.R_reads' hR4; replace g1 := Kd.C_below g1 hb4; replace g2 := Kd.C_below g2 hb4; replace g3 := Kd.C_below g3 hb4; clear hR4 hb4)
    | (go_at_call 12; (with_reducible refine ((Aid.unhide H).sa _ A1 d1 A2 d2 g1 q1 g2 q2).mono ?_); rintro e5 w5 ⟨rfl, hb5⟩; replace hW := below_bt hW hb5; replace g3 := Kd.C_below g3 hb5; replace g4 := Kd.C_below g4 hb5; clear hb5 g1 g2)
    | (go_at_call 12; (with_reducible refine ((Aid.unhide H).sd _ A3 d3 A4 d4 g3 q3 g4 q4).mono ?_); rintro e6 w6 ⟨rfl, hb6⟩; replace hW := below_bt hW hb6; clear hb6 g3 g4)
    | (go_at_call 8; refine (alive8 _).mono ?_; rintro e7 w7 ⟨rfl, hb7⟩; replace hW := below_bt hW hb7; clear hb7))
  go_ret
  exact ⟨rfl, hW⟩
set_option maxRecDepth 100000 in
set_option maxHeartbeats 8000000 in
theorem reads4 (s : ByteArray) (w : World) (hs : s.size ≤ 9223372036854775807) : Calls Try.prog 4 #[.string s] w (ReadsPost w) := by
  by_cases hbig : 16384 < s.size
  · have hW : Below w.heap.size w w := Below.refl _ _
    go_enter Try.func4, Try.ntmps4
    go_wp2_with (go_at_call 8; refine (alive8 _).mono ?_; rintro e7 w7 ⟨rfl, hb7⟩; replace hW := below_bt hW hb7; clear hb7)
    go_ret
    exact ⟨rfl, hW⟩
  · obtain ⟨hf, hm, _⟩ := frontP_to (L s)
    have hlen : (frontP (L s)).1.length ≤ 100000 := by
      have h1 := congrArg List.length hf
      rw [L_len, List.length_append] at h1
      have h2 : (frontP (L s)).1.length ≤ ((frontP (L s)).1.flatMap oneB).length := by
        generalize (frontP (L s)).1 = xs
        induction xs with
        | nil => simp
        | cons x xs ih =>
          rw [List.flatMap_cons, List.length_append, List.length_cons]
          have : 1 ≤ (oneB x).length := by unfold oneB; simp
          omega
      omega
    have hd : (decP (L s)).1.all mayAct = true ∧ (decP (L s)).1.length ≤ 100000 := by
      unfold decP
      repeat' split
      · exact ⟨rfl, by simp⟩
      · exact ⟨rfl, by simp⟩
      · exact ⟨hm, hlen⟩
    exact reads_main (la := (frontP (L s)).1) (na := ((L s).length : Int) - ((frontP (L s)).2.length : Int)) (ld := (decP (L s)).1) (nd := (decP (L s)).2) ⟨fun W => frontF s W (by omega), fun W => front16 s W (by omega), fun W => decode17 s W (by omega), fun W => decode18 s W (by omega), same_ok hlen hm, same_ok hd.2 hd.1⟩ w (by omega)
end Go.Proofs.Ytppgbahiolhgbaa
end
