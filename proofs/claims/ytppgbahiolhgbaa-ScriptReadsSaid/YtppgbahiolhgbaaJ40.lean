/- Contracts and plain laws over the seat, laid together (group 40 of what the claim needs). -/
import Derived.Test.YtppgbahiolhgbaaJ39
import Derived.Test.YtppgbahiolhgbaaJ27
import Derived.Test.YtppgbahiolhgbaaJ18
import Derived.Test.YtppgbahiolhgbaaJ32
import Derived.Test.YtppgbahiolhgbaaJ38
section
set_option linter.unusedVariables false
set_option linter.unusedSimpArgs false
namespace Go.Proofs.Ytppgbahiolhgbaa
open Go.RowKit Go.Proofs.YtppgbahiolhgbaaW.PrintWords Sp
open PScriptReads
def rdOK (l : Bytes) : Option (S37 × Bytes) := (rdAct l).bind fun q => if mayAct q.1 = true then some q else none
theorem rdOK_lt {l t : Bytes} {a : S37} (h : rdOK l = some (a, t)) : t.length < l.length ∧ Sm a ∧ mayAct a = true ∧ rdAct l = some (a, t) := by
  unfold rdOK at h
  obtain ⟨q, h1, h2⟩ := bind_some_iff h
  by_cases hm : mayAct q.1 = true
  · rw [if_pos hm] at h2
    injection h2 with h2
    subst h2
    exact ⟨(rdAct_small h1).2, (rdAct_small h1).1, hm, h1⟩
  · rw [if_neg hm] at h2; simp at h2
def frontN : Nat → Bytes → List S37 × Bytes
  | 0, l => ([], l)
  | f + 1, l => match rdOK l with
    | some q => (q.1 :: (frontN f q.2).1, (frontN f q.2).2)
    | none => ([], l)
def frontP (l : Bytes) : List S37 × Bytes := frontN l.length l
theorem frontN_fuel : ∀ (f f' : Nat) (l : Bytes), l.length ≤ f → l.length ≤ f' → frontN f l = frontN f' l := by
  intro f
  induction f with
  | zero =>
    intro f' l h h'
    have : l = [] := List.eq_nil_of_length_eq_zero (by omega)
    subst this
    cases f' with
    | zero => rfl
    | succ f' => rfl
  | succ f ih =>
    intro f' l h h'
    cases f' with
    | zero =>
      have : l = [] := List.eq_nil_of_length_eq_zero (by omega)
      subst this
      rfl
    | succ f' =>
      rw [frontN, frontN]
      cases hr : rdOK l with
      | none => rfl
      | some q =>
        have := (rdOK_lt (a := q.1) (t := q.2) hr).1
        simp only
        rw [ih f' q.2 (by omega) (by omega)]
theorem frontP_none {l : Bytes} (h : rdOK l = none) : frontP l = ([], l) := by
  unfold frontP
  cases hl : l.length with
  | zero => rfl
  | succ n => rw [frontN, h]
theorem frontP_some {l t : Bytes} {a : S37} (h : rdOK l = some (a, t)) : frontP l = (a :: (frontP t).1, (frontP t).2) := by
  have hlt := (rdOK_lt h).1
  unfold frontP
  cases hl : l.length with
  | zero => omega
  | succ n =>
    rw [frontN, h]
    simp only
    rw [frontN_fuel n t.length t (by omega) (Nat.le_refl _)]
theorem frontP_le (l : Bytes) : (frontP l).2.length ≤ l.length := by
  have : ∀ (f : Nat) (l : Bytes), (frontN f l).2.length ≤ l.length := by
    intro f
    induction f with
    | zero => intro l; exact Nat.le_refl _
    | succ f ih =>
      intro l
      rw [frontN]
      cases hr : rdOK l with
      | none => exact Nat.le_refl _
      | some q =>
        have := (rdOK_lt (a := q.1) (t := q.2) hr).1
        have := ih q.2
        simp only; omega
  exact this _ l
theorem front_R {α : Type} {d : Kd α} {e : Nat} {w1 wr : World} {base : Nat} {v : Value} {xs : List α} {o : Obj} (h : d.R e w1 wr.heap.size (fun _ => True) v xs) (hb : base ≤ wr.heap.size) : d.R e (w1.alloc o) base (fun b => wr.heap.size ≤ b) v xs :=
  Kd.R_lower (Kd.R_below (Kd.R_mono (Kd.R_bound h) (fun _ hk => hk.2.1)) (below_alloc (Below.refl _ _) o)) hb
theorem size_alloc1 (w : World) (o : Obj) : (w.alloc o).heap.size = w.heap.size + 1 := by simp
def strLen : Value → Nat | .string b => b.size | _ => 0
def FrontPost (w : World) (l : Bytes) (e : Ending) (w' : World) : Prop :=
  ∃ v, e = .returned (.tuple #[v, .int .i64 ((l.length : Int) - ((frontP l).2.length : Int))]) ∧ k37.R 37 w' w.heap.size (fun _ => True) v (frontP l).1 ∧ Below w.heap.size w w'
def FrontRel (w : World) (l0 : Bytes) (s v n : Value) (wr : World) : Prop :=
  ∃ (xs : List S37) (t : Bytes), s = .string (mk t) ∧ n = .int .i64 ((l0.length : Int) - (t.length : Int)) ∧ frontP l0 = (xs ++ (frontP t).1, (frontP t).2) ∧ xs.length + t.length ≤ l0.length ∧ k37.R 37 wr w.heap.size (fun _ => True) v xs ∧ Below w.heap.size w wr
set_option maxRecDepth 100000 in
set_option maxHeartbeats 8000000 in
theorem front15 (h52 : RPart 52 rdSteps) (s : ByteArray) (w : World) (hs : s.size ≤ 1000000) : Calls Try.prog 15 #[.string s] w (FrontPost w (L s)) := by
  have hl0 : (L s).length ≤ 1000000 := by rw [L_len]; exact hs
  obtain ⟨l0, hl⟩ : ∃ l0, l0 = L s := ⟨_, rfl⟩
  rw [← hl] at hl0 ⊢
  have hsl : s = mk l0 := by rw [hl, mk_L]
  subst hsl
  clear hl hs
  go_enter Try.func15, Try.ntmps15
  go_wp2_with (fail)
  go_loopw [0, 2, 3] (FrontRel w l0) (fun s _ _ _ => strLen s)
  case atStart => exact ⟨[], l0, rfl, by rw [Int.sub_self], rfl, by simp, Kd.R_nil _ _ _ _ _, Below.refl _ _⟩
  case round =>
    obtain ⟨xs, t, rfl, rfl, hq, hzt, hO, hB⟩ := hrel
    have e1 : (mk t).size = t.length := size_mk t
    have hz1 : t.length ≤ 1000000 := by omega
    by_cases hne : t = []
    · subst hne
      have HQ := Aid.hide (And.intro hq (And.intro hO hB))
      clear hq hO hB
      have c1 : ((mk []).toList == ([] : List UInt8)) = true := by rw [toL, L_mk]; rfl
      go_wp2_with (fail)
      go_ret2
      rw [frontP_none (by rfl : rdOK [] = none)] at HQ
      refine ⟨_, by rw [(Aid.unhide HQ).1]; rfl, by rw [(Aid.unhide HQ).1]; simp only [List.append_nil]; exact (Aid.unhide HQ).2.1, (Aid.unhide HQ).2.2⟩
    · have hpos : 0 < t.length := by cases t with | nil => exact absurd rfl hne | cons c t => simp
      have c3 : ((mk t).toList == ([] : List UInt8)) = false := by
        rw [toL, L_mk, beq_eq_false_iff_ne]; exact hne
      have c4 : (mk t).toList.isEmpty = false := by
        rw [toL, L_mk]; cases t with | nil => exact absurd rfl hne | cons c t => rfl
      have hC := one33 h52 (mk t) wr (by omega) (by omega)
      rw [L_mk] at hC
      cases hr : rdAct t with
      | none =>
        rw [hr] at hC
        have hno : rdOK t = none := by unfold rdOK; rw [hr]; rfl
        have HQ := Aid.hide (And.intro hC (And.intro hq (And.intro hO (And.intro hB hno))))
        clear hC hq hO hB hno hr hne e1
        go_wp2_with (go_at_call 33; refine (Aid.unhide HQ).1.mono ?_; rintro e2 w1 ⟨rfl, hb1⟩)
        go_ret2
        obtain ⟨_, hq, hO, hB, hno⟩ := Aid.unhide HQ
        have hbb : Below wr.heap.size wr (w1.alloc (.cells (actW act0 (.slice none 0 0) (.slice none 0 0)) 37)) := hb1.alloc hb1.size _
        rw [frontP_none hno] at hq
        refine ⟨_, by rw [hq]; rfl, by rw [hq]; simp only [List.append_nil]; exact Kd.R_below hO hbb, hB.trans (hbb.mono hB.size)⟩
      | some z =>
        obtain ⟨a, t1⟩ := z
        rw [hr] at hC
        obtain ⟨hsm, hlt⟩ := rdAct_small hr
        cases hm : mayAct a with
        | false =>
          have hno : rdOK t = none := by unfold rdOK; rw [hr, Option.bind_some, if_neg (by rw [hm]; simp)]
          have HQ := Aid.hide (And.intro hC (And.intro hq (And.intro hO (And.intro hB hno))))
          clear hC hq hO hB hno hr hne e1 hsm hlt
          go_wp2_with (go_at_call 33; refine (Aid.unhide HQ).1.mono ?_; rintro e2 w1 ⟨v4, v9, rfl, h4, h9, hb1⟩; rw [hm]; obtain ⟨V4, d4, rfl⟩ := Kd.R_slice h4; obtain ⟨V9, d9, rfl⟩ := Kd.R_slice h9)
          go_ret2
          obtain ⟨_, hq, hO, hB, hno⟩ := Aid.unhide HQ
          have hbb : Below wr.heap.size wr (w1.alloc (.cells (actW a (.slice V4 a.f4.length d4) (.slice V9 a.f7.length d9)) 37)) := hb1.alloc hb1.size _
          rw [frontP_none hno] at hq
          refine ⟨_, by rw [hq]; rfl, by rw [hq]; simp only [List.append_nil]; exact Kd.R_below hO hbb, hB.trans (hbb.mono hB.size)⟩
        | true =>
          have hyes : rdOK t = some (a, t1) := by unfold rdOK; rw [hr, Option.bind_some, if_pos hm]
          have e3 : (mk t1).size = t1.length := size_mk t1
          obtain ⟨n0, hn0⟩ : ∃ n, n = l0.length := ⟨_, rfl⟩
          obtain ⟨nt, hnt⟩ : ∃ n, n = t.length := ⟨_, rfl⟩
          obtain ⟨n1, hn1⟩ : ∃ n, n = t1.length := ⟨_, rfl⟩
          have hxl : xs.length ≤ 1000000 := by omega
          have N := Aid.hide (And.intro hn0 (And.intro hnt hn1))
          rw [← hn0] at hl0 hzt
          rw [← hn1] at e3 hlt
          rw [← hnt] at e1 hlt hzt hz1 hpos
          rw [← hn0, ← hnt]
          have HQ := Aid.hide (And.intro hC (And.intro hq (And.intro hO (And.intro hB hyes))))
          have hsz := hB.size
          clear hC hq hO hB hyes hr hne hsm hn0 hnt hn1
          go_wp2_with (first
            | (go_at_call 33; refine (Aid.unhide HQ).1.mono ?_; rintro e2 w1 ⟨v4, v9, rfl, h4, h9, hb1⟩; rw [hm]; obtain ⟨V4, d4, rfl⟩ := Kd.R_slice h4; obtain ⟨V9, d9, rfl⟩ := Kd.R_slice h9; have hbb : Below wr.heap.size wr (w1.alloc (.cells (actW a (.slice V4 a.f4.length d4) (.slice V9 a.f7.length d9)) 37)) := hb1.alloc hb1.size _; have G := Aid.hide (And.intro h4 (And.intro h9 hbb)); clear h4 h9 hbb)
            | (at_builtin; refine Kd.R_append k37 (w0 := w) w.heap.size rfl (.tmp 24) (.tmp 26) 22 37 (.agg #[.int .u8 0, .int .i64 0, .int .i64 0, .int .i64 0, .slice none 0 0, .int .i64 0, .int .i64 0, .int .i64 0, .bool false, .slice none 0 0]) 112 rfl Try.underlying22 inf37 rfl (by decide) (by omega) u2 xs a [.int .u8 a.f0, .int .i64 a.f1, .int .i64 a.f2, .int .i64 a.f3, .slice V4 a.f4.length d4, .int .i64 a.f5.f0, .int .i64 a.f5.f1, .int .i64 a.f5.f2, .bool a.f6, .slice V9 a.f7.length d9] (fun _ => True) (fun b => wr.heap.size ≤ b) rfl (by first | rfl | (rw [size_alloc1]; rfl)) (k37_mkM _ _ _ a (front_R (Aid.unhide G).1 (Aid.unhide HQ).2.2.2.1.size) (front_R (Aid.unhide G).2.1 (Aid.unhide HQ).2.2.2.1.size)) ?c1 ?c2 (Kd.R_below (Aid.unhide HQ).2.2.1 (Aid.unhide G).2.2) ((Aid.unhide HQ).2.2.2.1.trans ((Aid.unhide G).2.2.mono (Aid.unhide HQ).2.2.2.1.size)) ?c4 ?c3 ?_; (case c1 => intro b hb; refine ⟨trivial, fun e => ?_⟩; obtain ⟨inner, ho⟩ := Kd.R_own (Aid.unhide HQ).2.2.1; have h1 := own_lt ho b e.symm; (try simp at hb); (try simp at h1); omega); (case c2 => intro b hb; trivial); (case c4 => have := (Aid.unhide G).2.2.size; simp at this ⊢; omega); (case c3 => omega); intro v1 w2 hR1 hB1 hg1 hat1))
          go_roundw
          case rel =>
            refine ⟨xs ++ [a], t1, rfl, ?_, ?_, ?_, hR1, hB1⟩
            · rw [← (Aid.unhide N).1, ← (Aid.unhide N).2.2]; first | rfl | (congr 1; omega)
            · rw [(Aid.unhide HQ).2.1, frontP_some (Aid.unhide HQ).2.2.2.2]; simp
            · rw [List.length_append, ← (Aid.unhide N).1, ← (Aid.unhide N).2.2]; simp only [List.length_cons, List.length_nil]; omega
          case measure => unfold strLen; simp only; rw [e1, e3]; omega
end Go.Proofs.Ytppgbahiolhgbaa
end
section
set_option linter.unusedVariables false
set_option linter.unusedSimpArgs false
namespace Go.Proofs.Ytppgbahiolhgbaa
open Go.RowKit Go.Proofs.YtppgbahiolhgbaaW.PrintWords Sp
open PScriptReads
theorem numP_of {m v : Nat} (t : Bytes) (hv : v ≤ m) (hm : m ≤ 2147483647) : numP m (numB v ++ t) = some (v, t) := by
  unfold numP
  rw [rdNum_numB v (by omega) t]
  simp only
  rw [if_pos ⟨trivial, hv⟩, List.drop_left]
theorem numP_to {m v : Nat} {l t : Bytes} (h : numP m l = some (v, t)) : l = numB v ++ t ∧ v ≤ m := by
  unfold numP at h
  split at h
  · rename_i hc
    injection h with h
    injection h with h1 h2
    subst h1; subst h2
    have := rdNum_ok (l := l) (v := (rdNum l).1) (n := (rdNum l).2.1) (pair3 hc.1)
    exact ⟨by rw [← this.2.1, List.take_append_drop], hc.2⟩
  · simp at h
theorem textP_of {m : Nat} {s : Bytes} (t : Bytes) (hs : s.length ≤ m) (hm : m ≤ 1000000) : textP m (textB s ++ t) = some (s, t) := by
  unfold textP
  rw [rdText_textB s m hs (by omega) t]
  simp only
  rw [if_pos trivial, List.drop_left]
theorem textP_to {m : Nat} {v l t : Bytes} (h : textP m l = some (v, t)) : l = textB v ++ t ∧ v.length ≤ m := by
  unfold textP at h
  split at h
  · rename_i hc
    injection h with h
    injection h with h1 h2
    subst h1; subst h2
    have := rdText_ok (l := l) (s := (rdText l m).1) (n := (rdText l m).2.1) (most := m) (pair3 hc)
    exact ⟨by rw [← this.2.1, List.take_append_drop], this.2.2.2.1⟩
  · simp at h
theorem numsB_cons (x : Int) (l : List Int) : numsB (x :: l) = numB x.toNat ++ numsB l := by simp [numsB]
theorem rdNums_of : ∀ (xs : List Int) (t : Bytes), (∀ x ∈ xs, 0 ≤ x ∧ x ≤ 2147483647) → rdNums xs.length (numsB xs ++ t) = some (xs, t) := by
  intro xs
  induction xs with
  | nil => intro t _; rfl
  | cons x xs ih =>
    intro t h
    have hx := h x (List.mem_cons_self ..)
    rw [numsB_cons, List.append_assoc, List.length_cons, rdNums, numP_of _ (by omega) (by omega), Option.bind_some, ih t (fun y hy => h y (List.mem_cons_of_mem _ hy))]
    simp only [Option.map_some, Int.toNat_of_nonneg hx.1]
theorem rdNums_to : ∀ (n : Nat) (l : Bytes) (xs : List Int) (t : Bytes), rdNums n l = some (xs, t) → l = numsB xs ++ t ∧ xs.length = n := by
  intro n
  induction n with
  | zero => intro l xs t h; simp [rdNums] at h; obtain ⟨rfl, rfl⟩ := h; exact ⟨rfl, rfl⟩
  | succ n ih =>
    intro l xs t h
    rw [rdNums] at h
    obtain ⟨q1, h1, h⟩ := bind_some_iff h
    rw [Option.map_eq_some_iff] at h
    obtain ⟨q, h3, h⟩ := h
    injection h with e1 e2
    obtain ⟨i1, i2⟩ := ih _ _ _ h3
    have n1 := (numP_to (v := q1.1) (t := q1.2) h1).1
    subst e1; subst e2
    exact ⟨by rw [numsB_cons, Int.toNat_natCast, List.append_assoc, ← i1]; exact n1, by simp [i2]⟩
theorem rdStep_of {x : S51} (h : (1 ≤ x.f0 ∧ x.f0 ≤ 9) ∧ (0 ≤ x.f1 ∧ x.f1 ≤ 2147483647) ∧ (0 ≤ x.f2 ∧ x.f2 ≤ 2147483647) ∧ (0 ≤ x.f3 ∧ x.f3 ≤ 2147483647) ∧ (0 ≤ x.f4 ∧ x.f4 ≤ 2147483647) ∧ (∀ n ∈ x.f6, 0 ≤ n ∧ n ≤ 2147483647) ∧ x.f5.size ≤ 1024 ∧ x.f6.length ≤ 32) (t : Bytes) : rdStep (stepS x ++ t) = some (x, t) := by
  obtain ⟨h0, h1, h2, h3, h4, h6, h5, h7⟩ := h
  rw [stepS_parts x (by omega)]
  unfold rdStep
  have e4 : rdNums 4 (numsB [x.f1, x.f2, x.f3, x.f4] ++ (textB (L x.f5) ++ (numB x.f6.length ++ (numsB x.f6 ++ t)))) = some ([x.f1, x.f2, x.f3, x.f4], textB (L x.f5) ++ (numB x.f6.length ++ (numsB x.f6 ++ t))) :=
    rdNums_of [x.f1, x.f2, x.f3, x.f4] _ (by intro y hy; simp at hy; omega)
  rw [List.append_assoc, numP_of _ (by omega) (by omega), Option.bind_some]
  simp only [List.append_assoc]
  rw [e4, Option.bind_some]
  simp only
  rw [textP_of _ (by rw [L_len]; exact h5) (by omega), Option.bind_some]
  simp only
  rw [numP_of _ (by omega) (by omega), Option.bind_some]
  simp only
  rw [rdNums_of x.f6 t h6]
  simp only [Option.map_some, n4, mk_L, Int.toNat_of_nonneg (show 0 ≤ x.f0 by omega)]
  rfl
theorem rdStep_to {l : Bytes} {x : S51} {t : Bytes} (h : rdStep l = some (x, t)) : l = stepS x ++ t := by
  unfold rdStep at h
  obtain ⟨q0, h0, h⟩ := bind_some_iff h
  obtain ⟨z, h1, h⟩ := bind_some_iff h
  obtain ⟨q5, h5, h⟩ := bind_some_iff h
  obtain ⟨qn, hn, h⟩ := bind_some_iff h
  rw [Option.map_eq_some_iff] at h
  obtain ⟨y, h6, h⟩ := h
  injection h with e1 e2
  have n0 := (numP_to (v := q0.1) (t := q0.2) h0).1
  have n1 := rdNums_to _ _ z.1 z.2 h1
  have n5 := (textP_to (v := q5.1) (t := q5.2) h5).1
  have nn := (numP_to (v := qn.1) (t := qn.2) hn).1
  have n6 := rdNums_to _ _ y.1 y.2 h6
  obtain ⟨z1, z2⟩ := z
  match z1, n1 with
  | [a, b, c, d], n1 =>
    subst e1; subst e2
    rw [stepS_parts _ (by simp)]
    simp only [Int.toNat_natCast, L_mk, List.append_assoc, n4, List.getD_cons_zero, List.getD_cons_succ]
    rw [n6.2, ← n6.1, ← nn, ← n5]
    have n1' := n1.1
    simp only at n1'
    rw [← n1', ← n0]
theorem rdSl_of : ∀ (xs : List S51) (t : Bytes), (∀ x ∈ xs, (1 ≤ x.f0 ∧ x.f0 ≤ 9) ∧ (0 ≤ x.f1 ∧ x.f1 ≤ 2147483647) ∧ (0 ≤ x.f2 ∧ x.f2 ≤ 2147483647) ∧ (0 ≤ x.f3 ∧ x.f3 ≤ 2147483647) ∧ (0 ≤ x.f4 ∧ x.f4 ≤ 2147483647) ∧ (∀ n ∈ x.f6, 0 ≤ n ∧ n ≤ 2147483647) ∧ x.f5.size ≤ 1024 ∧ x.f6.length ≤ 32) → rdSl xs.length (xs.flatMap stepS ++ t) = some (xs, t) := by
  intro xs
  induction xs with
  | nil => intro t _; rfl
  | cons x xs ih =>
    intro t h
    rw [List.flatMap_cons, List.append_assoc, List.length_cons, rdSl, rdStep_of (h x (List.mem_cons_self ..)), Option.bind_some, ih t (fun y hy => h y (List.mem_cons_of_mem _ hy))]
    rfl
theorem rdSl_to : ∀ (n : Nat) (l : Bytes) (xs : List S51) (t : Bytes), rdSl n l = some (xs, t) → l = xs.flatMap stepS ++ t ∧ xs.length = n := by
  intro n
  induction n with
  | zero => intro l xs t h; simp [rdSl] at h; obtain ⟨rfl, rfl⟩ := h; exact ⟨rfl, rfl⟩
  | succ n ih =>
    intro l xs t h
    rw [rdSl] at h
    obtain ⟨q1, h1, h⟩ := bind_some_iff h
    rw [Option.map_eq_some_iff] at h
    obtain ⟨q, h3, h⟩ := h
    injection h with e1 e2
    obtain ⟨i1, i2⟩ := ih _ _ _ h3
    have n1 := rdStep_to (x := q1.1) (t := q1.2) h1
    subst e1; subst e2
    exact ⟨by rw [List.flatMap_cons, List.append_assoc, ← i1]; exact n1, by simp [i2]⟩
theorem rdGl_of : ∀ (xs : List S48) (t : Bytes), (∀ g ∈ xs, 0 ≤ g.f0 ∧ g.f0 ≤ 7 ∧ g.f1.size ≤ 16384) → rdGl xs.length (xs.flatMap giveS ++ t) = some (xs, t) := by
  intro xs
  induction xs with
  | nil => intro t _; rfl
  | cons x xs ih =>
    intro t h
    have hx := h x (List.mem_cons_self ..)
    rw [List.flatMap_cons, List.append_assoc, List.length_cons, rdGl]
    unfold giveS
    rw [numsB_one, List.append_assoc, numP_of _ (by omega) (by omega), Option.bind_some]
    simp only
    rw [textP_of _ (by rw [L_len]; exact hx.2.2) (by omega), Option.bind_some]
    simp only
    have := ih t (fun y hy => h y (List.mem_cons_of_mem _ hy))
    unfold giveS at this
    rw [this]
    simp only [Option.map_some, mk_L, Int.toNat_of_nonneg hx.1]
theorem rdGl_to : ∀ (n : Nat) (l : Bytes) (xs : List S48) (t : Bytes), rdGl n l = some (xs, t) → l = xs.flatMap giveS ++ t ∧ xs.length = n := by
  intro n
  induction n with
  | zero => intro l xs t h; simp [rdGl] at h; obtain ⟨rfl, rfl⟩ := h; exact ⟨rfl, rfl⟩
  | succ n ih =>
    intro l xs t h
    rw [rdGl] at h
    obtain ⟨q1, h1, h⟩ := bind_some_iff h
    obtain ⟨q2, h2, h⟩ := bind_some_iff h
    rw [Option.map_eq_some_iff] at h
    obtain ⟨q, h3, h⟩ := h
    injection h with e1 e2
    obtain ⟨i1, i2⟩ := ih _ _ _ h3
    have n1 := (numP_to (v := q1.1) (t := q1.2) h1).1
    have n2 := (textP_to (v := q2.1) (t := q2.2) h2).1
    subst e1; subst e2
    refine ⟨?_, by simp [i2]⟩
    rw [List.flatMap_cons, List.append_assoc, ← i1]
    unfold giveS
    simp only [numsB_one, Int.toNat_natCast, L_mk, List.append_assoc]
    rw [← n2]; exact n1
def setF (F : Nat) (a b : S37) : S37 :=
  if F = 46 then { b with f1 := a.f1 } else if F = 47 then { b with f2 := a.f2 } else if F = 51 then { b with f3 := a.f3 } else if F = 48 then { b with f4 := a.f4 } else if F = 49 then { b with f5 := a.f5 }
  else if F = 50 then { b with f6 := a.f6 } else { b with f7 := a.f7 }
def seven (F : Nat) : Prop := F = 46 ∨ F = 47 ∨ F = 48 ∨ F = 49 ∨ F = 50 ∨ F = 51 ∨ F = 52
theorem setF_f0 (F : Nat) (a b : S37) : (setF F a b).f0 = b.f0 := by
  unfold setF
  repeat' split
  all_goals rfl
theorem partB_set {F G : Nat} (hF : seven F) (hG : seven G) (hne : F ≠ G) (a b : S37) : partB G (setF F a b) = partB G b := by
  rcases hF with rfl | rfl | rfl | rfl | rfl | rfl | rfl <;> rcases hG with rfl | rfl | rfl | rfl | rfl | rfl | rfl <;> first | exact absurd rfl hne | rfl
theorem rdF_of {a : S37} (hm : mayAct a = true) {F : Nat} (hF : seven F) (b : S37) (t : Bytes) : rdF F b (partB F a ++ t) = some (setF F a b, t) := by
  obtain ⟨hd, hf, hg, hst⟩ := may_facts hm
  have one : ∀ (m : Nat) (put : S37 → Int → S37) (x : Int), m ≤ 2147483647 → 0 ≤ x → x ≤ m → rdOne m put b (numsB [x] ++ t) = some (put b x, t) := by
    intro m put x h1 h2 h3
    unfold rdOne
    rw [numsB_one, numP_of _ (by omega) h1]
    simp only [Option.map_some, Int.toNat_of_nonneg h2]
  rcases hF with rfl | rfl | rfl | rfl | rfl | rfl | rfl
  · exact one 7 (fun a v => { a with f1 := v }) a.f1 (by omega) (by omega) (by omega)
  · exact one 7 (fun a v => { a with f2 := v }) a.f2 (by omega) (by omega) (by omega)
  · show rdGives b (numsB [(a.f4.length : Int)] ++ a.f4.flatMap giveS ++ t) = some ({ b with f4 := a.f4 }, t)
    unfold rdGives
    rw [numsB_one, Int.toNat_natCast, List.append_assoc, numP_of _ (by omega) (by omega), Option.bind_some]
    simp only
    rw [rdGl_of a.f4 t hg]
    rfl
  · show rdTxn b (numsB [a.f5.f0, a.f5.f1, a.f5.f2] ++ t) = some ({ b with f5 := a.f5 }, t)
    unfold rdTxn
    rw [numsB_three, List.append_assoc, numP_of _ (by omega) (by omega), Option.bind_some]
    simp only
    rw [List.append_assoc, numP_of _ (by omega) (by omega), Option.bind_some]
    simp only
    rw [numP_of _ (by omega) (by omega), Option.bind_some]
    simp only [Int.toNat_of_nonneg (show 0 ≤ a.f5.f0 by omega), Int.toNat_of_nonneg (show 0 ≤ a.f5.f1 by omega), Int.toNat_of_nonneg (show 0 ≤ a.f5.f2 by omega)]
  · show rdYes b (numsB [if a.f6 = true then 1 else 0] ++ t) = some ({ b with f6 := a.f6 }, t)
    unfold rdYes
    rw [numsB_one, numP_of _ (by split <;> decide) (by omega)]
    cases a.f6 <;> rfl
  · exact one 2147483647 (fun a v => { a with f3 := v }) a.f3 (by omega) (by omega) (by omega)
  · show rdSteps b (numsB [(a.f7.length : Int)] ++ a.f7.flatMap stepS ++ t) = some ({ b with f7 := a.f7 }, t)
    unfold rdSteps
    rw [numsB_one, Int.toNat_natCast, List.append_assoc, numP_of _ (by omega) (by omega), Option.bind_some]
    simp only
    rw [rdSl_of a.f7 t hst]
    rfl
theorem rdF_to {F : Nat} (hF : seven F) {b b' : S37} {l t : Bytes} (h : rdF F b l = some (b', t)) : b' = setF F b' b ∧ l = partB F b' ++ t := by
  have one : ∀ (m : Nat) (put : S37 → Int → S37), rdOne m put b l = some (b', t) → ∃ v : Nat, b' = put b (v : Int) ∧ l = numB v ++ t := by
    intro m put h
    unfold rdOne at h
    rw [Option.map_eq_some_iff] at h
    obtain ⟨q, h1, h⟩ := h
    injection h with e1 e2
    have := (numP_to (v := q.1) (t := q.2) h1).1
    subst e2
    exact ⟨q.1, e1.symm, this⟩
  rcases hF with rfl | rfl | rfl | rfl | rfl | rfl | rfl
  · obtain ⟨v, rfl, e⟩ := one 7 (fun a v => { a with f1 := v }) h
    exact ⟨rfl, by rw [show partB 46 { b with f1 := (v : Int) } = numsB [(v : Int)] from rfl, numsB_one, Int.toNat_natCast]; exact e⟩
  · obtain ⟨v, rfl, e⟩ := one 7 (fun a v => { a with f2 := v }) h
    exact ⟨rfl, by rw [show partB 47 { b with f2 := (v : Int) } = numsB [(v : Int)] from rfl, numsB_one, Int.toNat_natCast]; exact e⟩
  · replace h : rdGives b l = some (b', t) := h
    unfold rdGives at h
    obtain ⟨q, h1, h⟩ := bind_some_iff h
    rw [Option.map_eq_some_iff] at h
    obtain ⟨z, h2, h⟩ := h
    injection h with e1 e2
    have n1 := (numP_to (v := q.1) (t := q.2) h1).1
    have n2 := rdGl_to _ _ z.1 z.2 h2
    subst e1; subst e2
    exact ⟨rfl, by rw [show partB 48 { b with f4 := z.1 } = numsB [(z.1.length : Int)] ++ z.1.flatMap giveS from rfl, numsB_one, Int.toNat_natCast, List.append_assoc, ← n2.1, n2.2]; exact n1⟩
  · replace h : rdTxn b l = some (b', t) := h
    unfold rdTxn at h
    obtain ⟨q1, h1, h⟩ := bind_some_iff h
    obtain ⟨q2, h2, h⟩ := bind_some_iff h
    obtain ⟨q3, h3, h⟩ := bind_some_iff h
    injection h with h
    injection h with e1 e2
    have n1 := (numP_to (v := q1.1) (t := q1.2) h1).1
    have n2 := (numP_to (v := q2.1) (t := q2.2) h2).1
    have n3 := (numP_to (v := q3.1) (t := q3.2) h3).1
    subst e1; subst e2
    exact ⟨rfl, by rw [show partB 49 { b with f5 := ⟨(q1.1 : Int), (q2.1 : Int), (q3.1 : Int)⟩ } = numsB [(q1.1 : Int), (q2.1 : Int), (q3.1 : Int)] from rfl, numsB_three, Int.toNat_natCast, Int.toNat_natCast, Int.toNat_natCast, List.append_assoc, List.append_assoc, ← n3, ← n2]; exact n1⟩
  · replace h : rdYes b l = some (b', t) := h
    unfold rdYes at h
    rw [Option.map_eq_some_iff] at h
    obtain ⟨q, h1, h⟩ := h
    injection h with e1 e2
    obtain ⟨n1, n2⟩ := numP_to (v := q.1) (t := q.2) h1
    subst e1; subst e2
    refine ⟨rfl, ?_⟩
    rw [show partB 50 { b with f6 := decide (q.1 = 1) } = numsB [if decide (q.1 = 1) = true then 1 else 0] from rfl, numsB_one]
    have hq : q.1 = 0 ∨ q.1 = 1 := by omega
    rcases hq with hq | hq <;> rw [hq] at n1 ⊢ <;> exact n1
  · obtain ⟨v, rfl, e⟩ := one 2147483647 (fun a v => { a with f3 := v }) h
    exact ⟨rfl, by rw [show partB 51 { b with f3 := (v : Int) } = numsB [(v : Int)] from rfl, numsB_one, Int.toNat_natCast]; exact e⟩
  · replace h : rdSteps b l = some (b', t) := h
    unfold rdSteps at h
    obtain ⟨q, h1, h⟩ := bind_some_iff h
    rw [Option.map_eq_some_iff] at h
    obtain ⟨z, h2, h⟩ := h
    injection h with e1 e2
    have n1 := (numP_to (v := q.1) (t := q.2) h1).1
    have n2 := rdSl_to _ _ z.1 z.2 h2
    subst e1; subst e2
    exact ⟨rfl, by rw [show partB 52 { b with f7 := z.1 } = numsB [(z.1.length : Int)] ++ z.1.flatMap stepS from rfl, numsB_one, Int.toNat_natCast, List.append_assoc, ← n2.1, n2.2]; exact n1⟩
theorem rdParts_of {a : S37} (hm : mayAct a = true) : ∀ (Fs : List Nat), (∀ F ∈ Fs, seven F) → ∀ (b : S37) (t : Bytes), rdParts Fs b (Fs.flatMap (fun F => partB F a) ++ t) = some (Fs.foldl (fun b F => setF F a b) b, t) := by
  intro Fs
  induction Fs with
  | nil => intro _ b t; rfl
  | cons F Fs ih =>
    intro hs b t
    rw [List.flatMap_cons, List.append_assoc, rdParts, rdF_of hm (hs F (List.mem_cons_self ..)), Option.bind_some]
    simp only
    rw [ih (fun G hG => hs G (List.mem_cons_of_mem _ hG))]
    rfl
theorem rdParts_to : ∀ (Fs : List Nat), (∀ F ∈ Fs, seven F) → Fs.Nodup → ∀ (b b' : S37) (l t : Bytes), rdParts Fs b l = some (b', t) → b'.f0 = b.f0 ∧ l = Fs.flatMap (fun F => partB F b') ++ t ∧ ∀ G, seven G → G ∉ Fs → partB G b' = partB G b := by
  intro Fs
  induction Fs with
  | nil => intro _ _ b b' l t h; injection h with h; injection h with h1 h2; subst h1; subst h2; exact ⟨rfl, rfl, fun _ _ _ => rfl⟩
  | cons F Fs ih =>
    intro hs hn b b' l t h
    rw [rdParts] at h
    obtain ⟨q, h1, h⟩ := bind_some_iff h
    rw [List.nodup_cons] at hn
    have hF := hs F (List.mem_cons_self ..)
    obtain ⟨i0, i1, i2⟩ := ih (fun G hG => hs G (List.mem_cons_of_mem _ hG)) hn.2 _ _ _ _ h
    obtain ⟨s1, s2⟩ := rdF_to hF (b' := q.1) (t := q.2) h1
    refine ⟨by rw [i0, s1, setF_f0], ?_, fun G hG hGn => ?_⟩
    · rw [List.flatMap_cons, List.append_assoc, ← i1, i2 F hF hn.1]; exact s2
    · rw [i2 G hG (fun hh => hGn (List.mem_cons_of_mem _ hh)), s1]
      exact partB_set hF hG (fun e => hGn (by rw [e]; exact List.mem_cons_self ..)) _ _
theorem partsL_nodup (d : Int) : (partsL d).Nodup := by
  unfold partsL
  repeat' split
  all_goals decide
theorem parts_all {a : S37} (hm : mayAct a = true) : (partsL a.f0).foldl (fun b F => setF F a b) ⟨a.f0, 0, 0, 0, [], ⟨0, 0, 0⟩, false, []⟩ = a := by
  obtain ⟨hd, _⟩ := may_facts hm
  have hb : bareA a = true := by
    unfold mayAct mayHead at hm
    simp only [Bool.and_eq_true] at hm
    exact hm.1.1.1.1.1.1.1.1.2
  unfold bareA bareB at hb
  simp only [Bool.and_eq_true, Bool.or_eq_true, decide_eq_true_eq, Bool.not_eq_true', List.length_eq_zero_iff] at hb
  have hc : a.f0 = 1 ∨ a.f0 = 2 ∨ a.f0 = 3 ∨ a.f0 = 4 ∨ a.f0 = 5 ∨ a.f0 = 6 ∨ a.f0 = 7 ∨ a.f0 = 8 ∨ a.f0 = 9 ∨ a.f0 = 10 := by omega
  obtain ⟨d, o, au, n, gs, ⟨t1, t2, t3⟩, y, st⟩ := a
  simp only at hb hc ⊢
  rcases hc with rfl | rfl | rfl | rfl | rfl | rfl | rfl | rfl | rfl | rfl <;> simp at hb <;> simp [partsL, setF, hb]
theorem rdAct_of {a : S37} (hm : mayAct a = true) (t : Bytes) : rdAct (oneB a ++ t) = some (a, t) := by
  obtain ⟨hd, _⟩ := may_facts hm
  rw [one_parts hm, List.append_assoc]
  have e0 : (UInt8.ofNat a.f0.toNat).toNat = a.f0.toNat := by
    rw [UInt8.toNat_ofNat']
    omega
  show rdParts (partsL ((UInt8.ofNat a.f0.toNat).toNat : Int)) ⟨((UInt8.ofNat a.f0.toNat).toNat : Int), 0, 0, 0, [], ⟨0, 0, 0⟩, false, []⟩ ((partsL a.f0).flatMap (fun F => partB F a) ++ t) = _
  rw [e0, Int.toNat_of_nonneg (by omega), rdParts_of hm _ (fun F hF => partsL_mem hF), parts_all hm]
theorem rdAct_to {a : S37} {l t : Bytes} (hm : mayAct a = true) (h : rdAct l = some (a, t)) : l = oneB a ++ t := by
  cases l with
  | nil => simp [rdAct] at h
  | cons c l =>
    rw [rdAct] at h
    obtain ⟨h0, h1, _⟩ := rdParts_to _ (fun F hF => partsL_mem hF) (partsL_nodup _) _ _ _ _ h
    simp only at h0
    rw [one_parts hm, h0, Int.toNat_natCast, UInt8.ofNat_toNat, List.append_assoc, ← h1]
    rfl
theorem rdOK_of {a : S37} (hm : mayAct a = true) (t : Bytes) : rdOK (oneB a ++ t) = some (a, t) := by
  unfold rdOK
  rw [rdAct_of hm, Option.bind_some, if_pos hm]
theorem rdOK_to {a : S37} {l t : Bytes} (h : rdOK l = some (a, t)) : l = oneB a ++ t ∧ mayAct a = true := by
  obtain ⟨_, _, hm, h1⟩ := rdOK_lt h
  exact ⟨rdAct_to hm h1, hm⟩
theorem frontP_flat : ∀ (xs : List S37) (t : Bytes), xs.all mayAct = true → frontP (xs.flatMap oneB ++ t) = (xs ++ (frontP t).1, (frontP t).2) := by
  intro xs
  induction xs with
  | nil => intro t _; rfl
  | cons x xs ih =>
    intro t h
    rw [List.all_cons, Bool.and_eq_true] at h
    rw [List.flatMap_cons, List.append_assoc, frontP_some (rdOK_of h.1 _), ih t h.2]
    rfl
theorem frontP_empty : frontP [] = ([], []) := rfl
theorem frontP_to (l : Bytes) : l = (frontP l).1.flatMap oneB ++ (frontP l).2 ∧ (frontP l).1.all mayAct = true ∧ rdOK (frontP l).2 = none := by
  have : ∀ (n : Nat) (l : Bytes), l.length ≤ n → l = (frontP l).1.flatMap oneB ++ (frontP l).2 ∧ (frontP l).1.all mayAct = true ∧ rdOK (frontP l).2 = none := by
    intro n
    induction n with
    | zero =>
      intro l h
      have : l = [] := List.eq_nil_of_length_eq_zero (by omega)
      subst this
      exact ⟨rfl, rfl, rfl⟩
    | succ n ih =>
      intro l h
      cases hr : rdOK l with
      | none => rw [frontP_none hr]; exact ⟨rfl, rfl, hr⟩
      | some q =>
        have hr' : rdOK l = some (q.1, q.2) := hr
        obtain ⟨e, hm⟩ := rdOK_to hr'
        have hlt := (rdOK_lt hr').1
        obtain ⟨i1, i2, i3⟩ := ih q.2 (by omega)
        rw [frontP_some hr']
        refine ⟨?_, by simp only [List.all_cons, hm, i2]; rfl, i3⟩
        simp only [List.flatMap_cons, List.append_assoc]
        rw [← i1]; exact e
  exact this _ l (Nat.le_refl _)
end Go.Proofs.Ytppgbahiolhgbaa
end
section
set_option linter.unusedVariables false
set_option linter.unusedSimpArgs false
namespace Go.Proofs.Ytppgbahiolhgbaa
open Go.RowKit Go.Proofs.YtppgbahiolhgbaaW.PrintWords Sp
open PScriptReads
abbrev TS := ByteArray × Bool
def numT (x : TS) : Int × TS := if x.2 = true then (match numP 2147483647 (L x.1) with | some q => ((q.1 : Int), mk q.2, true) | none => (0, x.1, false)) else (0, x.1, false)
def textT (m : Nat) (x : TS) : ByteArray × TS := if x.2 = true then (match textP m (L x.1) with | some q => (mk q.1, mk q.2, true) | none => (⟨#[]⟩, x.1, false)) else (⟨#[]⟩, x.1, false)
theorem tnum_f (x : TS) (k : Nat) (hk : 20 ≤ k) (hs : x.1.size ≤ 1000000) : chirographref32_taker_num.f k x.1 x.2 = some ((numT x).1, (numT x).2.1, (numT x).2.2) := by
  obtain ⟨s, b⟩ := x
  simp only at hs
  unfold chirographref32_taker_num.f numT numP
  rw [rn61_f s k hk]
  have hok := fun h => rdNum_ok (pair3 (r := rdNum (L s)) (c := 0) h)
  have hlt := rdNum_lt (L s)
  generalize rdNum (L s) = q at *
  obtain ⟨v, n, e⟩ := q
  simp only [Option.bind_some] at *
  cases b with
  | false => rfl
  | true =>
    by_cases he : e = 0
    · subst he
      have h1 := hok rfl
      rw [L_len] at h1
      by_cases hv : v ≤ 2147483647
      · have hext : s.extract ((n : Int)).toNat s.size = mk ((L s).drop n) := by rw [Int.toNat_natCast]; exact ext_mk s n
        simp [hv, show ¬ (2147483647 < (v : Int)) by omega, show ((n : Int) ≤ (s.size : Int)) by omega, w64 (x := (v : Int)) (by omega) (by omega), ext_mk]
      · simp [hv, show (2147483647 < (v : Int)) by omega]
    · simp [he]
theorem ttext_f (x : TS) (m : Nat) (k : Nat) (hk : 21 ≤ k) (hs : x.1.size ≤ 1000000) (hm : m ≤ 1000000) : chirographref32_taker_text.f k x.1 x.2 (m : Int) = some ((textT m x).1, (textT m x).2.1, (textT m x).2.2) := by
  obtain ⟨s, b⟩ := x
  simp only at hs
  unfold chirographref32_taker_text.f textT textP
  rw [rt62_f s (m : Int) k hk (by omega) (by omega) (by omega), Int.toNat_natCast]
  have hok := fun h => rdText_len (l := L s) (m := m) h
  generalize rdText (L s) m = q at *
  obtain ⟨v, n, e⟩ := q
  simp only [Option.bind_some] at *
  cases b with
  | false => rfl
  | true =>
    by_cases he : e = 0
    · subst he
      have h1 := hok rfl
      rw [L_len] at h1
      simp [show ((n : Int) ≤ (s.size : Int)) by omega, ext_mk]
    · simp [he]
theorem numT_le (x : TS) : (numT x).2.1.size ≤ x.1.size ∧ ((numT x).2.2 = true → x.2 = true ∧ (numT x).2.1.size < x.1.size) ∧ (0 ≤ (numT x).1 ∧ (numT x).1 ≤ 2147483647) := by
  unfold numT
  by_cases h : x.2 = true
  · rw [if_pos h]
    cases hq : numP 2147483647 (L x.1) with
    | none => simp
    | some q =>
      have h2 := numP_to (v := q.1) (t := q.2) hq
      have h1 := congrArg List.length h2.1
      rw [L_len, List.length_append] at h1
      have h3 := numB_len q.1 (by omega)
      simp only [size_mk]
      exact ⟨by omega, fun _ => ⟨h, by omega⟩, by omega, by omega⟩
  · rw [if_neg h]; simp
theorem textT_le (m : Nat) (x : TS) : (textT m x).2.1.size ≤ x.1.size ∧ ((textT m x).2.2 = true → x.2 = true) ∧ (textT m x).1.size ≤ m := by
  unfold textT
  by_cases h : x.2 = true
  · rw [if_pos h]
    cases hq : textP m (L x.1) with
    | none => exact ⟨Nat.le_refl _, (fun h => Bool.noConfusion h), Nat.zero_le _⟩
    | some q =>
      have h1 := textP_len (v := q.1) (t := q.2) hq
      rw [L_len] at h1
      simp only [size_mk]
      exact ⟨by omega, fun _ => h, by omega⟩
  · rw [if_neg h]; exact ⟨Nat.le_refl _, (fun h => Bool.noConfusion h), Nat.zero_le _⟩
def listT : Nat → TS → List Int × TS
  | 0, x => ([], x)
  | n + 1, x => if x.2 = true then ((numT x).1 :: (listT n (numT x).2).1, (listT n (numT x).2).2) else ([], x)
theorem listT_le : ∀ (n : Nat) (x : TS), (listT n x).2.1.size ≤ x.1.size ∧ ((listT n x).2.2 = true → x.2 = true ∧ (listT n x).1.length = n) ∧ (listT n x).1.length ≤ x.1.size + 1 := by
  intro n
  induction n with
  | zero => intro x; simp [listT]
  | succ n ih =>
    intro x
    rw [listT]
    by_cases h : x.2 = true
    · rw [if_pos h]
      obtain ⟨a1, a2, a3⟩ := ih (numT x).2
      obtain ⟨b1, b2, b3⟩ := numT_le x
      refine ⟨by simp only; omega, fun hh => ?_, ?_⟩
      · simp only at hh
        exact ⟨h, by simp [(a2 hh).2]⟩
      · simp only [List.length_cons]
        cases hq : (numT x).2.2 with
        | true => have := b2 hq; omega
        | false =>
          have : (listT n (numT x).2).1 = [] := by
            cases n with
            | zero => rfl
            | succ n => rw [listT, if_neg (by rw [hq]; simp)]
          rw [this]; simp
    · rw [if_neg h]; simp [h]
theorem step_l (d : Nat) : ∀ (z n k i : Nat) (x : TS) (x0 x1 x2 x3 x4 : Int) (x5 : ByteArray) (acc : List Int), (x.2 = true → x.1.size ≤ z) → z + 22 ≤ k → i + n = d → d ≤ 2147483647 → x.1.size ≤ 1000000 → acc.length + z ≤ 2000000 →
    chirographref32_taker_step.l0 k (d : Int) (i : Int) x.1 x.2 x0 x1 x2 x3 x4 x5 acc = some (x0, x1, x2, x3, x4, x5, acc ++ (listT n x).1, (listT n x).2.1, (listT n x).2.2) := by
  intro z
  induction z with
  | zero =>
    intro n k i x x0 x1 x2 x3 x4 x5 acc hz hk hi hd hs ha
    obtain ⟨k, rfl⟩ : ∃ m, k = m + 1 := ⟨k - 1, by omega⟩
    rw [chirographref32_taker_step.l0]
    cases n with
    | zero => rw [if_neg (by omega)]; simp [listT]
    | succ n =>
      rw [if_pos (by omega), listT]
      by_cases h : x.2 = true
      · rw [if_pos h, if_pos h, tnum_f x k (by omega) (by omega)]
        have hb : (numT x).2.2 = false := by
          cases hq : (numT x).2.2 with
          | false => rfl
          | true => have := (numT_le x).2.1 hq; have := hz h; omega
        simp only [Option.bind_some]
        rw [if_pos (by omega), w64 (by omega) (by omega)]
        obtain ⟨k, rfl⟩ : ∃ m, k = m + 1 := ⟨k - 1, by omega⟩
        rw [chirographref32_taker_step.l0, hb]
        have hl : listT n (numT x).2 = ([], (numT x).2) := by
          cases n with
          | zero => rfl
          | succ n => rw [listT, if_neg (by rw [hb]; simp)]
        rw [hl, hb]
        simp
      · rw [if_neg h, if_neg h]; simp
  | succ z ih =>
    intro n k i x x0 x1 x2 x3 x4 x5 acc hz hk hi hd hs ha
    obtain ⟨k, rfl⟩ : ∃ m, k = m + 1 := ⟨k - 1, by omega⟩
    rw [chirographref32_taker_step.l0]
    cases n with
    | zero => rw [if_neg (by omega)]; simp [listT]
    | succ n =>
      rw [if_pos (by omega), listT]
      by_cases h : x.2 = true
      · rw [if_pos h, if_pos h, tnum_f x k (by omega) (by omega)]
        obtain ⟨b1, b2, b3⟩ := numT_le x
        simp only [Option.bind_some]
        rw [if_pos (by omega), w64 (by omega) (by omega)]
        have := ih n k (i + 1) (numT x).2 x0 x1 x2 x3 x4 x5 (acc ++ [(numT x).1]) (fun hh => by have := b2 hh; have := hz h; omega) (by omega) (by omega) hd (by omega) (by simp; omega)
        rw [show ((i + 1 : Nat) : Int) = (i : Int) + 1 from by omega] at this
        rw [this]
        simp
      · rw [if_neg h, if_neg h]; simp
def stepT (x : TS) : S51 × TS :=
  let q0 := numT x
  if 255 < q0.1 then (⟨0, 0, 0, 0, 0, ⟨#[]⟩, []⟩, q0.2.1, false)
  else
    let q1 := numT q0.2
    let q2 := numT q1.2
    let q3 := numT q2.2
    let q4 := numT q3.2
    let q5 := textT 1024 q4.2
    let q6 := numT q5.2
    let q7 := listT q6.1.toNat q6.2
    (⟨q0.1, q1.1, q2.1, q3.1, q4.1, q5.1, q7.1⟩, q7.2)
theorem tstep_f (x : TS) (k : Nat) (hs : x.1.size ≤ 1000000) (hk : 1000100 ≤ k) :
    chirographref32_taker_step.f k x.1 x.2 = some ((stepT x).1.f0, (stepT x).1.f1, (stepT x).1.f2, (stepT x).1.f3, (stepT x).1.f4, (stepT x).1.f5, (stepT x).1.f6, (stepT x).2.1, (stepT x).2.2) := by
  unfold chirographref32_taker_step.f stepT
  have a0 := numT_le x
  rw [tnum_f x k (by omega) hs]
  simp only [Option.bind_some]
  by_cases h : 255 < (numT x).1
  · rw [if_pos h, if_pos (by omega)]
  · rw [if_neg h, if_neg (by omega)]
    have a1 := numT_le (numT x).2
    rw [tnum_f _ k (by omega) (by omega)]
    simp only [Option.bind_some]
    have a2 := numT_le (numT (numT x).2).2
    rw [tnum_f _ k (by omega) (by omega)]
    simp only [Option.bind_some]
    have a3 := numT_le (numT (numT (numT x).2).2).2
    rw [tnum_f _ k (by omega) (by omega)]
    simp only [Option.bind_some]
    have a4 := numT_le (numT (numT (numT (numT x).2).2).2).2
    rw [tnum_f _ k (by omega) (by omega)]
    simp only [Option.bind_some]
    generalize numT (numT (numT (numT (numT x).2).2).2).2 = q4 at *
    generalize numT (numT (numT (numT x).2).2).2 = q3 at *
    generalize numT (numT (numT x).2).2 = q2 at *
    generalize numT (numT x).2 = q1 at *
    generalize numT x = q0 at *
    have a5 := textT_le 1024 q4.2
    rw [show (1024 : Int) = ((1024 : Nat) : Int) from rfl, ttext_f q4.2 1024 k (by omega) (by omega) (by omega)]
    simp only [Option.bind_some]
    generalize textT 1024 q4.2 = q5 at *
    have a6 := numT_le q5.2
    rw [tnum_f _ k (by omega) (by omega)]
    simp only [Option.bind_some]
    generalize numT q5.2 = q6 at *
    have := step_l q6.1.toNat q6.2.1.size q6.1.toNat k 0 q6.2 q0.1 q1.1 q2.1 q3.1 q4.1 q5.1 [] (fun _ => Nat.le_refl _) (by omega) (by omega) (by omega) (by omega) (by simp; omega)
    rw [Int.toNat_of_nonneg (by omega)] at this
    rw [Int.emod_eq_of_lt (by omega) (by omega)]
    rw [show ((0 : Nat) : Int) = 0 from rfl] at this
    rw [this]
    simp
end Go.Proofs.Ytppgbahiolhgbaa
end
section
set_option linter.unusedVariables false
set_option linter.unusedSimpArgs false
namespace Go.Proofs.Ytppgbahiolhgbaa
open Go.RowKit Go.Proofs.YtppgbahiolhgbaaW.PrintWords Sp
open PScriptReads
def HAt (W : World) (gh : Nat) (d : Int) : Prop := W.heap[gh]? = some (.cells #[.bool (hOrg d), .bool (hAud d), .bool (hN d), .bool (hGives d), .bool (hTxn d), .bool (hYes d), .bool (hSteps d)] 59 (0, 0))
structure St2 (w : World) (g : Nat) (a : S37) (A4 : Option Addr) (c4 : Nat) (A9 : Option Addr) (c9 : Nat) (gh : Nat) (W : World) : Prop where
  s : St w g a A4 c4 A9 c9 W
  h : HAt W gh a.f0
section
variable {w : World} {g : Nat} {a : S37} {A4 : Option Addr} {c4 : Nat} {A9 : Option Addr} {c9 : Nat} {gh : Nat} {W : World}
theorem St2.below {w1 : World} (h : St2 w g a A4 c4 A9 c9 gh W) (hb : Below W.heap.size W w1) : St2 w g a A4 c4 A9 c9 gh w1 := ⟨h.s.below hb, (hb.block gh (blk_lt h.h)).trans h.h⟩
theorem St2.alloc (h : St2 w g a A4 c4 A9 c9 gh W) (o : Obj) : St2 w g a A4 c4 A9 c9 gh (W.alloc o) := h.below (below_alloc (Below.refl _ _) o)
theorem St2.ten (h : St2 w g a A4 c4 A9 c9 gh W) : Ten W g a A4 c4 A9 c9 := h.s.ten
theorem St2.seven (h : St2 w g a A4 c4 A9 c9 gh W) : W.cell? ⟨gh, 0, none⟩ = some (.bool (hOrg a.f0)) ∧ W.cell? ⟨gh, 1, none⟩ = some (.bool (hAud a.f0)) ∧ W.cell? ⟨gh, 2, none⟩ = some (.bool (hN a.f0)) ∧ W.cell? ⟨gh, 3, none⟩ = some (.bool (hGives a.f0)) ∧ W.cell? ⟨gh, 4, none⟩ = some (.bool (hTxn a.f0)) ∧ W.cell? ⟨gh, 5, none⟩ = some (.bool (hYes a.f0)) ∧ W.cell? ⟨gh, 6, none⟩ = some (.bool (hSteps a.f0)) :=
  ⟨(blk_cell h.h 0).trans rfl, (blk_cell h.h 1).trans rfl, (blk_cell h.h 2).trans rfl, (blk_cell h.h 3).trans rfl, (blk_cell h.h 4).trans rfl, (blk_cell h.h 5).trans rfl, (blk_cell h.h 6).trans rfl⟩
end
end Go.Proofs.Ytppgbahiolhgbaa
end
section
set_option linter.unusedVariables false
set_option linter.unusedSimpArgs false
namespace Go.Proofs.Ytppgbahiolhgbaa
open Go.RowKit Go.Proofs.YtppgbahiolhgbaaW.PrintWords Sp
open PScriptReads
def givesT : Nat → TS → List S48 × TS
  | 0, x => ([], x)
  | n + 1, x => if x.2 = true then (⟨(numT x).1, (textT 16384 (numT x).2).1⟩ :: (givesT n (textT 16384 (numT x).2).2).1, (givesT n (textT 16384 (numT x).2).2).2) else ([], x)
def stepsT : Nat → TS → List S51 × TS
  | 0, x => ([], x)
  | n + 1, x => if x.2 = true then ((stepT x).1 :: (stepsT n (stepT x).2).1, (stepsT n (stepT x).2).2) else ([], x)
abbrev TA := S37 × TS
def oneT (put : S37 → Int → S37) (y : TA) : TA := (put y.1 (numT y.2).1, (numT y.2).2)
def gvT (y : TA) : TA := ({ y.1 with f4 := (givesT (numT y.2).1.toNat (numT y.2).2).1 }, (givesT (numT y.2).1.toNat (numT y.2).2).2)
def txT (y : TA) : TA := ({ y.1 with f5 := ⟨(numT y.2).1, (numT (numT y.2).2).1, (numT (numT (numT y.2).2).2).1⟩ }, (numT (numT (numT y.2).2).2).2)
def ysT (y : TA) : TA := ({ y.1 with f6 := decide ((numT y.2).1 = 1) }, ((numT y.2).2.1, (numT y.2).2.2 && decide ((numT y.2).1 < 2)))
def stT (y : TA) : TA := ({ y.1 with f7 := (stepsT (numT y.2).1.toNat (numT y.2).2).1 }, (stepsT (numT y.2).1.toNat (numT y.2).2).2)
def ifT (c : Bool) (f : TA → TA) (y : TA) : TA := if c = true then f y else y
def ac0 (d : Int) : S37 := ⟨d, 0, 0, 0, [], ⟨0, 0, 0⟩, false, []⟩
def act1 (d : Int) (x : TS) : TA := ifT (hOrg d) (oneT fun a v => { a with f1 := v }) (ac0 d, x)
def act2 (d : Int) (x : TS) : TA := ifT (hAud d) (oneT fun a v => { a with f2 := v }) (act1 d x)
def act3 (d : Int) (x : TS) : TA := ifT (hN d) (oneT fun a v => { a with f3 := v }) (act2 d x)
def act4 (d : Int) (x : TS) : TA := ifT (hGives d) gvT (act3 d x)
def act5 (d : Int) (x : TS) : TA := ifT (hTxn d) txT (act4 d x)
def act6 (d : Int) (x : TS) : TA := ifT (hYes d) ysT (act5 d x)
def act7 (d : Int) (x : TS) : TA := ifT (hSteps d) stT (act6 d x)
theorem stepT_le (x : TS) : (stepT x).2.1.size ≤ x.1.size ∧ ((stepT x).2.2 = true → x.2 = true ∧ (stepT x).2.1.size < x.1.size) := by
  unfold stepT
  have a0 := numT_le x
  have a1 := numT_le (numT x).2
  have a2 := numT_le (numT (numT x).2).2
  have a3 := numT_le (numT (numT (numT x).2).2).2
  have a4 := numT_le (numT (numT (numT (numT x).2).2).2).2
  simp only
  generalize numT (numT (numT (numT (numT x).2).2).2).2 = q4 at *
  generalize numT (numT (numT (numT x).2).2).2 = q3 at *
  generalize numT (numT (numT x).2).2 = q2 at *
  generalize numT (numT x).2 = q1 at *
  generalize numT x = q0 at *
  have a5 := textT_le 1024 q4.2
  generalize textT 1024 q4.2 = q5 at *
  have a6 := numT_le q5.2
  generalize numT q5.2 = q6 at *
  have a7 := listT_le q6.1.toNat q6.2
  generalize listT q6.1.toNat q6.2 = q7 at *
  split
  · exact ⟨a0.1, fun h => Bool.noConfusion h⟩
  · refine ⟨by simp only; omega, fun h => ?_⟩
    have h6 := a6.2.1 (a7.2.1 h).1
    have h5 := a5.2.1 h6.1
    have h4 := a4.2.1 h5
    have h3 := a3.2.1 h4.1
    have h2 := a2.2.1 h3.1
    have h1 := a1.2.1 h2.1
    have h0 := a0.2.1 h1.1
    exact ⟨h0.1, by simp only; omega⟩
theorem givesT_le : ∀ (n : Nat) (x : TS), (givesT n x).2.1.size ≤ x.1.size ∧ ((givesT n x).2.2 = true → x.2 = true) := by
  intro n
  induction n with
  | zero => intro x; exact ⟨Nat.le_refl _, id⟩
  | succ n ih =>
    intro x
    rw [givesT]
    by_cases h : x.2 = true
    · rw [if_pos h]
      have a0 := numT_le x
      have a1 := textT_le 16384 (numT x).2
      have a2 := ih (textT 16384 (numT x).2).2
      exact ⟨by simp only; omega, fun _ => h⟩
    · rw [if_neg h]; exact ⟨Nat.le_refl _, id⟩
theorem stepsT_le : ∀ (n : Nat) (x : TS), (stepsT n x).2.1.size ≤ x.1.size ∧ ((stepsT n x).2.2 = true → x.2 = true) := by
  intro n
  induction n with
  | zero => intro x; exact ⟨Nat.le_refl _, id⟩
  | succ n ih =>
    intro x
    rw [stepsT]
    by_cases h : x.2 = true
    · rw [if_pos h]
      have a0 := stepT_le x
      have a2 := ih (stepT x).2
      exact ⟨by simp only; omega, fun _ => h⟩
    · rw [if_neg h]; exact ⟨Nat.le_refl _, id⟩
structure ASt (w0 w : World) (g gh c r : Nat) (d : Int) (a : S37) (v4 v9 : Value) (x : TS) (W : World) : Prop where
  hA : ActV W g a v4 v9
  hT : IsS67 w0 W r x.1 x.2
  hH : HAt W gh d
  hC : ActV W c act0 (.slice none 0 0) (.slice none 0 0)
  hG : k48.R 48 W w.heap.size (fun _ => True) v4 a.f4
  hS : k51.R 51 W w.heap.size (fun _ => True) v9 a.f7
  hB : Below w0.heap.size w0 W
  hK : KeepBut w W r none
  l0 : w0.heap.size ≤ w.heap.size
  lg : w.heap.size ≤ g
  lc : c ≠ g
  lcw : w.heap.size ≤ c
section
variable {w0 w : World} {g gh c r : Nat} {d : Int} {a a' : S37} {v4 v9 u : Value} {x y : TS} {W W1 : World}
theorem ASt.gr (h : ASt w0 w g gh c r d a v4 v9 x W) : g ≠ r := (h.hT.ne_blk h.hA (by decide)).symm
theorem ASt.hr (h : ASt w0 w g gh c r d a v4 v9 x W) : gh ≠ r := (h.hT.ne_blk h.hH (by decide)).symm
theorem ASt.cr (h : ASt w0 w g gh c r d a v4 v9 x W) : c ≠ r := (h.hT.ne_blk h.hC (by decide)).symm
theorem ASt.hg (h : ASt w0 w g gh c r d a v4 v9 x W) : gh ≠ g := blk_ne h.hH h.hA (by decide)
theorem ASt.below (h : ASt w0 w g gh c r d a v4 v9 x W) (hb : Below W.heap.size W W1) : ASt w0 w g gh c r d a v4 v9 x W1 :=
  ⟨h.hA.below hb, h.hT.below hb, blk_of h.hH hb, h.hC.below hb, Kd.R_below h.hG hb, Kd.R_below h.hS hb, h.hB.trans (hb.mono h.hB.size), h.hK.trans (KeepBut.of_below hb r none) (.inl rfl), h.l0, h.lg, h.lc, h.lcw⟩
theorem ASt.call (h : ASt w0 w g gh c r d a v4 v9 x W) (hT : IsS67 w0 W1 r y.1 y.2) (hB : Below w0.heap.size w0 W1) (hk : KeepBut W W1 r none) : ASt w0 w g gh c r d a v4 v9 y W1 :=
  ⟨hk.blk h.hA h.gr (by simp), hT, hk.blk h.hH h.hr (by simp), hk.blk h.hC h.cr (by simp), Kd.R_mono (Kd.R_keep (h.hT.apart h.hG (by decide)) hk (fun _ h => h.2)) (fun _ _ => trivial), Kd.R_mono (Kd.R_keep (h.hT.apart h.hS (by decide)) hk (fun _ h => h.2)) (fun _ _ => trivial),
   hB, h.hK.trans hk (.inl rfl), h.l0, h.lg, h.lc, h.lcw⟩
theorem keep_set {n : Nat} {v : Value} (h : KeepBut w W r none) (hg : w.heap.size ≤ g) : KeepBut w (W.setCell ⟨g, n, none⟩ v) r none :=
  ⟨by simpa [World.setCell] using h.1, fun k hk hne hr => (Below.heap_setCell W ⟨g, n, none⟩ v k (by show k ≠ g; omega)).trans (h.2 k hk hne hr)⟩
theorem ASt.put (h : ASt w0 w g gh c r d a v4 v9 x W) {o : Nat} (ha : (actW a v4 v9).set! o u = actW a' v4 v9) (h4 : a'.f4 = a.f4) (h7 : a'.f7 = a.f7) : ASt w0 w g gh c r d a' v4 v9 x (W.setCell ⟨g, o, none⟩ u) :=
  ⟨by unfold ActV; rw [blk_set h.hA, ha], h.hT.far (p := ⟨g, o, none⟩) (Ne.symm h.gr) _, blk_far h.hH h.hg, blk_far h.hC h.lc, by rw [h4]; exact Kd.R_set h.hG h.hA (by decide) _ _, by rw [h7]; exact Kd.R_set h.hS h.hA (by decide) _ _,
   h.hB.setCell (Nat.le_trans h.l0 h.lg) _, keep_set h.hK h.lg, h.l0, h.lg, h.lc, h.lcw⟩
theorem Kd.R_grownO {α β : Type} {d : Kd α} {d' : Kd β} {e e' base base' : Nat} {v v' : Value} {xs : List α} {ys : List β} {W W1 : World} (hR : d.R e W base (fun _ => True) v xs) (h' : d'.R e' W base' (fun _ => True) v' ys) (hg : W.grownBy W1 v'.ownBlock) (h1 : ∀ q, q ∈ e :: d.E → q ≠ e') : d.R e W1 base (fun _ => True) v xs := by
  obtain ⟨inner, ho⟩ := Kd.R_own h'
  cases hv : v'.ownBlock with
  | none => rw [hv] at hg; exact Kd.R_grown hR hg (fun _ _ => by simp)
  | some k =>
    obtain ⟨cells, hc⟩ := own_typed ho k hv
    rw [hv] at hg
    exact Kd.R_grownT hR hg hc h1
theorem keep_own {α : Type} {d : Kd α} {e : Nat} {v : Value} {xs : List α} (h : KeepBut w W r none) (hR : d.R e W w.heap.size (fun _ => True) v xs) (hg : W.grownBy W1 v.ownBlock) : KeepBut w W1 r none := by
  obtain ⟨inner, ho⟩ := Kd.R_own hR
  exact h.trans (KeepBut.of_grown hg r) (own_base' ho)
theorem ASt.app4 (h : ASt w0 w g gh c r d a v4 v9 x W) {xs' : List S48} (hR : k48.R 48 W1 w.heap.size (fun _ => True) u xs') (hB : Below w0.heap.size w0 W1) (hg : W.grownBy W1 v4.ownBlock) : ASt w0 w g gh c r d { a with f4 := xs' } u v9 x (W1.setCell ⟨g, 4, none⟩ u) := by
  have hA1 : ActV W1 g { a with f4 := xs' } v4 v9 := h.hA.grown hg (Kd.R_ne h.hG h.hA (by decide))
  have hT1 := h.hT.grown hg (h.hT.own_ne h.hG (by decide))
  exact ⟨hA1.set4, hT1.far (p := ⟨g, 4, none⟩) (Ne.symm h.gr) _, blk_far (blk_grown h.hH hg (Kd.R_ne h.hG h.hH (by decide))) h.hg, blk_far (blk_grown h.hC hg (Kd.R_ne h.hG h.hC (by decide))) h.lc,
    Kd.R_set hR hA1 (by decide) _ _, Kd.R_set (Kd.R_grownO h.hS h.hG hg (by decide)) hA1 (by decide) _ _, hB.setCell (Nat.le_trans h.l0 h.lg) _, keep_set (keep_own h.hK h.hG hg) h.lg, h.l0, h.lg, h.lc, h.lcw⟩
theorem ASt.app9 (h : ASt w0 w g gh c r d a v4 v9 x W) {xs' : List S51} (hR : k51.R 51 W1 w.heap.size (fun _ => True) u xs') (hB : Below w0.heap.size w0 W1) (hg : W.grownBy W1 v9.ownBlock) : ASt w0 w g gh c r d { a with f7 := xs' } v4 u x (W1.setCell ⟨g, 9, none⟩ u) := by
  have hA1 : ActV W1 g { a with f7 := xs' } v4 v9 := h.hA.grown hg (Kd.R_ne h.hS h.hA (by decide))
  have hT1 := h.hT.grown hg (h.hT.own_ne h.hS (by decide))
  exact ⟨hA1.set9, hT1.far (p := ⟨g, 9, none⟩) (Ne.symm h.gr) _, blk_far (blk_grown h.hH hg (Kd.R_ne h.hS h.hH (by decide))) h.hg, blk_far (blk_grown h.hC hg (Kd.R_ne h.hS h.hC (by decide))) h.lc,
    Kd.R_set (Kd.R_grownO h.hG h.hS hg (by decide)) hA1 (by decide) _ _, Kd.R_set hR hA1 (by decide) _ _, hB.setCell (Nat.le_trans h.l0 h.lg) _, keep_set (keep_own h.hK h.hS hg) h.lg, h.l0, h.lg, h.lc, h.lcw⟩
theorem ASt.num (h : ASt w0 w g gh c r d a v4 v9 x W) (hs : x.1.size ≤ 1000000) : Calls Try.prog 43 #[.pointer (some ⟨r, 0, none⟩)] W fun e W1 => e = .returned (.int .i64 (numT x).1) ∧ ASt w0 w g gh c r d a v4 v9 (numT x).2 W1 :=
  (chirographref32_taker_num.calls 20 r x.1 x.2 _ _ _ w0 W h.hT h.hB (tnum_f x 20 (Nat.le_refl _) hs)).mono fun _ _ ⟨he, h1, h2, h3⟩ => ⟨he, h.call h1 h2 h3⟩
theorem ASt.seven (h : ASt w0 w g gh c r d a v4 v9 x W) : W.cell? ⟨gh, 0, none⟩ = some (.bool (hOrg d)) ∧ W.cell? ⟨gh, 1, none⟩ = some (.bool (hAud d)) ∧ W.cell? ⟨gh, 2, none⟩ = some (.bool (hN d)) ∧ W.cell? ⟨gh, 3, none⟩ = some (.bool (hGives d)) ∧ W.cell? ⟨gh, 4, none⟩ = some (.bool (hTxn d)) ∧ W.cell? ⟨gh, 5, none⟩ = some (.bool (hYes d)) ∧ W.cell? ⟨gh, 6, none⟩ = some (.bool (hSteps d)) :=
  ⟨(blk_cell h.hH 0).trans rfl, (blk_cell h.hH 1).trans rfl, (blk_cell h.hH 2).trans rfl, (blk_cell h.hH 3).trans rfl, (blk_cell h.hH 4).trans rfl, (blk_cell h.hH 5).trans rfl, (blk_cell h.hH 6).trans rfl⟩
theorem ASt.is (h : ASt w0 w g gh c r d a v4 v9 x W) : W.cell? ⟨r, 1, none⟩ = some (.bool x.2) := (blk_cell h.hT.1 1).trans rfl
theorem ASt.frzT (h : ASt w0 w g gh c r d a v4 v9 x W) (o : Nat) : W.frozen? ⟨r, o, none⟩ = false := by
  have := h.hT.1
  simp [World.frozen?, this]
theorem ASt.setT (h : ASt w0 w g gh c r d a v4 v9 x W) (b : Bool) : ASt w0 w g gh c r d a v4 v9 (x.1, b) (W.setCell ⟨r, 1, none⟩ (.bool b)) :=
  ⟨blk_far h.hA h.gr, h.hT.set_1 b, blk_far h.hH h.hr, blk_far h.hC h.cr, Kd.R_set h.hG h.hT.1 (by decide) _ _, Kd.R_set h.hS h.hT.1 (by decide) _ _, h.hB.setCell h.hT.2 _,
   ⟨by simpa [World.setCell] using h.hK.1, fun k hk hne hr => (Below.heap_setCell W ⟨r, 1, none⟩ _ k hne).trans (h.hK.2 k hk hne hr)⟩, h.l0, h.lg, h.lc, h.lcw⟩
end
end Go.Proofs.Ytppgbahiolhgbaa
end
