/- Contracts and plain laws over the seat, laid together (group 45 of what the claim needs). -/
import Derived.Test.YtppgbahiolhgbaaH44
import Derived.Test.YtppgbahiolhgbaaH42
import Derived.Test.YtppgbahiolhgbaaH7
section
set_option linter.unusedVariables false
set_option linter.unusedSimpArgs false
namespace Go.Proofs.Ytppgbahiolhgbaa
open Go.RowKit Go.Proofs.YtppgbahiolhgbaaW.PrintWords Sp
open PScriptReads
def rdOK (l : Bytes) : Option (S37 × Bytes) := (rdAct l).bind fun q => if mayAct q.1 = true then some q else none
theorem rdOK_lt {l t : Bytes} {a : S37} (h : rdOK l = some (a, t)) : t.length < l.length ∧ Sm a ∧ mayAct a = true ∧ rdAct l = some (a, t) := by
  unfold rdOK at h
  obtain ⟨q, h1, h2⟩ := bind_some_iff h
  by_cases hm : mayAct q.1 = true
  · rw [if_pos hm] at h2
    injection h2 with h2
    subst h2
    exact ⟨(rdAct_small h1).2, (rdAct_small h1).1, hm, h1⟩
  · rw [if_neg hm] at h2; simp at h2
def frontN : Nat → Bytes → List S37 × Bytes
  | 0, l => ([], l)
  | f + 1, l => match rdOK l with
    | some q => (q.1 :: (frontN f q.2).1, (frontN f q.2).2)
    | none => ([], l)
def frontP (l : Bytes) : List S37 × Bytes := frontN l.length l
theorem frontN_fuel : ∀ (f f' : Nat) (l : Bytes), l.length ≤ f → l.length ≤ f' → frontN f l = frontN f' l := by
  intro f
  induction f with
  | zero =>
    intro f' l h h'
    have : l = [] := List.eq_nil_of_length_eq_zero (by omega)
    subst this
    cases f' with
    | zero => rfl
    | succ f' => rfl
  | succ f ih =>
    intro f' l h h'
    cases f' with
    | zero =>
      have : l = [] := List.eq_nil_of_length_eq_zero (by omega)
      subst this
      rfl
    | succ f' =>
      rw [frontN, frontN]
      cases hr : rdOK l with
      | none => rfl
      | some q =>
        have := (rdOK_lt (a := q.1) (t := q.2) hr).1
        simp only
        rw [ih f' q.2 (by omega) (by omega)]
theorem frontP_none {l : Bytes} (h : rdOK l = none) : frontP l = ([], l) := by
  unfold frontP
  cases hl : l.length with
  | zero => rfl
  | succ n => rw [frontN, h]
theorem frontP_some {l t : Bytes} {a : S37} (h : rdOK l = some (a, t)) : frontP l = (a :: (frontP t).1, (frontP t).2) := by
  have hlt := (rdOK_lt h).1
  unfold frontP
  cases hl : l.length with
  | zero => omega
  | succ n =>
    rw [frontN, h]
    simp only
    rw [frontN_fuel n t.length t (by omega) (Nat.le_refl _)]
theorem frontP_le (l : Bytes) : (frontP l).2.length ≤ l.length := by
  have : ∀ (f : Nat) (l : Bytes), (frontN f l).2.length ≤ l.length := by
    intro f
    induction f with
    | zero => intro l; exact Nat.le_refl _
    | succ f ih =>
      intro l
      rw [frontN]
      cases hr : rdOK l with
      | none => exact Nat.le_refl _
      | some q =>
        have := (rdOK_lt (a := q.1) (t := q.2) hr).1
        have := ih q.2
        simp only; omega
  exact this _ l
theorem front_R {α : Type} {d : Kd α} {e : Nat} {w1 wr : World} {base : Nat} {v : Value} {xs : List α} {o : Obj} (h : d.R e w1 wr.heap.size (fun _ => True) v xs) (hb : base ≤ wr.heap.size) : d.R e (w1.alloc o) base (fun b => wr.heap.size ≤ b) v xs :=
  Kd.R_lower (Kd.R_below (Kd.R_mono (Kd.R_bound h) (fun _ hk => hk.2.1)) (below_alloc (Below.refl _ _) o)) hb
theorem size_alloc1 (w : World) (o : Obj) : (w.alloc o).heap.size = w.heap.size + 1 := by simp
def strLen : Value → Nat | .string b => b.size | _ => 0
def FrontPost (w : World) (l : Bytes) (e : Ending) (w' : World) : Prop :=
  ∃ v, e = .returned (.tuple #[v, .int .i64 ((l.length : Int) - ((frontP l).2.length : Int))]) ∧ k37.R 37 w' w.heap.size (fun _ => True) v (frontP l).1 ∧ Below w.heap.size w w'
def FrontRel (w : World) (l0 : Bytes) (s v n : Value) (wr : World) : Prop :=
  ∃ (xs : List S37) (t : Bytes), s = .string (mk t) ∧ n = .int .i64 ((l0.length : Int) - (t.length : Int)) ∧ frontP l0 = (xs ++ (frontP t).1, (frontP t).2) ∧ xs.length + t.length ≤ l0.length ∧ k37.R 37 wr w.heap.size (fun _ => True) v xs ∧ Below w.heap.size w wr
set_option maxRecDepth 100000 in
set_option maxHeartbeats 8000000 in
theorem front15 (h52 : RPart 52 rdSteps) (s : ByteArray) (w : World) (hs : s.size ≤ 1000000) : Calls Try.prog 15 #[.string s] w (FrontPost w (L s)) := by
  have hl0 : (L s).length ≤ 1000000 := by rw [L_len]; exact hs
  obtain ⟨l0, hl⟩ : ∃ l0, l0 = L s := ⟨_, rfl⟩
  rw [← hl] at hl0 ⊢
  have hsl : s = mk l0 := by rw [hl, mk_L]
  subst hsl
  clear hl hs
  go_enter Try.func15, Try.ntmps15
  go_wp2_with (fail)
  go_loopw [0, 2, 3] (FrontRel w l0) (fun s _ _ _ => strLen s)
  case atStart => exact ⟨[], l0, rfl, by rw [Int.sub_self], rfl, by simp, Kd.R_nil _ _ _ _ _, Below.refl _ _⟩
  case round =>
    obtain ⟨xs, t, rfl, rfl, hq, hzt, hO, hB⟩ := hrel
    have e1 : (mk t).size = t.length := size_mk t
    have hz1 : t.length ≤ 1000000 := by omega
    by_cases hne : t = []
    · subst hne
      have HQ := Aid.hide (And.intro hq (And.intro hO hB))
      clear hq hO hB
      have c1 : ((mk []).toList == ([] : List UInt8)) = true := by rw [toL, L_mk]; rfl
      go_wp2_with (fail)
      go_ret2
      rw [frontP_none (by rfl : rdOK [] = none)] at HQ
      refine ⟨_, by rw [(Aid.unhide HQ).1]; rfl, by rw [(Aid.unhide HQ).1]; simp only [List.append_nil]; exact (Aid.unhide HQ).2.1, (Aid.unhide HQ).2.2⟩
    · have hpos : 0 < t.length := by cases t with | nil => exact absurd rfl hne | cons c t => simp
      have c3 : ((mk t).toList == ([] : List UInt8)) = false := by
        rw [toL, L_mk, beq_eq_false_iff_ne]; exact hne
      have c4 : (mk t).toList.isEmpty = false := by
        rw [toL, L_mk]; cases t with | nil => exact absurd rfl hne | cons c t => rfl
      have hC := one33 h52 (mk t) wr (by omega) (by omega)
      rw [L_mk] at hC
      cases hr : rdAct t with
      | none =>
        rw [hr] at hC
        have hno : rdOK t = none := by unfold rdOK; rw [hr]; rfl
        have HQ := Aid.hide (And.intro hC (And.intro hq (And.intro hO (And.intro hB hno))))
        clear hC hq hO hB hno hr hne e1
        go_wp2_with (go_at_call 33; refine (Aid.unhide HQ).1.mono ?_; rintro e2 w1 ⟨rfl, hb1⟩)
        go_ret2
        obtain ⟨_, hq, hO, hB, hno⟩ := Aid.unhide HQ
        have hbb : Below wr.heap.size wr (w1.alloc (.cells (actW act0 (.slice none 0 0) (.slice none 0 0)) 37)) := hb1.alloc hb1.size _
        rw [frontP_none hno] at hq
        refine ⟨_, by rw [hq]; rfl, by rw [hq]; simp only [List.append_nil]; exact Kd.R_below hO hbb, hB.trans (hbb.mono hB.size)⟩
      | some z =>
        obtain ⟨a, t1⟩ := z
        rw [hr] at hC
        obtain ⟨hsm, hlt⟩ := rdAct_small hr
        cases hm : mayAct a with
        | false =>
          have hno : rdOK t = none := by unfold rdOK; rw [hr, Option.bind_some, if_neg (by rw [hm]; simp)]
          have HQ := Aid.hide (And.intro hC (And.intro hq (And.intro hO (And.intro hB hno))))
          clear hC hq hO hB hno hr hne e1 hsm hlt
          go_wp2_with (go_at_call 33; refine (Aid.unhide HQ).1.mono ?_; rintro e2 w1 ⟨v4, v9, rfl, h4, h9, hb1⟩; rw [hm]; obtain ⟨V4, d4, rfl⟩ := Kd.R_slice h4; obtain ⟨V9, d9, rfl⟩ := Kd.R_slice h9)
          go_ret2
          obtain ⟨_, hq, hO, hB, hno⟩ := Aid.unhide HQ
          have hbb : Below wr.heap.size wr (w1.alloc (.cells (actW a (.slice V4 a.f4.length d4) (.slice V9 a.f7.length d9)) 37)) := hb1.alloc hb1.size _
          rw [frontP_none hno] at hq
          refine ⟨_, by rw [hq]; rfl, by rw [hq]; simp only [List.append_nil]; exact Kd.R_below hO hbb, hB.trans (hbb.mono hB.size)⟩
        | true =>
          have hyes : rdOK t = some (a, t1) := by unfold rdOK; rw [hr, Option.bind_some, if_pos hm]
          have e3 : (mk t1).size = t1.length := size_mk t1
          obtain ⟨n0, hn0⟩ : ∃ n, n = l0.length := ⟨_, rfl⟩
          obtain ⟨nt, hnt⟩ : ∃ n, n = t.length := ⟨_, rfl⟩
          obtain ⟨n1, hn1⟩ : ∃ n, n = t1.length := ⟨_, rfl⟩
          have hxl : xs.length ≤ 1000000 := by omega
          have N := Aid.hide (And.intro hn0 (And.intro hnt hn1))
          rw [← hn0] at hl0 hzt
          rw [← hn1] at e3 hlt
          rw [← hnt] at e1 hlt hzt hz1 hpos
          rw [← hn0, ← hnt]
          have HQ := Aid.hide (And.intro hC (And.intro hq (And.intro hO (And.intro hB hyes))))
          have hsz := hB.size
          clear hC hq hO hB hyes hr hne hsm hn0 hnt hn1
          go_wp2_with (first
            | (go_at_call 33; refine (Aid.unhide HQ).1.mono ?_; rintro e2 w1 ⟨v4, v9, rfl, h4, h9, hb1⟩; rw [hm]; obtain ⟨V4, d4, rfl⟩ := Kd.R_slice h4; obtain ⟨V9, d9, rfl⟩ := Kd.R_slice h9; have hbb : Below wr.heap.size wr (w1.alloc (.cells (actW a (.slice V4 a.f4.length d4) (.slice V9 a.f7.length d9)) 37)) := hb1.alloc hb1.size _; have G := Aid.hide (And.intro h4 (And.intro h9 hbb)); clear h4 h9 hbb)
            | (at_builtin; refine Kd.R_append k37 (w0 := w) w.heap.size rfl (.tmp 24) (.tmp 26) 22 37 (.agg #[.int .u8 0, .int .i64 0, .int .i64 0, .int .i64 0, .slice none 0 0, .int .i64 0, .int .i64 0, .int .i64 0, .bool false, .slice none 0 0]) 112 rfl Try.underlying22 inf37 rfl (by decide) (by omega) u2 xs a [.int .u8 a.f0, .int .i64 a.f1, .int .i64 a.f2, .int .i64 a.f3, .slice V4 a.f4.length d4, .int .i64 a.f5.f0, .int .i64 a.f5.f1, .int .i64 a.f5.f2, .bool a.f6, .slice V9 a.f7.length d9] (fun _ => True) (fun b => wr.heap.size ≤ b) rfl (by first | rfl | (rw [size_alloc1]; rfl)) (k37_mkM _ _ _ a (front_R (Aid.unhide G).1 (Aid.unhide HQ).2.2.2.1.size) (front_R (Aid.unhide G).2.1 (Aid.unhide HQ).2.2.2.1.size)) ?c1 ?c2 (Kd.R_below (Aid.unhide HQ).2.2.1 (Aid.unhide G).2.2) ((Aid.unhide HQ).2.2.2.1.trans ((Aid.unhide G).2.2.mono (Aid.unhide HQ).2.2.2.1.size)) ?c4 ?c3 ?_; (case c1 => intro b hb; refine ⟨trivial, fun e => ?_⟩; obtain ⟨inner, ho⟩ := Kd.R_own (Aid.unhide HQ).2.2.1; have h1 := own_lt ho b e.symm; (try simp at hb); (try simp at h1); omega); (case c2 => intro b hb; trivial); (case c4 => have := (Aid.unhide G).2.2.size; simp at this ⊢; omega); (case c3 => omega); intro v1 w2 hR1 hB1 hg1 hat1))
          go_roundw
          case rel =>
            refine ⟨xs ++ [a], t1, rfl, ?_, ?_, ?_, hR1, hB1⟩
            · rw [← (Aid.unhide N).1, ← (Aid.unhide N).2.2]; first | rfl | (congr 1; omega)
            · rw [(Aid.unhide HQ).2.1, frontP_some (Aid.unhide HQ).2.2.2.2]; simp
            · rw [List.length_append, ← (Aid.unhide N).1, ← (Aid.unhide N).2.2]; simp only [List.length_cons, List.length_nil]; omega
          case measure => unfold strLen; simp only; rw [e1, e3]; omega
end Go.Proofs.Ytppgbahiolhgbaa
end
section
set_option linter.unusedVariables false
set_option linter.unusedSimpArgs false
namespace Go.Proofs.Ytppgbahiolhgbaa
open Go.RowKit Go.Proofs.YtppgbahiolhgbaaW.PrintWords Sp
open PScriptReads
theorem numP_of {m v : Nat} (t : Bytes) (hv : v ≤ m) (hm : m ≤ 2147483647) : numP m (numB v ++ t) = some (v, t) := by
  unfold numP
  rw [rdNum_numB v (by omega) t]
  simp only
  rw [if_pos ⟨trivial, hv⟩, List.drop_left]
theorem textP_of {m : Nat} {s : Bytes} (t : Bytes) (hs : s.length ≤ m) (hm : m ≤ 1000000) : textP m (textB s ++ t) = some (s, t) := by
  unfold textP
  rw [rdText_textB s m hs (by omega) t]
  simp only
  rw [if_pos trivial, List.drop_left]
theorem numsB_cons (x : Int) (l : List Int) : numsB (x :: l) = numB x.toNat ++ numsB l := by simp [numsB]
theorem rdNums_of : ∀ (xs : List Int) (t : Bytes), (∀ x ∈ xs, 0 ≤ x ∧ x ≤ 2147483647) → rdNums xs.length (numsB xs ++ t) = some (xs, t) := by
  intro xs
  induction xs with
  | nil => intro t _; rfl
  | cons x xs ih =>
    intro t h
    have hx := h x (List.mem_cons_self ..)
    rw [numsB_cons, List.append_assoc, List.length_cons, rdNums, numP_of _ (by omega) (by omega), Option.bind_some, ih t (fun y hy => h y (List.mem_cons_of_mem _ hy))]
    simp only [Option.map_some, Int.toNat_of_nonneg hx.1]
theorem rdStep_of {x : S51} (h : (1 ≤ x.f0 ∧ x.f0 ≤ 9) ∧ (0 ≤ x.f1 ∧ x.f1 ≤ 2147483647) ∧ (0 ≤ x.f2 ∧ x.f2 ≤ 2147483647) ∧ (0 ≤ x.f3 ∧ x.f3 ≤ 2147483647) ∧ (0 ≤ x.f4 ∧ x.f4 ≤ 2147483647) ∧ (∀ n ∈ x.f6, 0 ≤ n ∧ n ≤ 2147483647) ∧ x.f5.size ≤ 1024 ∧ x.f6.length ≤ 32) (t : Bytes) : rdStep (stepS x ++ t) = some (x, t) := by
  obtain ⟨h0, h1, h2, h3, h4, h6, h5, h7⟩ := h
  rw [stepS_parts x (by omega)]
  unfold rdStep
  have e4 : rdNums 4 (numsB [x.f1, x.f2, x.f3, x.f4] ++ (textB (L x.f5) ++ (numB x.f6.length ++ (numsB x.f6 ++ t)))) = some ([x.f1, x.f2, x.f3, x.f4], textB (L x.f5) ++ (numB x.f6.length ++ (numsB x.f6 ++ t))) :=
    rdNums_of [x.f1, x.f2, x.f3, x.f4] _ (by intro y hy; simp at hy; omega)
  rw [List.append_assoc, numP_of _ (by omega) (by omega), Option.bind_some]
  simp only [List.append_assoc]
  rw [e4, Option.bind_some]
  simp only
  rw [textP_of _ (by rw [L_len]; exact h5) (by omega), Option.bind_some]
  simp only
  rw [numP_of _ (by omega) (by omega), Option.bind_some]
  simp only
  rw [rdNums_of x.f6 t h6]
  simp only [Option.map_some, n4, mk_L, Int.toNat_of_nonneg (show 0 ≤ x.f0 by omega)]
  rfl
theorem rdSl_of : ∀ (xs : List S51) (t : Bytes), (∀ x ∈ xs, (1 ≤ x.f0 ∧ x.f0 ≤ 9) ∧ (0 ≤ x.f1 ∧ x.f1 ≤ 2147483647) ∧ (0 ≤ x.f2 ∧ x.f2 ≤ 2147483647) ∧ (0 ≤ x.f3 ∧ x.f3 ≤ 2147483647) ∧ (0 ≤ x.f4 ∧ x.f4 ≤ 2147483647) ∧ (∀ n ∈ x.f6, 0 ≤ n ∧ n ≤ 2147483647) ∧ x.f5.size ≤ 1024 ∧ x.f6.length ≤ 32) → rdSl xs.length (xs.flatMap stepS ++ t) = some (xs, t) := by
  intro xs
  induction xs with
  | nil => intro t _; rfl
  | cons x xs ih =>
    intro t h
    rw [List.flatMap_cons, List.append_assoc, List.length_cons, rdSl, rdStep_of (h x (List.mem_cons_self ..)), Option.bind_some, ih t (fun y hy => h y (List.mem_cons_of_mem _ hy))]
    rfl
theorem rdGl_of : ∀ (xs : List S48) (t : Bytes), (∀ g ∈ xs, 0 ≤ g.f0 ∧ g.f0 ≤ 7 ∧ g.f1.size ≤ 16384) → rdGl xs.length (xs.flatMap giveS ++ t) = some (xs, t) := by
  intro xs
  induction xs with
  | nil => intro t _; rfl
  | cons x xs ih =>
    intro t h
    have hx := h x (List.mem_cons_self ..)
    rw [List.flatMap_cons, List.append_assoc, List.length_cons, rdGl]
    unfold giveS
    rw [numsB_one, List.append_assoc, numP_of _ (by omega) (by omega), Option.bind_some]
    simp only
    rw [textP_of _ (by rw [L_len]; exact hx.2.2) (by omega), Option.bind_some]
    simp only
    have := ih t (fun y hy => h y (List.mem_cons_of_mem _ hy))
    unfold giveS at this
    rw [this]
    simp only [Option.map_some, mk_L, Int.toNat_of_nonneg hx.1]
def setF (F : Nat) (a b : S37) : S37 :=
  if F = 46 then { b with f1 := a.f1 } else if F = 47 then { b with f2 := a.f2 } else if F = 51 then { b with f3 := a.f3 } else if F = 48 then { b with f4 := a.f4 } else if F = 49 then { b with f5 := a.f5 }
  else if F = 50 then { b with f6 := a.f6 } else { b with f7 := a.f7 }
def seven (F : Nat) : Prop := F = 46 ∨ F = 47 ∨ F = 48 ∨ F = 49 ∨ F = 50 ∨ F = 51 ∨ F = 52
theorem rdF_of {a : S37} (hm : mayAct a = true) {F : Nat} (hF : seven F) (b : S37) (t : Bytes) : rdF F b (partB F a ++ t) = some (setF F a b, t) := by
  obtain ⟨hd, hf, hg, hst⟩ := may_facts hm
  have one : ∀ (m : Nat) (put : S37 → Int → S37) (x : Int), m ≤ 2147483647 → 0 ≤ x → x ≤ m → rdOne m put b (numsB [x] ++ t) = some (put b x, t) := by
    intro m put x h1 h2 h3
    unfold rdOne
    rw [numsB_one, numP_of _ (by omega) h1]
    simp only [Option.map_some, Int.toNat_of_nonneg h2]
  rcases hF with rfl | rfl | rfl | rfl | rfl | rfl | rfl
  · exact one 7 (fun a v => { a with f1 := v }) a.f1 (by omega) (by omega) (by omega)
  · exact one 7 (fun a v => { a with f2 := v }) a.f2 (by omega) (by omega) (by omega)
  · show rdGives b (numsB [(a.f4.length : Int)] ++ a.f4.flatMap giveS ++ t) = some ({ b with f4 := a.f4 }, t)
    unfold rdGives
    rw [numsB_one, Int.toNat_natCast, List.append_assoc, numP_of _ (by omega) (by omega), Option.bind_some]
    simp only
    rw [rdGl_of a.f4 t hg]
    rfl
  · show rdTxn b (numsB [a.f5.f0, a.f5.f1, a.f5.f2] ++ t) = some ({ b with f5 := a.f5 }, t)
    unfold rdTxn
    rw [numsB_three, List.append_assoc, numP_of _ (by omega) (by omega), Option.bind_some]
    simp only
    rw [List.append_assoc, numP_of _ (by omega) (by omega), Option.bind_some]
    simp only
    rw [numP_of _ (by omega) (by omega), Option.bind_some]
    simp only [Int.toNat_of_nonneg (show 0 ≤ a.f5.f0 by omega), Int.toNat_of_nonneg (show 0 ≤ a.f5.f1 by omega), Int.toNat_of_nonneg (show 0 ≤ a.f5.f2 by omega)]
  · show rdYes b (numsB [if a.f6 = true then 1 else 0] ++ t) = some ({ b with f6 := a.f6 }, t)
    unfold rdYes
    rw [numsB_one, numP_of _ (by split <;> decide) (by omega)]
    cases a.f6 <;> rfl
  · exact one 2147483647 (fun a v => { a with f3 := v }) a.f3 (by omega) (by omega) (by omega)
  · show rdSteps b (numsB [(a.f7.length : Int)] ++ a.f7.flatMap stepS ++ t) = some ({ b with f7 := a.f7 }, t)
    unfold rdSteps
    rw [numsB_one, Int.toNat_natCast, List.append_assoc, numP_of _ (by omega) (by omega), Option.bind_some]
    simp only
    rw [rdSl_of a.f7 t hst]
    rfl
theorem rdParts_of {a : S37} (hm : mayAct a = true) : ∀ (Fs : List Nat), (∀ F ∈ Fs, seven F) → ∀ (b : S37) (t : Bytes), rdParts Fs b (Fs.flatMap (fun F => partB F a) ++ t) = some (Fs.foldl (fun b F => setF F a b) b, t) := by
  intro Fs
  induction Fs with
  | nil => intro _ b t; rfl
  | cons F Fs ih =>
    intro hs b t
    rw [List.flatMap_cons, List.append_assoc, rdParts, rdF_of hm (hs F (List.mem_cons_self ..)), Option.bind_some]
    simp only
    rw [ih (fun G hG => hs G (List.mem_cons_of_mem _ hG))]
    rfl
theorem parts_all {a : S37} (hm : mayAct a = true) : (partsL a.f0).foldl (fun b F => setF F a b) ⟨a.f0, 0, 0, 0, [], ⟨0, 0, 0⟩, false, []⟩ = a := by
  obtain ⟨hd, _⟩ := may_facts hm
  have hb : bareA a = true := by
    unfold mayAct mayHead at hm
    simp only [Bool.and_eq_true] at hm
    exact hm.1.1.1.1.1.1.1.1.2
  unfold bareA bareB at hb
  simp only [Bool.and_eq_true, Bool.or_eq_true, decide_eq_true_eq, Bool.not_eq_true', List.length_eq_zero_iff] at hb
  have hc : a.f0 = 1 ∨ a.f0 = 2 ∨ a.f0 = 3 ∨ a.f0 = 4 ∨ a.f0 = 5 ∨ a.f0 = 6 ∨ a.f0 = 7 ∨ a.f0 = 8 ∨ a.f0 = 9 ∨ a.f0 = 10 := by omega
  obtain ⟨d, o, au, n, gs, ⟨t1, t2, t3⟩, y, st⟩ := a
  simp only at hb hc ⊢
  rcases hc with rfl | rfl | rfl | rfl | rfl | rfl | rfl | rfl | rfl | rfl <;> simp at hb <;> simp [partsL, setF, hb]
theorem rdAct_of {a : S37} (hm : mayAct a = true) (t : Bytes) : rdAct (oneB a ++ t) = some (a, t) := by
  obtain ⟨hd, _⟩ := may_facts hm
  rw [one_parts hm, List.append_assoc]
  have e0 : (UInt8.ofNat a.f0.toNat).toNat = a.f0.toNat := by
    rw [UInt8.toNat_ofNat']
    omega
  show rdParts (partsL ((UInt8.ofNat a.f0.toNat).toNat : Int)) ⟨((UInt8.ofNat a.f0.toNat).toNat : Int), 0, 0, 0, [], ⟨0, 0, 0⟩, false, []⟩ ((partsL a.f0).flatMap (fun F => partB F a) ++ t) = _
  rw [e0, Int.toNat_of_nonneg (by omega), rdParts_of hm _ (fun F hF => partsL_mem hF), parts_all hm]
theorem rdOK_of {a : S37} (hm : mayAct a = true) (t : Bytes) : rdOK (oneB a ++ t) = some (a, t) := by
  unfold rdOK
  rw [rdAct_of hm, Option.bind_some, if_pos hm]
theorem frontP_flat : ∀ (xs : List S37) (t : Bytes), xs.all mayAct = true → frontP (xs.flatMap oneB ++ t) = (xs ++ (frontP t).1, (frontP t).2) := by
  intro xs
  induction xs with
  | nil => intro t _; rfl
  | cons x xs ih =>
    intro t h
    rw [List.all_cons, Bool.and_eq_true] at h
    rw [List.flatMap_cons, List.append_assoc, frontP_some (rdOK_of h.1 _), ih t h.2]
    rfl
theorem frontP_empty : frontP [] = ([], []) := rfl
end Go.Proofs.Ytppgbahiolhgbaa
end
section
set_option linter.unusedVariables false
set_option linter.unusedSimpArgs false
namespace Go.Proofs.Ytppgbahiolhgbaa
open Go.RowKit Go.Proofs.YtppgbahiolhgbaaW.PrintWords Sp
open PScriptReads
theorem frontF (s : ByteArray) (w : World) (hs : s.size ≤ 1000000) : Calls Try.prog 15 #[.string s] w (FrontPost w (L s)) := front15 rpart52 s w hs
def decP (l : Bytes) : List S37 × Int := if 65536 < l.length then ([], 5) else if (frontP l).2.length ≠ 0 then ([], 7) else ((frontP l).1, 0)
def DecPost (w : World) (l : Bytes) (e : Ending) (w' : World) : Prop :=
  ∃ v, e = .returned (.tuple #[v, .int .i64 (decP l).2]) ∧ k37.R 37 w' w.heap.size (fun _ => True) v (decP l).1 ∧ Below w.heap.size w w'
set_option maxRecDepth 100000 in
set_option maxHeartbeats 8000000 in
theorem decode17 (s : ByteArray) (w : World) (hs : s.size ≤ 9223372036854775807) : Calls Try.prog 17 #[.string s] w (DecPost w (L s)) := by
  obtain ⟨l, hl⟩ : ∃ l, l = L s := ⟨_, rfl⟩
  rw [← hl]
  have hz : s.size = l.length := by rw [hl, L_len]
  by_cases hbig : 65536 < l.length
  · have hp : decP l = ([], 5) := by unfold decP; rw [if_pos hbig]
    have HP := Aid.hide hp
    clear hp
    clear hl
    go_enter Try.func17, Try.ntmps17
    go_wp2
    go_ret2
    exact ⟨_, by rw [Aid.unhide HP]; rfl, by rw [Aid.unhide HP]; exact Kd.R_nil _ _ _ _ _, by first | exact Below.refl _ _ | (repeat first | exact Below.refl _ _ | apply below_drew | apply below_alloc)⟩
  · have hF := fun W => frontF s W (by omega)
    rw [← hl] at hF
    obtain ⟨m, hm⟩ : ∃ m, m = (frontP l).2.length := ⟨_, rfl⟩
    have hle := frontP_le l
    rw [← hm] at hle
    by_cases hr : m = 0
    · have hp : decP l = ((frontP l).1, 0) := by unfold decP; rw [if_neg hbig, if_neg (by omega)]
      have HP := Aid.hide (And.intro hp (And.intro hm hF))
      clear hp hm hF hl
      subst hr
      go_enter Try.func17, Try.ntmps17
      go_wp2_with (go_at_call 15; refine ((Aid.unhide HP).2.2 _).mono ?_; rintro e1 w1 ⟨v, rfl, hR, hB⟩; rw [← (Aid.unhide HP).2.1]; have HR := Aid.hide (And.intro hR hB); clear hR hB)
      go_ret2
      obtain ⟨hp, hm, hF⟩ := Aid.unhide HP
      exact ⟨_, by rw [hp]; rfl, by rw [hp]; exact (Aid.unhide HR).1, (Aid.unhide HR).2⟩
    · have hp : decP l = ([], 7) := by unfold decP; rw [if_neg hbig, if_pos (by omega)]
      have HP := Aid.hide (And.intro hp (And.intro hm hF))
      clear hp hm hF hl
      go_enter Try.func17, Try.ntmps17
      go_wp2_with (go_at_call 15; refine ((Aid.unhide HP).2.2 _).mono ?_; rintro e1 w1 ⟨v, rfl, hR, hB⟩; rw [← (Aid.unhide HP).2.1]; have HR := Aid.hide (And.intro hR hB); clear hR hB)
      go_ret2
      obtain ⟨hp, hm, hF⟩ := Aid.unhide HP
      exact ⟨_, by rw [hp]; rfl, by rw [hp]; exact Kd.R_nil _ _ _ _ _, (Aid.unhide HR).2⟩
end Go.Proofs.Ytppgbahiolhgbaa
end
section
set_option linter.unusedVariables false
set_option linter.unusedSimpArgs false
namespace Go.Proofs.Ytppgbahiolhgbaa
open Go.RowKit Go.Proofs.YtppgbahiolhgbaaW.PrintWords Sp
open PScriptReads
theorem wnat (j : Nat) (h : j ≤ 1000000) : wrap64 ((j : Int) + 1) = ((j + 1 : Nat) : Int) := by rw [w64 (by omega) (by omega)]; omega
theorem ints_refl (l : List Int) (hl : l.length ≤ 100000) : ∀ (n j : Nat), j + n = l.length → ∃ K, ∀ k, K ≤ k → chirographref01_SameInts.l0 k l l (j : Int) = some true := by
  intro n
  induction n with
  | zero =>
    intro j hj
    refine ⟨1, fun k hk => ?_⟩
    obtain ⟨k, rfl⟩ : ∃ k', k = k' + 1 := ⟨k - 1, by omega⟩
    rw [chirographref01_SameInts.l0, if_neg (by omega)]
  | succ n ih =>
    intro j hj
    obtain ⟨K, hK⟩ := ih (j + 1) (by omega)
    refine ⟨K + 1, fun k hk => ?_⟩
    obtain ⟨k, rfl⟩ : ∃ k', k = k' + 1 := ⟨k - 1, by omega⟩
    rw [chirographref01_SameInts.l0, if_pos (by omega), if_pos (by omega), if_pos (by omega), if_pos rfl, wnat j (by omega)]
    exact hK k (by omega)
theorem step_refl (x : S51) (h6 : x.f6.length ≤ 100000) : ∃ K, ∀ k, K ≤ k → chirographref32_SameStep.f k x.f0 x.f1 x.f2 x.f3 x.f4 x.f5 x.f6 x.f0 x.f1 x.f2 x.f3 x.f4 x.f5 x.f6 = some true := by
  obtain ⟨K, hK⟩ := ints_refl x.f6 h6 x.f6.length 0 (by omega)
  refine ⟨K, fun k hk => ?_⟩
  unfold chirographref32_SameStep.f chirographref01_SameInts.f
  rw [if_pos rfl, if_pos rfl, if_pos rfl, if_pos rfl, if_pos rfl, if_pos rfl, if_pos rfl]
  have := hK k hk
  simp only [Int.ofNat_zero, Int.natCast_zero] at this
  rw [this]
  rfl
def sa1 (k : Nat) (j : Int) (a : S37) := chirographref32_SameAct.l1 k j a.f0 a.f1 a.f2 a.f3 a.f4 a.f5.f0 a.f5.f1 a.f5.f2 a.f6 a.f7 a.f0 a.f1 a.f2 a.f3 a.f4 a.f5.f0 a.f5.f1 a.f5.f2 a.f6 a.f7
def sa0 (k : Nat) (j : Int) (a : S37) := chirographref32_SameAct.l0 k j a.f0 a.f1 a.f2 a.f3 a.f4 a.f5.f0 a.f5.f1 a.f5.f2 a.f6 a.f7 a.f0 a.f1 a.f2 a.f3 a.f4 a.f5.f0 a.f5.f1 a.f5.f2 a.f6 a.f7
def saf (k : Nat) (a : S37) := chirographref32_SameAct.f k a.f0 a.f1 a.f2 a.f3 a.f4 a.f5.f0 a.f5.f1 a.f5.f2 a.f6 a.f7 a.f0 a.f1 a.f2 a.f3 a.f4 a.f5.f0 a.f5.f1 a.f5.f2 a.f6 a.f7
theorem rd51_mem (l : List S51) (j : Nat) (h : j < l.length) : rd_T51 l (j : Int) ∈ l := by
  unfold rd_T51
  rw [Int.toNat_natCast, List.getD_eq_getElem?_getD, List.getElem?_eq_getElem h]
  exact List.getElem_mem h
theorem rd37_at (l : List S37) (j : Nat) (h : j < l.length) : rd_T37 l (j : Int) = l[j] := by
  unfold rd_T37
  rw [Int.toNat_natCast, List.getD_eq_getElem?_getD, List.getElem?_eq_getElem h]
  rfl
theorem sa1_refl (a : S37) (h7 : a.f7.length ≤ 100000) (h6 : ∀ y ∈ a.f7, y.f6.length ≤ 100000) : ∀ (n j : Nat), j + n = a.f7.length → ∃ K, ∀ k, K ≤ k → sa1 k (j : Int) a = some true := by
  intro n
  induction n with
  | zero =>
    intro j hj
    refine ⟨1, fun k hk => ?_⟩
    obtain ⟨k, rfl⟩ : ∃ k', k = k' + 1 := ⟨k - 1, by omega⟩
    unfold sa1
    rw [chirographref32_SameAct.l1, if_neg (by omega)]
  | succ n ih =>
    intro j hj
    obtain ⟨K, hK⟩ := ih (j + 1) (by omega)
    obtain ⟨K2, hK2⟩ := step_refl (rd_T51 a.f7 (j : Int)) (h6 _ (rd51_mem _ _ (by omega)))
    refine ⟨K + K2 + 1, fun k hk => ?_⟩
    obtain ⟨k, rfl⟩ : ∃ k', k = k' + 1 := ⟨k - 1, by omega⟩
    unfold sa1
    rw [chirographref32_SameAct.l1, if_pos (by omega), if_pos (by omega), if_pos (by omega), hK2 k (by omega), Option.bind_some, if_pos rfl, wnat j (by omega)]
    exact hK k (by omega)
theorem sa0_refl (a : S37) (h4 : a.f4.length ≤ 100000) (h7 : a.f7.length ≤ 100000) (h6 : ∀ y ∈ a.f7, y.f6.length ≤ 100000) : ∀ (n j : Nat), j + n = a.f4.length → ∃ K, ∀ k, K ≤ k → sa0 k (j : Int) a = some true := by
  intro n
  induction n with
  | zero =>
    intro j hj
    obtain ⟨K, hK⟩ := sa1_refl a h7 h6 a.f7.length 0 (by omega)
    refine ⟨K + 1, fun k hk => ?_⟩
    obtain ⟨k, rfl⟩ : ∃ k', k = k' + 1 := ⟨k - 1, by omega⟩
    unfold sa0
    rw [chirographref32_SameAct.l0, if_neg (by omega)]
    exact hK k (by omega)
  | succ n ih =>
    intro j hj
    obtain ⟨K, hK⟩ := ih (j + 1) (by omega)
    refine ⟨K + 1, fun k hk => ?_⟩
    obtain ⟨k, rfl⟩ : ∃ k', k = k' + 1 := ⟨k - 1, by omega⟩
    unfold sa0
    rw [chirographref32_SameAct.l0, if_pos (by omega), if_pos (by omega), if_pos (by omega), if_neg (by simp), wnat j (by omega)]
    exact hK k (by omega)
theorem saf_refl (a : S37) (h4 : a.f4.length ≤ 100000) (h7 : a.f7.length ≤ 100000) (h6 : ∀ y ∈ a.f7, y.f6.length ≤ 100000) : ∃ K, ∀ k, K ≤ k → saf k a = some true := by
  obtain ⟨K, hK⟩ := sa0_refl a h4 h7 h6 a.f4.length 0 (by omega)
  refine ⟨K + 1, fun k hk => ?_⟩
  obtain ⟨k, rfl⟩ : ∃ k', k = k' + 1 := ⟨k - 1, by omega⟩
  unfold saf chirographref32_SameAct.f
  rw [if_pos rfl, if_pos rfl, if_pos rfl, if_pos rfl, if_neg (by simp), if_neg (by simp), if_pos rfl, show (((a.f7.length : Int)) != (a.f7.length : Int)) = false by simp, chirographref32_SameAct.j0, if_neg (by simp)]
  exact hK k (by omega)
theorem same_refl_l (l : List S37) (hl : l.length ≤ 100000) (h : ∀ x ∈ l, x.f4.length ≤ 1000 ∧ x.f7.length ≤ 1000 ∧ ∀ y ∈ x.f7, y.f6.length ≤ 1000) : ∀ (n j : Nat), j + n = l.length → ∃ K, ∀ k, K ≤ k → chirographref32_Same.l0 k l l (j : Int) = some true := by
  intro n
  induction n with
  | zero =>
    intro j hj
    refine ⟨1, fun k hk => ?_⟩
    obtain ⟨k, rfl⟩ : ∃ k', k = k' + 1 := ⟨k - 1, by omega⟩
    rw [chirographref32_Same.l0, if_neg (by omega)]
  | succ n ih =>
    intro j hj
    obtain ⟨K, hK⟩ := ih (j + 1) (by omega)
    have hj2 : j < l.length := by omega
    have hx := h l[j] (List.getElem_mem hj2)
    obtain ⟨K2, hK2⟩ := saf_refl (rd_T37 l (j : Int)) (by rw [rd37_at l j hj2]; omega) (by rw [rd37_at l j hj2]; omega) (by rw [rd37_at l j hj2]; intro y hy; have := hx.2.2 y hy; omega)
    refine ⟨K + K2 + 1, fun k hk => ?_⟩
    obtain ⟨k, rfl⟩ : ∃ k', k = k' + 1 := ⟨k - 1, by omega⟩
    have e := hK2 k (by omega)
    unfold saf at e
    rw [chirographref32_Same.l0, if_pos (by omega), if_pos (by omega), if_pos (by omega), e, Option.bind_some, if_pos rfl, wnat j (by omega)]
    exact hK k (by omega)
theorem same_refl (l : List S37) (hl : l.length ≤ 100000) (h : ∀ x ∈ l, x.f4.length ≤ 1000 ∧ x.f7.length ≤ 1000 ∧ ∀ y ∈ x.f7, y.f6.length ≤ 1000) : ∃ k, chirographref32_Same.f k l l = some true := by
  obtain ⟨K, hK⟩ := same_refl_l l hl h l.length 0 (by omega)
  refine ⟨K, ?_⟩
  unfold chirographref32_Same.f
  rw [if_pos rfl]
  exact hK K (Nat.le_refl _)
def gOK (x : S37) (i : Nat) : Prop := ∀ j : Nat, i ≤ j → j < x.f4.length → (rd_T48 x.f4 (j : Int)).f1.size ≤ 8192
def sOK (x : S37) (i : Nat) : Prop := ∀ j : Nat, i ≤ j → j < x.f7.length → (rd_T51 x.f7 (j : Int)).f5.size ≤ 4096 ∧ (rd_T51 x.f7 (j : Int)).f6.length ≤ 100
def aOK (x : S37) : Prop := x.f4.length ≤ 20 ∧ x.f7.length ≤ 100 ∧ gOK x 0 ∧ sOK x 0
theorem long_l2 (l : List S37) (hl : l.length ≤ 60) (i : Nat) (hi : i < l.length) (h7 : (rd_T37 l (i : Int)).f7.length ≤ 100) (Q : Prop)
    (cont : ∀ x3, ∃ k r, chirographlaw32_Long.l0 k l x3 ((i + 1 : Nat) : Int) = some r ∧ (r = false → Q)) :
    ∀ (n j : Nat) (x3 : Int), j + n = (rd_T37 l (i : Int)).f7.length → ∃ k r, chirographlaw32_Long.l2 k l x3 (i : Int) (j : Int) = some r ∧ (r = false → Q ∧ sOK (rd_T37 l (i : Int)) j) := by
  intro n
  induction n with
  | zero =>
    intro j x3 hj
    obtain ⟨k, r, hk, hr⟩ := cont x3
    refine ⟨k + 1, r, ?_, fun h => ⟨hr h, fun q h1 h2 => by omega⟩⟩
    rw [chirographlaw32_Long.l2, if_pos (by omega), if_pos (by omega), if_neg (by omega), wnat i (by omega)]
    exact hk
  | succ n ih =>
    intro j x3 hj
    by_cases c1 : ((rd_T51 (rd_T37 l (i : Int)).f7 (j : Int)).f5.size : Int) > 4096
    · refine ⟨1, true, ?_, fun h => by simp at h⟩
      rw [chirographlaw32_Long.l2, if_pos (by omega), if_pos (by omega), if_pos (by omega), if_pos (by omega), if_pos c1]
    · by_cases c2 : ((rd_T51 (rd_T37 l (i : Int)).f7 (j : Int)).f6.length : Int) > 100
      · refine ⟨1, true, ?_, fun h => by simp at h⟩
        rw [chirographlaw32_Long.l2, if_pos (by omega), if_pos (by omega), if_pos (by omega), if_pos (by omega), if_neg c1, if_pos c2]
      · obtain ⟨k, r, hk, hr⟩ := ih (j + 1) (wrap64 (x3 + ((rd_T51 (rd_T37 l (i : Int)).f7 (j : Int)).f5.size : Int))) (by omega)
        refine ⟨k + 1, r, ?_, fun h => ⟨(hr h).1, fun q h1 h2 => ?_⟩⟩
        · rw [chirographlaw32_Long.l2, if_pos (by omega), if_pos (by omega), if_pos (by omega), if_pos (by omega), if_neg c1, if_neg c2, wnat j (by omega)]
          exact hk
        · by_cases e : q = j
          · subst e; omega
          · exact (hr h).2 q (by omega) h2
theorem long_l1 (l : List S37) (hl : l.length ≤ 60) (i : Nat) (hi : i < l.length) (h4 : (rd_T37 l (i : Int)).f4.length ≤ 20) (Q : Prop)
    (cont : ∀ x3, ∃ k r, chirographlaw32_Long.l2 k l x3 (i : Int) ((0 : Nat) : Int) = some r ∧ (r = false → Q)) :
    ∀ (n j : Nat) (x3 : Int), j + n = (rd_T37 l (i : Int)).f4.length → ∃ k r, chirographlaw32_Long.l1 k l x3 (i : Int) (j : Int) = some r ∧ (r = false → Q ∧ gOK (rd_T37 l (i : Int)) j) := by
  intro n
  induction n with
  | zero =>
    intro j x3 hj
    obtain ⟨k, r, hk, hr⟩ := cont x3
    refine ⟨k + 1, r, ?_, fun h => ⟨hr h, fun q h1 h2 => by omega⟩⟩
    rw [chirographlaw32_Long.l1, if_pos (by omega), if_pos (by omega), if_neg (by omega)]
    exact hk
  | succ n ih =>
    intro j x3 hj
    by_cases c1 : ((rd_T48 (rd_T37 l (i : Int)).f4 (j : Int)).f1.size : Int) > 8192
    · refine ⟨1, true, ?_, fun h => by simp at h⟩
      rw [chirographlaw32_Long.l1, if_pos (by omega), if_pos (by omega), if_pos (by omega), if_pos (by omega), if_pos c1]
    · obtain ⟨k, r, hk, hr⟩ := ih (j + 1) (wrap64 (x3 + ((rd_T48 (rd_T37 l (i : Int)).f4 (j : Int)).f1.size : Int))) (by omega)
      refine ⟨k + 1, r, ?_, fun h => ⟨(hr h).1, fun q h1 h2 => ?_⟩⟩
      · rw [chirographlaw32_Long.l1, if_pos (by omega), if_pos (by omega), if_pos (by omega), if_pos (by omega), if_neg c1, wnat j (by omega)]
        exact hk
      · by_cases e : q = j
        · subst e; omega
        · exact (hr h).2 q (by omega) h2
theorem long_l0 (l : List S37) (hl : l.length ≤ 60) : ∀ (n i : Nat) (x3 : Int), i + n = l.length → ∃ k r, chirographlaw32_Long.l0 k l x3 (i : Int) = some r ∧ (r = false → ∀ q : Nat, i ≤ q → q < l.length → aOK (rd_T37 l (q : Int))) := by
  intro n
  induction n with
  | zero =>
    intro i x3 hi
    refine ⟨1, decide (x3 > 32768), ?_, fun h q h1 h2 => by omega⟩
    rw [chirographlaw32_Long.l0, if_neg (by omega)]
  | succ n ih =>
    intro i x3 hi
    have hlt : i < l.length := by omega
    by_cases c1 : ((rd_T37 l (i : Int)).f4.length : Int) > 20
    · refine ⟨2, true, ?_, fun h => by simp at h⟩
      rw [chirographlaw32_Long.l0, if_pos (by omega), if_pos (by omega), if_pos c1, chirographlaw32_Long.j1, if_pos rfl]
    · by_cases c2 : ((rd_T37 l (i : Int)).f7.length : Int) > 100
      · refine ⟨2, true, ?_, fun h => by simp at h⟩
        rw [chirographlaw32_Long.l0, if_pos (by omega), if_pos (by omega), if_neg c1, chirographlaw32_Long.j1, if_pos (decide_eq_true c2)]
      · have h2 := long_l2 l hl i hlt (by omega) _ (fun x3 => ih (i + 1) x3 (by omega)) (rd_T37 l (i : Int)).f7.length 0
        have h1 := long_l1 l hl i hlt (by omega) _ (fun x3 => h2 x3 (by omega)) (rd_T37 l (i : Int)).f4.length 0 x3 (by omega)
        obtain ⟨k, r, hk, hr⟩ := h1
        refine ⟨k + 2, r, ?_, fun h q q1 q2 => ?_⟩
        · rw [chirographlaw32_Long.l0, if_pos (by omega), if_pos (by omega), if_neg c1, chirographlaw32_Long.j1, if_neg (by rw [decide_eq_true_eq]; exact c2)]
          exact hk
        · obtain ⟨⟨r1, r2⟩, r3⟩ := hr h
          by_cases e : q = i
          · subst e; exact ⟨by omega, by omega, r3, r2⟩
          · exact r1 q (by omega) q2
theorem long_f (l : List S37) : ∃ k r, chirographlaw32_Long.f k l = some r ∧ (r = false → l.length ≤ 60 ∧ ∀ x ∈ l, x.f4.length ≤ 20 ∧ x.f7.length ≤ 100 ∧ (∀ y ∈ x.f4, y.f1.size ≤ 8192) ∧ ∀ y ∈ x.f7, y.f5.size ≤ 4096 ∧ y.f6.length ≤ 100) := by
  by_cases c : (l.length : Int) > 60
  · exact ⟨0, true, by unfold chirographlaw32_Long.f; rw [if_pos c], fun h => by simp at h⟩
  · obtain ⟨k, r, hk, hr⟩ := long_l0 l (by omega) l.length 0 0 (by omega)
    refine ⟨k, r, by unfold chirographlaw32_Long.f; rw [if_neg c]; exact hk, fun h => ⟨by omega, fun x hx => ?_⟩⟩
    obtain ⟨q, hq, rfl⟩ := List.mem_iff_getElem.1 hx
    have ha := hr h q (by omega) hq
    rw [rd37_at l q hq] at ha
    obtain ⟨a1, a2, a3, a4⟩ := ha
    refine ⟨a1, a2, fun y hy => ?_, fun y hy => ?_⟩
    · obtain ⟨j, hj, rfl⟩ := List.mem_iff_getElem.1 hy
      have := a3 j (by omega) hj
      unfold rd_T48 at this
      rwa [Int.toNat_natCast, List.getD_eq_getElem?_getD, List.getElem?_eq_getElem hj] at this
    · obtain ⟨j, hj, rfl⟩ := List.mem_iff_getElem.1 hy
      have := a4 j (by omega) hj
      unfold rd_T51 at this
      rwa [Int.toNat_natCast, List.getD_eq_getElem?_getD, List.getElem?_eq_getElem hj] at this
end Go.Proofs.Ytppgbahiolhgbaa
end
section
set_option linter.unusedVariables false
set_option linter.unusedSimpArgs false
namespace Go.Proofs.Ytppgbahiolhgbaa
open Go.RowKit Go.Proofs.YtppgbahiolhgbaaW.PrintWords Sp
open PScriptReads
def lv1 : S37 := ⟨3, 2, 0, 0, [], ⟨0, 0, 0⟩, false, []⟩
def lv2 : S37 := ⟨4, 0, 0, 300, [], ⟨0, 0, 0⟩, false, []⟩
def lv3 : S37 := ⟨7, 1, 0, 0, [], ⟨0, 0, 0⟩, false, []⟩
def lvs : List S37 := [lv1, lv2, lv3]
def lvB : Bytes := [3, 2, 4, 249, 1, 44, 7, 1, 0]
theorem digs300 : digs 300 = [1, 44] := by
  rw [digs_pos (by decide), show 300 / 256 = 1 from rfl, digs_pos (by decide), show 1 / 256 = 0 from rfl, digs_zero]
  rfl
theorem lvs_may : lvs.all mayAct = true := by decide
theorem lvs_bytes : lvs.flatMap oneB = lvB := by
  have e : numB 300 = [249, 1, 44] := by unfold numB; rw [if_neg (by decide), digs300]; rfl
  have h2 : oneB lv2 = [4, 249, 1, 44] := by
    show [(4 : UInt8)] ++ [] ++ [] ++ numsB [300] ++ [] ++ [] ++ [] ++ [] = _
    rw [numsB_one, show (300 : Int).toNat = 300 from rfl, e]
    rfl
  have h1 : oneB lv1 = [3, 2] := by rfl
  have h3 : oneB lv3 = [7, 1, 0] := by rfl
  unfold lvs
  rw [List.flatMap_cons, List.flatMap_cons, List.flatMap_cons, h1, h2, h3]
  rfl
theorem lvs_enc : encV lvs = (lvB, 0) := by
  unfold encV
  rw [if_pos lvs_may, lvs_bytes, if_neg (by decide)]
theorem lvs_dec : decP lvB = (lvs, 0) := by
  have h := frontP_flat lvs [] lvs_may
  rw [List.append_nil, lvs_bytes, frontP_empty] at h
  unfold decP
  rw [if_neg (by decide), h, if_neg (by simp)]
  simp
theorem lvs_small : SmallA lvs := by
  refine ⟨by decide, fun x hx => ?_⟩
  simp only [lvs, List.mem_cons, List.not_mem_nil, or_false] at hx
  rcases hx with rfl | rfl | rfl <;> exact ⟨by decide, by decide, (fun y hy => by cases hy), (fun y hy => by cases hy)⟩
def actZ (x : S37) : List Value := [.int .u8 x.f0, .int .i64 x.f1, .int .i64 x.f2, .int .i64 x.f3, .slice none 0 0, .int .i64 x.f5.f0, .int .i64 x.f5.f1, .int .i64 x.f5.f2, .bool x.f6, .slice none 0 0]
theorem AC_three {W : World} {b : Nat} {x y z : S37} (h : W.heap[b]? = some (.cells (actZ x ++ actZ y ++ actZ z).toArray 37 (0, 0))) (hx : x.f4 = [] ∧ x.f7 = []) (hy : y.f4 = [] ∧ y.f7 = []) (hz : z.f4 = [] ∧ z.f7 = []) :
    AC W (some ⟨b, 0, none⟩) 3 [x, y, z] := by
  have hR : ∀ x : S37, x.f4 = [] ∧ x.f7 = [] → ActR W x (actZ x) := fun x hx =>
    ⟨none, 0, none, 0, by unfold actZ actC; rw [hx.1, hx.2]; rfl, by rw [hx.1]; exact Kd.C_nil _ _, by rw [hx.2]; exact Kd.C_nil _ _, by rw [hx.1]; exact Nat.le_refl _, by rw [hx.2]; exact Nat.le_refl _, fun ad hA => by simp at hA⟩
  refine ⟨rfl, by simp, fun _ => ⟨_, rfl, fun j p hj => ?_⟩⟩
  have hc : ∀ q v, (actZ x ++ actZ y ++ actZ z)[q]? = some v → W.cell? ⟨b, q, none⟩ = some v := fun q v hq => by
    rw [blk_cell h q]
    simpa using hq
  have l10 : ∀ x : S37, (actZ x).length = 10 := fun _ => rfl
  have key : ∀ (k : Nat) (p : S37), (∀ q, q < 10 → (actZ x ++ actZ y ++ actZ z)[k * 10 + q]? = (actZ p)[q]?) → (p.f4 = [] ∧ p.f7 = []) →
      ∃ c, c.length = 10 ∧ ActR W p c ∧ ∀ i u, c[i]? = some u → W.cell? ((⟨b, 0, none⟩ : Addr).add (k * 10 + i)) = some u := by
    intro k p hq hp
    refine ⟨_, l10 p, hR p hp, fun q v hv => ?_⟩
    have hlt : q < 10 := by
      have := (List.getElem?_eq_some_iff.1 hv).1
      rwa [l10] at this
    have ea : (⟨b, 0, none⟩ : Addr).add (k * 10 + q) = ⟨b, k * 10 + q, none⟩ := by
      unfold Addr.add
      split
      · rename_i h0; rw [h0]
      · simp
    rw [ea]
    exact hc _ _ (by rw [hq q hlt]; exact hv)
  match j, hj with
  | 0, hj =>
    obtain rfl : x = p := by simpa using hj
    exact key 0 _ (fun q hq => by rw [Nat.zero_mul, Nat.zero_add, List.append_assoc, List.getElem?_append_left (by rw [l10]; exact hq)]) hx
  | 1, hj =>
    obtain rfl : y = p := by simpa using hj
    exact key 1 _ (fun q hq => by rw [List.append_assoc, List.getElem?_append_right (by rw [l10]; omega), l10, List.getElem?_append_left (by rw [l10]; omega)]; congr 1; omega) hy
  | 2, hj =>
    obtain rfl : z = p := by simpa using hj
    exact key 2 _ (fun q hq => by rw [List.getElem?_append_right (by rw [List.length_append, l10, l10]; omega), List.length_append, l10, l10]; congr 1; omega) hz
set_option maxRecDepth 100000 in
set_option maxHeartbeats 8000000 in
theorem alive8 (w : World) : Calls Try.prog 8 #[] w fun e w' => e = .returned (.bool true) ∧ Below w.heap.size w w' := by
  have e1 : (encV lvs).1 = lvB := by rw [lvs_enc]
  have e2 : (encV lvs).2 = 0 := by rw [lvs_enc]
  have d1 : (decP lvB).1 = lvs := by rw [lvs_dec]
  have d2 : (decP lvB).2 = 0 := by rw [lvs_dec]
  have c1 : ((mk lvB).toList == ([3, 2, 4, 249, 1, 44, 7, 1, 0] : List UInt8)) = true := by rw [toL, L_mk]; rfl
  have hlen : lvs.length = 3 := rfl
  have hno : mayAct ⟨3, 0, 0, 1, [], ⟨0, 0, 0⟩, false, []⟩ = false := by decide
  go_enter Try.func8, Try.ntmps8
  go_wp2_with (first
    | (go_at_call 10; refine (encode10 (some ⟨_, 0, none⟩) 3 lvs _ (AC_three (blk_new (by first | rfl | simp)) ⟨rfl, rfl⟩ ⟨rfl, rfl⟩ ⟨rfl, rfl⟩) lvs_small).mono ?_; rintro x1 w1 ⟨rfl, hb1⟩; rw [e1, e2])
    | (go_at_call 17; refine (decode17 (mk lvB) _ (by decide)).mono ?_; rintro x2 w2 ⟨v, rfl, hR2, hb2⟩; rw [L_mk] at hR2 ⊢; rw [d1] at hR2; rw [d2]; obtain ⟨A, c, rfl⟩ := Kd.R_slice hR2; rw [hlen])
    | (go_at_call 13; refine (check13 ⟨3, 0, 0, 1, [], ⟨0, 0, 0⟩, false, []⟩ none 0 none 0 _ (Kd.C_nil _ _) (Kd.C_nil _ _) (by decide) (by decide) (fun y hy => by cases hy) (fun y hy => by cases hy)).mono ?_; rintro x3 w3 ⟨rfl, hb3⟩; rw [hno, show errC false = 2 from rfl]))
  go_ret
  exact ⟨rfl, below_bt (below_bt (below_bt (below_alloc (Below.refl _ _) _) hb1) hb2) hb3⟩
end Go.Proofs.Ytppgbahiolhgbaa
end
section
set_option linter.unusedVariables false
set_option linter.unusedSimpArgs false
namespace Go.Proofs.Ytppgbahiolhgbaa
open Go.RowKit Go.Proofs.YtppgbahiolhgbaaW.PrintWords Sp
open PScriptReads
structure Short (l : List S37) : Prop where
  h1 : l.length ≤ 60
  h2 : ∀ x ∈ l, x.f4.length ≤ 20 ∧ x.f7.length ≤ 100 ∧ (∀ y ∈ x.f4, y.f1.size ≤ 8192) ∧ ∀ y ∈ x.f7, y.f5.size ≤ 4096 ∧ y.f6.length ≤ 100
theorem Short.own {l : List S37} (h : Short l) : ∀ x ∈ l, x.f4.length ≤ 1000 ∧ x.f7.length ≤ 1000 ∧ ∀ y ∈ x.f7, y.f6.length ≤ 1000 := fun x hx => by
  obtain ⟨a, b, c, d⟩ := h.h2 x hx
  exact ⟨by omega, by omega, fun y hy => by have := d y hy; omega⟩
theorem Short.small {l : List S37} (h : Short l) : SmallA l := ⟨by have := h.h1; omega, fun x hx => by
  obtain ⟨a, b, c, d⟩ := h.h2 x hx
  exact ⟨by omega, by omega, fun y hy => by have := c y hy; omega, fun y hy => by have := d y hy; omega⟩⟩
theorem long7 (A : Option Addr) (c : Nat) (l : List S37) (hc : l.length ≤ c) : ∃ r, (r = false → Short l) ∧ ∀ W, k37.C W A l.length l → Calls Try.prog 7 #[.slice A l.length c] W fun e w' => e = .returned (.bool r) ∧ Below W.heap.size W w' := by
  obtain ⟨k, r, h, hr⟩ := long_f l
  refine ⟨r, fun hh => ⟨(hr hh).1, (hr hh).2⟩, fun W hW => ?_⟩
  refine (chirographlaw32_Long.calls k A c l r W hW hc h).mono ?_
  rintro e w' ⟨rfl, hd⟩
  exact ⟨rfl, hd.below⟩
end Go.Proofs.Ytppgbahiolhgbaa
end
