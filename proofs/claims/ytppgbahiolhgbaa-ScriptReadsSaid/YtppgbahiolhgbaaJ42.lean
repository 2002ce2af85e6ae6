/- Contracts and plain laws over the seat, laid together (group 42 of what the claim needs). -/
import Derived.Test.YtppgbahiolhgbaaJ40
set_option linter.unusedVariables false
set_option linter.unusedSimpArgs false
namespace Go.Proofs.Ytppgbahiolhgbaa
open Go.RowKit Go.Proofs.YtppgbahiolhgbaaW.PrintWords Sp
open PScriptReads
theorem numT_of {v : Int} (t : Bytes) (h : 0 ≤ v ∧ v ≤ 2147483647) : numT (mk (numsB [v] ++ t), true) = (v, (mk t, true)) := by
  unfold numT
  rw [if_pos rfl, L_mk, numsB_one, numP_of t (by omega) (by omega)]
  simp only [Int.toNat_of_nonneg h.1]
theorem textT_of {m : Nat} {s : ByteArray} (t : Bytes) (h : s.size ≤ m) (hm : m ≤ 1000000) : textT m (mk (textB (L s) ++ t), true) = (s, (mk t, true)) := by
  unfold textT
  rw [if_pos rfl, L_mk, textP_of t (by rw [L_len]; exact h) hm]
  simp only [mk_L]
theorem numT_to {x : TS} (h : (numT x).2.2 = true) : x.2 = true ∧ L x.1 = numsB [(numT x).1] ++ L (numT x).2.1 := by
  unfold numT at h ⊢
  by_cases hx : x.2 = true
  · rw [if_pos hx] at h ⊢
    cases hq : numP 2147483647 (L x.1) with
    | none => rw [hq] at h; simp at h
    | some q =>
      have := (numP_to (v := q.1) (t := q.2) hq).1
      simp only [numsB_one, Int.toNat_natCast, L_mk]
      exact ⟨hx, this⟩
  · rw [if_neg hx] at h; simp at h
theorem textT_to {m : Nat} {x : TS} (h : (textT m x).2.2 = true) : x.2 = true ∧ L x.1 = textB (L (textT m x).1) ++ L (textT m x).2.1 := by
  unfold textT at h ⊢
  by_cases hx : x.2 = true
  · rw [if_pos hx] at h ⊢
    cases hq : textP m (L x.1) with
    | none => rw [hq] at h; simp at h
    | some q =>
      have := (textP_to (v := q.1) (t := q.2) hq).1
      simp only [L_mk]
      exact ⟨hx, this⟩
  · rw [if_neg hx] at h; simp at h
theorem numsB_cons1 (x : Int) (l : List Int) : numsB (x :: l) = numsB [x] ++ numsB l := by simp [numsB]
theorem listT_of : ∀ (xs : List Int) (t : Bytes), (∀ x ∈ xs, 0 ≤ x ∧ x ≤ 2147483647) → listT xs.length (mk (numsB xs ++ t), true) = (xs, (mk t, true)) := by
  intro xs
  induction xs with
  | nil => intro t _; rfl
  | cons x xs ih =>
    intro t h
    rw [List.length_cons, listT, if_pos rfl, numsB_cons1, List.append_assoc, numT_of _ (h x (List.mem_cons_self ..)), ih t (fun y hy => h y (List.mem_cons_of_mem _ hy))]
theorem listT_to : ∀ (n : Nat) (x : TS), (listT n x).2.2 = true → x.2 = true ∧ L x.1 = numsB (listT n x).1 ++ L (listT n x).2.1 ∧ (listT n x).1.length = n := by
  intro n
  induction n with
  | zero => intro x h; exact ⟨h, rfl, rfl⟩
  | succ n ih =>
    intro x h
    rw [listT] at h ⊢
    by_cases hx : x.2 = true
    · rw [if_pos hx] at h ⊢
      obtain ⟨a1, a2, a3⟩ := ih _ h
      obtain ⟨b1, b2⟩ := numT_to a1
      refine ⟨hx, ?_, by simp [a3]⟩
      simp only
      rw [numsB_cons1, List.append_assoc, ← a2]; exact b2
    · rw [if_neg hx] at h; exact absurd h hx
theorem stepS_split (x : S51) : stepS x = numsB [x.f0] ++ (numsB [x.f1] ++ (numsB [x.f2] ++ (numsB [x.f3] ++ (numsB [x.f4] ++ (textB (L x.f5) ++ (numsB [(x.f6.length : Int)] ++ numsB x.f6)))))) := by
  unfold stepS; simp [numsB]
theorem stepT_of {x : S51} (h : (1 ≤ x.f0 ∧ x.f0 ≤ 9) ∧ (0 ≤ x.f1 ∧ x.f1 ≤ 2147483647) ∧ (0 ≤ x.f2 ∧ x.f2 ≤ 2147483647) ∧ (0 ≤ x.f3 ∧ x.f3 ≤ 2147483647) ∧ (0 ≤ x.f4 ∧ x.f4 ≤ 2147483647) ∧ (∀ n ∈ x.f6, 0 ≤ n ∧ n ≤ 2147483647) ∧ x.f5.size ≤ 1024 ∧ x.f6.length ≤ 32) (t : Bytes) : stepT (mk (stepS x ++ t), true) = (x, (mk t, true)) := by
  obtain ⟨h0, h1, h2, h3, h4, h6, h5, h7⟩ := h
  rw [stepS_split]
  simp only [List.append_assoc]
  unfold stepT
  simp only
  rw [numT_of _ (by omega)]
  simp only
  rw [if_neg (by omega), numT_of _ h1]
  simp only
  rw [numT_of _ h2]
  simp only
  rw [numT_of _ h3]
  simp only
  rw [numT_of _ h4]
  simp only
  rw [textT_of _ h5 (by omega)]
  simp only
  rw [numT_of _ (by omega)]
  simp only [Int.toNat_natCast]
  rw [listT_of _ _ h6]
theorem stepT_to {x : TS} (h : (stepT x).2.2 = true) : x.2 = true ∧ L x.1 = stepS (stepT x).1 ++ L (stepT x).2.1 := by
  unfold stepT at h ⊢
  simp only at h ⊢
  have a0 := @numT_to x
  have b6 := numT_le (textT 1024 (numT (numT (numT (numT (numT x).2).2).2).2).2).2
  have a1 := @numT_to (numT x).2
  have a2 := @numT_to (numT (numT x).2).2
  have a3 := @numT_to (numT (numT (numT x).2).2).2
  have a4 := @numT_to (numT (numT (numT (numT x).2).2).2).2
  have a5 := @textT_to 1024 (numT (numT (numT (numT (numT x).2).2).2).2).2
  have a6 := @numT_to (textT 1024 (numT (numT (numT (numT (numT x).2).2).2).2).2).2
  generalize numT (textT 1024 (numT (numT (numT (numT (numT x).2).2).2).2).2).2 = q6 at *
  generalize textT 1024 (numT (numT (numT (numT (numT x).2).2).2).2).2 = q5 at *
  generalize numT (numT (numT (numT (numT x).2).2).2).2 = q4 at *
  generalize numT (numT (numT (numT x).2).2).2 = q3 at *
  generalize numT (numT (numT x).2).2 = q2 at *
  generalize numT (numT x).2 = q1 at *
  generalize numT x = q0 at *
  by_cases h9 : 255 < q0.1
  · rw [if_pos h9] at h; simp at h
  · rw [if_neg h9] at h ⊢
    have a7 := listT_to _ _ h
    generalize listT q6.1.toNat q6.2 = q7 at *
    obtain ⟨c7, d7, e7⟩ := a7
    obtain ⟨c6, d6⟩ := a6 c7
    obtain ⟨c5, d5⟩ := a5 c6
    obtain ⟨c4, d4⟩ := a4 c5
    obtain ⟨c3, d3⟩ := a3 c4
    obtain ⟨c2, d2⟩ := a2 c3
    obtain ⟨c1, d1⟩ := a1 c2
    obtain ⟨c0, d0⟩ := a0 c1
    refine ⟨c0, ?_⟩
    rw [stepS_split]
    simp only [List.append_assoc]
    rw [e7, Int.toNat_of_nonneg b6.2.2.1, ← d7, ← d6, ← d5, ← d4, ← d3, ← d2, ← d1, ← d0]
theorem givesT_of : ∀ (xs : List S48) (t : Bytes), (∀ g ∈ xs, 0 ≤ g.f0 ∧ g.f0 ≤ 7 ∧ g.f1.size ≤ 16384) → givesT xs.length (mk (xs.flatMap giveS ++ t), true) = (xs, (mk t, true)) := by
  intro xs
  induction xs with
  | nil => intro t _; rfl
  | cons x xs ih =>
    intro t h
    have hx := h x (List.mem_cons_self ..)
    have := ih t (fun y hy => h y (List.mem_cons_of_mem _ hy))
    rw [List.length_cons, givesT, if_pos rfl, List.flatMap_cons, List.append_assoc]
    unfold giveS at this ⊢
    rw [List.append_assoc, numT_of _ (by omega)]
    simp only
    rw [textT_of _ hx.2.2 (by omega)]
    simp only
    rw [this]
theorem givesT_to : ∀ (n : Nat) (x : TS), (givesT n x).2.2 = true → x.2 = true ∧ L x.1 = (givesT n x).1.flatMap giveS ++ L (givesT n x).2.1 ∧ (givesT n x).1.length = n := by
  intro n
  induction n with
  | zero => intro x h; exact ⟨h, rfl, rfl⟩
  | succ n ih =>
    intro x h
    rw [givesT] at h ⊢
    by_cases hx : x.2 = true
    · rw [if_pos hx] at h ⊢
      obtain ⟨a1, a2, a3⟩ := ih _ h
      obtain ⟨b1, b2⟩ := textT_to a1
      obtain ⟨c1, c2⟩ := numT_to b1
      refine ⟨hx, ?_, by simp [a3]⟩
      simp only [List.flatMap_cons, List.append_assoc]
      rw [← a2]
      unfold giveS
      simp only [List.append_assoc]
      rw [← b2]; exact c2
    · rw [if_neg hx] at h; exact absurd h hx
theorem stepsT_of : ∀ (xs : List S51) (t : Bytes), (∀ x ∈ xs, (1 ≤ x.f0 ∧ x.f0 ≤ 9) ∧ (0 ≤ x.f1 ∧ x.f1 ≤ 2147483647) ∧ (0 ≤ x.f2 ∧ x.f2 ≤ 2147483647) ∧ (0 ≤ x.f3 ∧ x.f3 ≤ 2147483647) ∧ (0 ≤ x.f4 ∧ x.f4 ≤ 2147483647) ∧ (∀ n ∈ x.f6, 0 ≤ n ∧ n ≤ 2147483647) ∧ x.f5.size ≤ 1024 ∧ x.f6.length ≤ 32) → stepsT xs.length (mk (xs.flatMap stepS ++ t), true) = (xs, (mk t, true)) := by
  intro xs
  induction xs with
  | nil => intro t _; rfl
  | cons x xs ih =>
    intro t h
    rw [List.length_cons, stepsT, if_pos rfl, List.flatMap_cons, List.append_assoc, stepT_of (h x (List.mem_cons_self ..)), ih t (fun y hy => h y (List.mem_cons_of_mem _ hy))]
theorem stepsT_to : ∀ (n : Nat) (x : TS), (stepsT n x).2.2 = true → x.2 = true ∧ L x.1 = (stepsT n x).1.flatMap stepS ++ L (stepsT n x).2.1 ∧ (stepsT n x).1.length = n := by
  intro n
  induction n with
  | zero => intro x h; exact ⟨h, rfl, rfl⟩
  | succ n ih =>
    intro x h
    rw [stepsT] at h ⊢
    by_cases hx : x.2 = true
    · rw [if_pos hx] at h ⊢
      obtain ⟨a1, a2, a3⟩ := ih _ h
      obtain ⟨b1, b2⟩ := stepT_to a1
      refine ⟨hx, ?_, by simp [a3]⟩
      simp only [List.flatMap_cons, List.append_assoc]
      rw [← a2]; exact b2
    · rw [if_neg hx] at h; exact absurd h hx
theorem bare_facts {a : S37} (hm : mayAct a = true) : (hOrg a.f0 = false → a.f1 = 0) ∧ (hAud a.f0 = false → a.f2 = 0) ∧ (hN a.f0 = false → a.f3 = 0) ∧ (hGives a.f0 = false → a.f4 = []) ∧ (hTxn a.f0 = false → a.f5 = ⟨0, 0, 0⟩) ∧ (hYes a.f0 = false → a.f6 = false) ∧ (hSteps a.f0 = false → a.f7 = []) := by
  obtain ⟨hd, _⟩ := may_facts hm
  have hb : bareA a = true := by
    unfold mayAct mayHead at hm
    simp only [Bool.and_eq_true] at hm
    exact hm.1.1.1.1.1.1.1.1.2
  unfold bareA bareB at hb
  simp only [Bool.and_eq_true, Bool.or_eq_true, decide_eq_true_eq, Bool.not_eq_true', List.length_eq_zero_iff] at hb
  have hc : a.f0 = 1 ∨ a.f0 = 2 ∨ a.f0 = 3 ∨ a.f0 = 4 ∨ a.f0 = 5 ∨ a.f0 = 6 ∨ a.f0 = 7 ∨ a.f0 = 8 ∨ a.f0 = 9 ∨ a.f0 = 10 := by omega
  obtain ⟨d, o, au, n, gs, ⟨t1, t2, t3⟩, y, st⟩ := a
  simp only at hb hc ⊢
  rcases hc with rfl | rfl | rfl | rfl | rfl | rfl | rfl | rfl | rfl | rfl <;> simp at hb <;> simp [hOrg, hAud, hN, hGives, hTxn, hYes, hSteps, hb]
theorem act7_of {a : S37} (hm : mayAct a = true) (t : Bytes) : act7 a.f0 (mk (pOrg a ++ (pAud a ++ (pN a ++ (pGives a ++ (pTxn a ++ (pYes a ++ (pSteps a ++ t))))))), true) = (a, (mk t, true)) := by
  obtain ⟨hd, hf, hg, hst⟩ := may_facts hm
  obtain ⟨z1, z2, z3, z4, z5, z6, z7⟩ := bare_facts hm
  have e1 : ∀ r, act1 a.f0 (mk (pOrg a ++ r), true) = (⟨a.f0, a.f1, 0, 0, [], ⟨0, 0, 0⟩, false, []⟩, (mk r, true)) := fun r => by
    unfold act1 ifT pOrg ac0
    cases h : hOrg a.f0 with
    | false => rw [z1 h]; rfl
    | true => rw [if_pos rfl, if_pos rfl]; unfold oneT; simp only; rw [numT_of _ (by omega)]
  have e2 : ∀ r, act2 a.f0 (mk (pOrg a ++ (pAud a ++ r)), true) = (⟨a.f0, a.f1, a.f2, 0, [], ⟨0, 0, 0⟩, false, []⟩, (mk r, true)) := fun r => by
    unfold act2 ifT
    rw [e1]
    unfold pAud
    cases h : hAud a.f0 with
    | false => rw [z2 h]; rfl
    | true => rw [if_pos rfl, if_pos rfl]; unfold oneT; simp only; rw [numT_of _ (by omega)]
  have e3 : ∀ r, act3 a.f0 (mk (pOrg a ++ (pAud a ++ (pN a ++ r))), true) = (⟨a.f0, a.f1, a.f2, a.f3, [], ⟨0, 0, 0⟩, false, []⟩, (mk r, true)) := fun r => by
    unfold act3 ifT
    rw [e2]
    unfold pN
    cases h : hN a.f0 with
    | false => rw [z3 h]; rfl
    | true => rw [if_pos rfl, if_pos rfl]; unfold oneT; simp only; rw [numT_of _ (by omega)]
  have e4 : ∀ r, act4 a.f0 (mk (pOrg a ++ (pAud a ++ (pN a ++ (pGives a ++ r)))), true) = (⟨a.f0, a.f1, a.f2, a.f3, a.f4, ⟨0, 0, 0⟩, false, []⟩, (mk r, true)) := fun r => by
    unfold act4 ifT
    rw [e3]
    unfold pGives
    cases h : hGives a.f0 with
    | false => rw [z4 h]; rfl
    | true => rw [if_pos rfl, if_pos rfl]; unfold gvT; simp only [List.append_assoc]; rw [numT_of _ (by omega)]; simp only [Int.toNat_natCast]; rw [givesT_of _ _ hg]
  have e5 : ∀ r, act5 a.f0 (mk (pOrg a ++ (pAud a ++ (pN a ++ (pGives a ++ (pTxn a ++ r))))), true) = (⟨a.f0, a.f1, a.f2, a.f3, a.f4, a.f5, false, []⟩, (mk r, true)) := fun r => by
    unfold act5 ifT
    rw [e4]
    unfold pTxn
    cases h : hTxn a.f0 with
    | false => rw [z5 h]; rfl
    | true =>
      rw [if_pos rfl, if_pos rfl, show numsB [a.f5.f0, a.f5.f1, a.f5.f2] = numsB [a.f5.f0] ++ (numsB [a.f5.f1] ++ numsB [a.f5.f2]) from by simp [numsB]]
      unfold txT; simp only [List.append_assoc]
      rw [numT_of _ (by omega)]; simp only
      rw [numT_of _ (by omega)]; simp only
      rw [numT_of _ (by omega)]
  have e6 : ∀ r, act6 a.f0 (mk (pOrg a ++ (pAud a ++ (pN a ++ (pGives a ++ (pTxn a ++ (pYes a ++ r)))))), true) = (⟨a.f0, a.f1, a.f2, a.f3, a.f4, a.f5, a.f6, []⟩, (mk r, true)) := fun r => by
    unfold act6 ifT
    rw [e5]
    unfold pYes
    cases h : hYes a.f0 with
    | false => rw [z6 h]; rfl
    | true =>
      rw [if_pos rfl, if_pos rfl]
      have y : [if a.f6 = true then (1 : UInt8) else 0] = numsB [if a.f6 = true then 1 else 0] := by cases a.f6 <;> rfl
      rw [y]
      unfold ysT; simp only
      rw [numT_of _ (by split <;> decide)]
      cases a.f6 <;> rfl
  unfold act7 ifT
  rw [e6]
  unfold pSteps
  cases h : hSteps a.f0 with
  | false => rw [if_neg (by simp), if_neg (by simp), ← z7 h, List.nil_append]
  | true => rw [if_pos rfl, if_pos rfl]; unfold stT; simp only [List.append_assoc]; rw [numT_of _ (by omega)]; simp only [Int.toNat_natCast]; rw [stepsT_of _ _ hst]
theorem act7_to {d : Int} {l : Bytes} (h : (act7 d (mk l, true)).2.2 = true) : (act7 d (mk l, true)).1.f0 = d ∧ l = pOrg (act7 d (mk l, true)).1 ++ (pAud (act7 d (mk l, true)).1 ++ (pN (act7 d (mk l, true)).1 ++ (pGives (act7 d (mk l, true)).1 ++ (pTxn (act7 d (mk l, true)).1 ++ (pYes (act7 d (mk l, true)).1 ++ (pSteps (act7 d (mk l, true)).1 ++ L (act7 d (mk l, true)).2.1)))))) := by
  obtain ⟨y0, hy0⟩ : ∃ y : TA, y = (ac0 d, (mk l, true)) := ⟨_, rfl⟩
  obtain ⟨y1, hy1⟩ : ∃ y, y = ifT (hOrg d) (oneT fun a v => { a with f1 := v }) y0 := ⟨_, rfl⟩
  obtain ⟨y2, hy2⟩ : ∃ y, y = ifT (hAud d) (oneT fun a v => { a with f2 := v }) y1 := ⟨_, rfl⟩
  obtain ⟨y3, hy3⟩ : ∃ y, y = ifT (hN d) (oneT fun a v => { a with f3 := v }) y2 := ⟨_, rfl⟩
  obtain ⟨y4, hy4⟩ : ∃ y, y = ifT (hGives d) gvT y3 := ⟨_, rfl⟩
  obtain ⟨y5, hy5⟩ : ∃ y, y = ifT (hTxn d) txT y4 := ⟨_, rfl⟩
  obtain ⟨y6, hy6⟩ : ∃ y, y = ifT (hYes d) ysT y5 := ⟨_, rfl⟩
  obtain ⟨y7, hy7⟩ : ∃ y, y = ifT (hSteps d) stT y6 := ⟨_, rfl⟩
  have e : act7 d (mk l, true) = y7 := by
    rw [hy7, hy6, hy5, hy4, hy3, hy2, hy1, hy0]; rfl
  rw [e] at h ⊢
  have s7 : y6.2.2 = true ∧ L y6.2.1 = (if hSteps d = true then numsB [(y7.1.f7.length : Int)] ++ y7.1.f7.flatMap stepS else []) ++ L y7.2.1 ∧ y7.1.f0 = y6.1.f0 ∧ y7.1.f1 = y6.1.f1 ∧ y7.1.f2 = y6.1.f2 ∧ y7.1.f3 = y6.1.f3 ∧ y7.1.f4 = y6.1.f4 ∧ y7.1.f5 = y6.1.f5 ∧ y7.1.f6 = y6.1.f6 := by
    unfold ifT at hy7
    cases hf : hSteps d with
    | false => rw [hf, if_neg (by simp)] at hy7; subst hy7; exact ⟨h, rfl, rfl, rfl, rfl, rfl, rfl, rfl, rfl⟩
    | true =>
      rw [hf, if_pos rfl] at hy7
      subst hy7
      obtain ⟨a1, a2, a3⟩ := stepsT_to _ _ h
      obtain ⟨b1, b2⟩ := numT_to a1
      have b3 := (numT_le y6.2).2.2.1
      refine ⟨b1, ?_, rfl, rfl, rfl, rfl, rfl, rfl, rfl⟩
      unfold stT
      rw [if_pos rfl]
      simp only [List.append_assoc]
      rw [a3, Int.toNat_of_nonneg b3, ← a2]; exact b2
  obtain ⟨h6, t7, f7⟩ := s7
  have s6 : y5.2.2 = true ∧ L y5.2.1 = (if hYes d = true then [if y6.1.f6 = true then 1 else 0] else []) ++ L y6.2.1 ∧ y6.1.f0 = y5.1.f0 ∧ y6.1.f1 = y5.1.f1 ∧ y6.1.f2 = y5.1.f2 ∧ y6.1.f3 = y5.1.f3 ∧ y6.1.f4 = y5.1.f4 ∧ y6.1.f5 = y5.1.f5 := by
    unfold ifT at hy6
    cases hf : hYes d with
    | false => rw [hf, if_neg (by simp)] at hy6; subst hy6; exact ⟨h6, rfl, rfl, rfl, rfl, rfl, rfl, rfl⟩
    | true =>
      rw [hf, if_pos rfl] at hy6
      subst hy6
      unfold ysT at h6 ⊢
      simp only [Bool.and_eq_true, decide_eq_true_eq] at h6
      obtain ⟨b1, b2⟩ := numT_to h6.1
      have b3 := (numT_le y5.2).2.2.1
      refine ⟨b1, ?_, rfl, rfl, rfl, rfl, rfl, rfl⟩
      rw [if_pos rfl]
      simp only
      have hv : (numT y5.2).1 = 0 ∨ (numT y5.2).1 = 1 := by omega
      rw [b2]
      rcases hv with hv | hv <;> rw [hv] <;> rfl
  obtain ⟨h5, t6, f6⟩ := s6
  have s5 : y4.2.2 = true ∧ L y4.2.1 = (if hTxn d = true then numsB [y5.1.f5.f0, y5.1.f5.f1, y5.1.f5.f2] else []) ++ L y5.2.1 ∧ y5.1.f0 = y4.1.f0 ∧ y5.1.f1 = y4.1.f1 ∧ y5.1.f2 = y4.1.f2 ∧ y5.1.f3 = y4.1.f3 ∧ y5.1.f4 = y4.1.f4 := by
    unfold ifT at hy5
    cases hf : hTxn d with
    | false => rw [hf, if_neg (by simp)] at hy5; subst hy5; exact ⟨h5, rfl, rfl, rfl, rfl, rfl, rfl⟩
    | true =>
      rw [hf, if_pos rfl] at hy5
      subst hy5
      obtain ⟨c1, c2⟩ := numT_to (x := (numT (numT y4.2).2).2) h5
      obtain ⟨b1, b2⟩ := numT_to c1
      obtain ⟨a1, a2⟩ := numT_to b1
      refine ⟨a1, ?_, rfl, rfl, rfl, rfl, rfl⟩
      unfold txT
      rw [if_pos rfl]
      simp only
      rw [show ∀ p q r : Int, numsB [p, q, r] = numsB [p] ++ (numsB [q] ++ numsB [r]) from fun p q r => by simp [numsB]]
      simp only [List.append_assoc]
      rw [← c2, ← b2]; exact a2
  obtain ⟨h4, t5, f5⟩ := s5
  have s4 : y3.2.2 = true ∧ L y3.2.1 = (if hGives d = true then numsB [(y4.1.f4.length : Int)] ++ y4.1.f4.flatMap giveS else []) ++ L y4.2.1 ∧ y4.1.f0 = y3.1.f0 ∧ y4.1.f1 = y3.1.f1 ∧ y4.1.f2 = y3.1.f2 ∧ y4.1.f3 = y3.1.f3 := by
    unfold ifT at hy4
    cases hf : hGives d with
    | false => rw [hf, if_neg (by simp)] at hy4; subst hy4; exact ⟨h4, rfl, rfl, rfl, rfl, rfl⟩
    | true =>
      rw [hf, if_pos rfl] at hy4
      subst hy4
      obtain ⟨a1, a2, a3⟩ := givesT_to _ _ h4
      obtain ⟨b1, b2⟩ := numT_to a1
      have b3 := (numT_le y3.2).2.2.1
      refine ⟨b1, ?_, rfl, rfl, rfl, rfl⟩
      unfold gvT
      rw [if_pos rfl]
      simp only [List.append_assoc]
      rw [a3, Int.toNat_of_nonneg b3, ← a2]; exact b2
  obtain ⟨h3, t4, f4⟩ := s4
  have s3 : y2.2.2 = true ∧ L y2.2.1 = (if hN d = true then numsB [y3.1.f3] else []) ++ L y3.2.1 ∧ y3.1.f0 = y2.1.f0 ∧ y3.1.f1 = y2.1.f1 ∧ y3.1.f2 = y2.1.f2 := by
    unfold ifT at hy3
    cases hf : hN d with
    | false => rw [hf, if_neg (by simp)] at hy3; subst hy3; exact ⟨h3, rfl, rfl, rfl, rfl⟩
    | true =>
      rw [hf, if_pos rfl] at hy3
      subst hy3
      obtain ⟨b1, b2⟩ := numT_to h3
      exact ⟨b1, b2, rfl, rfl, rfl⟩
  obtain ⟨h2, t3, f3⟩ := s3
  have s2 : y1.2.2 = true ∧ L y1.2.1 = (if hAud d = true then numsB [y2.1.f2] else []) ++ L y2.2.1 ∧ y2.1.f0 = y1.1.f0 ∧ y2.1.f1 = y1.1.f1 := by
    unfold ifT at hy2
    cases hf : hAud d with
    | false => rw [hf, if_neg (by simp)] at hy2; subst hy2; exact ⟨h2, rfl, rfl, rfl⟩
    | true =>
      rw [hf, if_pos rfl] at hy2
      subst hy2
      obtain ⟨b1, b2⟩ := numT_to h2
      exact ⟨b1, b2, rfl, rfl⟩
  obtain ⟨h1, t2, f2⟩ := s2
  have s1 : L y0.2.1 = (if hOrg d = true then numsB [y1.1.f1] else []) ++ L y1.2.1 ∧ y1.1.f0 = y0.1.f0 := by
    unfold ifT at hy1
    cases hf : hOrg d with
    | false => rw [hf, if_neg (by simp)] at hy1; subst hy1; exact ⟨rfl, rfl⟩
    | true =>
      rw [hf, if_pos rfl] at hy1
      subst hy1
      obtain ⟨b1, b2⟩ := numT_to h1
      exact ⟨b2, rfl⟩
  obtain ⟨t1, f1⟩ := s1
  have hd : y7.1.f0 = d := by rw [f7.1, f6.1, f5.1, f4.1, f3.1, f2.1, f1, hy0]; rfl
  refine ⟨hd, ?_⟩
  have hl : L y0.2.1 = l := by rw [hy0]; exact L_mk l
  rw [← hl]
  unfold pOrg pAud pN pGives pTxn pYes pSteps
  rw [hd]
  rw [show y7.1.f1 = y1.1.f1 from by rw [f7.2.1, f6.2.1, f5.2.1, f4.2.1, f3.2.1, f2.2], show y7.1.f2 = y2.1.f2 from by rw [f7.2.2.1, f6.2.2.1, f5.2.2.1, f4.2.2.1, f3.2.2], show y7.1.f3 = y3.1.f3 from by rw [f7.2.2.2.1, f6.2.2.2.1, f5.2.2.2.1, f4.2.2.2],
    show y7.1.f4 = y4.1.f4 from by rw [f7.2.2.2.2.1, f6.2.2.2.2.1, f5.2.2.2.2], show y7.1.f5 = y5.1.f5 from by rw [f7.2.2.2.2.2.1, f6.2.2.2.2.2], show y7.1.f6 = y6.1.f6 from f7.2.2.2.2.2.2]
  rw [← t7, ← t6, ← t5, ← t4, ← t3, ← t2]
  exact t1
theorem act7_yes {c : UInt8} {l : Bytes} (h : (act7 (c.toNat : Int) (mk l, true)).2.2 = true) (hm : mayAct (act7 (c.toNat : Int) (mk l, true)).1 = true) : rdOK (c :: l) = some ((act7 (c.toNat : Int) (mk l, true)).1, L (act7 (c.toNat : Int) (mk l, true)).2.1) := by
  obtain ⟨h0, h1⟩ := act7_to h
  have h2 := rdOK_of hm (L (act7 (c.toNat : Int) (mk l, true)).2.1)
  generalize act7 (c.toNat : Int) (mk l, true) = y at *
  have e : c :: l = oneB y.1 ++ L y.2.1 := by
    unfold oneB
    rw [h0, Int.toNat_natCast, UInt8.ofNat_toNat]
    simp only [List.append_assoc]
    rw [← h1]; rfl
  rw [e]; exact h2
theorem act7_no {c : UInt8} {l : Bytes} (h : ¬ ((act7 (c.toNat : Int) (mk l, true)).2.2 = true ∧ mayAct (act7 (c.toNat : Int) (mk l, true)).1 = true)) : rdOK (c :: l) = none := by
  cases hr : rdOK (c :: l) with
  | none => rfl
  | some q =>
    exfalso
    obtain ⟨e, hm⟩ := rdOK_to (a := q.1) (t := q.2) hr
    obtain ⟨hd, _⟩ := may_facts hm
    have h2 := act7_of hm q.2
    unfold oneB at e
    simp only [List.append_assoc, List.cons_append, List.nil_append] at e
    injection e with e1 e2
    have hc : (c.toNat : Int) = q.1.f0 := by
      rw [e1, UInt8.toNat_ofNat']
      omega
    rw [← hc, ← e2] at h2
    rw [h2] at h
    exact h ⟨rfl, hm⟩
end Go.Proofs.Ytppgbahiolhgbaa
