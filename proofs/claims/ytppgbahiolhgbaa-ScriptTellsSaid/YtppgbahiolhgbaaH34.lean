/- Contracts and plain laws over the seat, laid together (group 34 of what the claim needs). -/
import Derived.Test.YtppgbahiolhgbaaH31
import Derived.Test.YtppgbahiolhgbaaH33
import Derived.Deep.RegionHeld3
import Derived.Deep.DrawnRows
import Derived.IntWalk
set_option linter.unusedVariables false
set_option linter.unusedSimpArgs false
namespace Go.Proofs.Ytppgbahiolhgbaa
open Go.RowKit Go.Proofs.YtppgbahiolhgbaaW.PrintWords Sp
open PScriptReads
attribute [local go_sem ↓] Go.wp_at_zero Go.wp_at_succ
theorem one_byte (v : Int) (h : 1 ≤ v ∧ v ≤ 10) : strOfNums [v] = mk [UInt8.ofNat v.toNat] := by
  have : v = 1 ∨ v = 2 ∨ v = 3 ∨ v = 4 ∨ v = 5 ∨ v = 6 ∨ v = 7 ∨ v = 8 ∨ v = 9 ∨ v = 10 := by omega
  rcases this with h | h | h | h | h | h | h | h | h | h <;> subst h <;> rfl
theorem nb_size (l : List Int) (h : ∀ x ∈ l, 0 ≤ x ∧ x ≤ 2147483647) : (mk (numsB l)).size ≤ 9 * l.length := by
  rw [size_mk]; exact numsB_len l (fun x hx => by have := h x hx; omega)
theorem flat_len {α : Type} {f : α → Bytes} {m k : Nat} {l : List α} (h : ∀ x ∈ l, (f x).length ≤ m) (hk : l.length ≤ k) : (l.flatMap f).length ≤ m * k := by
  have h1 : (l.flatMap f).length ≤ m * l.length := by
    induction l with
    | nil => simp
    | cons x t ih =>
      have := ih (fun y hy => h y (List.mem_cons_of_mem _ hy)) (by simp at hk; omega)
      have h2 := h x (List.mem_cons_self ..)
      rw [List.flatMap_cons, List.length_append, List.length_cons, Nat.mul_succ]
      omega
  exact Nat.le_trans h1 (Nat.mul_le_mul_left m hk)
theorem text_len (l : Bytes) (h : l.length ≤ 1000000) : (textB l).length ≤ 9 + l.length := by
  have := (numB_len l.length (by omega)).2
  unfold textB; rw [List.length_append]; omega
theorem text_size (s : ByteArray) (h : s.size ≤ 1000000) : (mk (textB (L s))).size ≤ 9 + s.size := by
  have := text_len (L s) (by rw [L_len]; exact h)
  rw [L_len] at this
  rw [size_mk]; exact this
theorem giveS_len (x : S48) (h0 : 0 ≤ x.f0 ∧ x.f0 ≤ 2147483647) (h1 : x.f1.size ≤ 16384) : (giveS x).length ≤ 16402 := by
  have e1 := numsB_len [x.f0] (by intro y hy; simp at hy; omega)
  have e2 := text_len (L x.f1) (by rw [L_len]; omega)
  rw [L_len] at e2
  simp only [List.length_cons, List.length_nil] at e1
  unfold giveS; rw [List.length_append]; omega
theorem nums1b (W0 W : World) (b : Nat) (x : Int) (hb : b = W0.heap.size) (hB : Below (W0.alloc (.cells #[.int .i64 x] 3)).heap.size (W0.alloc (.cells #[.int .i64 x] 3)) W) (h0 : 0 ≤ x ∧ x ≤ 2147483647) : Calls Try.prog 36 #[.slice (some ⟨b, 0, none⟩) 1 1] W fun e w' => e = .returned (.string (mk (numsB [x]))) ∧ Below W.heap.size W w' := by
  subst hb
  have h := nums36 (some ⟨W0.heap.size, 0, none⟩) 1 [x] W (Kd.C_below (C_lit W0 3 .i64 [x] (by simp)) hB) (by simp) (by intro y hy; simp at hy; subst hy; omega) (by simp)
  simpa using h
theorem keep4 {w : World} {g : Nat} {a : S37} {A4 : Option Addr} {c4 : Nat} {A9 : Option Addr} {c9 : Nat} {gh : Nat} {W w1 : World} {X Y Z : Addr} {x y z : Value}
    (h : St2 w g a A4 c4 A9 c9 gh W ∧ W.cell? X = some x ∧ W.cell? Y = some y ∧ W.cell? Z = some z) (hb : Below W.heap.size W w1) :
    St2 w g a A4 c4 A9 c9 gh w1 ∧ w1.cell? X = some x ∧ w1.cell? Y = some y ∧ w1.cell? Z = some z :=
  ⟨h.1.below hb, (hb.cell (World.block_lt_of_cell? _ _ h.2.1)).trans h.2.1, (hb.cell (World.block_lt_of_cell? _ _ h.2.2.1)).trans h.2.2.1, (hb.cell (World.block_lt_of_cell? _ _ h.2.2.2)).trans h.2.2.2⟩
theorem bt {n : Nat} {w W W1 : World} (h : Below n w W) (k : Below W.heap.size W W1) (hn : n ≤ w.heap.size := by exact Nat.le_refl _) : Below n w W1 := h.trans (k.mono (Nat.le_trans hn h.size))
theorem app_nil (s : ByteArray) : s ++ mk [] = s := L_inj (by simp [L, mk])
theorem stepS_len (x : S51) (hx : ∀ n ∈ [x.f0, x.f1, x.f2, x.f3, x.f4], 0 ≤ n ∧ n ≤ 2147483647) (h5 : x.f5.size ≤ 1024) (h6 : x.f6.length ≤ 32) (hl : ∀ n ∈ x.f6, 0 ≤ n ∧ n ≤ 2147483647) : (stepS x).length ≤ 2000 := by
  have e1 := numsB_len [x.f0, x.f1, x.f2, x.f3, x.f4] (by intro y hy; have := hx y hy; omega)
  have e2 := text_len (L x.f5) (by rw [L_len]; omega)
  rw [L_len] at e2
  have e3 := numsB_len [(x.f6.length : Int)] (by intro y hy; simp at hy; omega)
  have e4 := numsB_len x.f6 (by intro y hy; have := hl y hy; omega)
  simp only [List.length_cons, List.length_nil] at e1 e3
  unfold stepS; simp only [List.length_append]; omega
def p27 (h k : Nat) : Value := .pointer (some ⟨h, k, none⟩)
def specs27 (h : Nat) (sj u1 u2 u3 u4 : ByteArray) (x0 x1 x2 x3 x4 : Int) (x5 : ByteArray) (A6 : Option Addr) (n6 c6 : Nat) : List (Value → World → Prop) :=
  [Reg.lit (.string sj), Reg.lit (p27 h 0), Reg.lit (.int .u8 x0), Reg.lit (.int .i64 x0), Reg.lit (p27 h 1), Reg.lit (.int .i64 x1), Reg.lit (p27 h 2), Reg.lit (.int .i64 x2), Reg.lit (p27 h 3), Reg.lit (.int .i64 x3), Reg.lit (p27 h 4), Reg.lit (.int .i64 x4),
   Reg.newb 3 #[.int .i64 x0, .int .i64 x1, .int .i64 x2, .int .i64 x3, .int .i64 x4], Reg.lit (.string u1), Reg.lit (.string (sj ++ u1)), Reg.lit (p27 h 5), Reg.lit (.string x5), Reg.lit (.string u2), Reg.lit (.string (sj ++ u1 ++ u2)),
   Reg.lit (p27 h 6), Reg.lit (.slice A6 n6 c6), Reg.lit (.int .i64 n6), Reg.newb 3 #[.int .i64 n6], Reg.lit (.string u3), Reg.lit (.string (sj ++ u1 ++ u2 ++ u3)), Reg.lit (p27 h 6), Reg.lit (.slice A6 n6 c6), Reg.lit (.string u4), Reg.lit (.string (sj ++ u1 ++ u2 ++ u3 ++ u4)), Reg.lit (.string (sj ++ u1 ++ u2 ++ u3 ++ u4))]
theorem specs27_stable (h : Nat) (sj u1 u2 u3 u4 : ByteArray) (x0 x1 x2 x3 x4 : Int) (x5 : ByteArray) (A6 : Option Addr) (n6 c6 : Nat) : ∀ s ∈ specs27 h sj u1 u2 u3 u4 x0 x1 x2 x3 x4 x5 A6 n6 c6, Reg.Stable s := by
  unfold specs27
  simp only [List.forall_mem_cons]
  refine ⟨Reg.lit_stable _, Reg.lit_stable _, Reg.lit_stable _, Reg.lit_stable _, Reg.lit_stable _, Reg.lit_stable _, Reg.lit_stable _, Reg.lit_stable _, Reg.lit_stable _, Reg.lit_stable _, Reg.lit_stable _, Reg.lit_stable _, Reg.newb_stable _ _, Reg.lit_stable _, Reg.lit_stable _, Reg.lit_stable _, Reg.lit_stable _, Reg.lit_stable _, Reg.lit_stable _, Reg.lit_stable _, Reg.lit_stable _, Reg.lit_stable _, Reg.newb_stable _ _, Reg.lit_stable _, Reg.lit_stable _, Reg.lit_stable _, Reg.lit_stable _, Reg.lit_stable _, Reg.lit_stable _, Reg.lit_stable _, fun s hs => by cases hs⟩
set_option maxRecDepth 100000 in
set_option maxHeartbeats 16000000 in
theorem one20 (a : S37) (A4 : Option Addr) (c4 : Nat) (A9 : Option Addr) (c9 : Nat) (w : World) (g4 : k48.C w A4 a.f4.length a.f4) (g9 : k51.C w A9 a.f7.length a.f7) (hm : mayAct a = true) :
    Calls Try.prog 20 #[.agg (actC a A4 c4 A9 c9)] w fun e w' => e = .returned (.string (mk (oneB a))) ∧ Below w.heap.size w w' := by
  have G4 := Aid.hide g4
  have G9 := Aid.hide g9
  clear g4 g9
  have h27 := fun W => of27 a.f0 W
  have H27 := Aid.hide h27
  clear h27
  obtain ⟨hd, hn, hg, hs⟩ := may_facts hm
  have HM := Aid.hide (And.intro hm (And.intro hd (And.intro hn (And.intro hg hs))))
  clear hm hd hn hg hs
  go_enter Try.func20, Try.ntmps20
  go_upto_region 1 with (fail)
  have hS : St w w.heap.size a A4 c4 A9 c9 (w.alloc (.cells (actC a A4 c4 A9 c9) 37)) := ⟨ActAt.new w, below_alloc (Below.refl _ _) _⟩
  generalize hw0 : w.alloc (.cells (actC a A4 c4 A9 c9) 37) = w0 at *
  clear hw0
  generalize hg : w.heap.size = g at *
  have HG := Aid.hide hg
  clear hg
  obtain ⟨k0, k1, k2, k3, k4, k5, k6, k7, k8, k9⟩ := hS.ten
  go_cut [3, 4] (fun x y wx => ∃ gh : Nat, x = .pointer (some ⟨gh, 0, none⟩) ∧ y = .bool (hIs a.f0) ∧ St2 w g a A4 c4 A9 c9 gh wx)
  case first =>
    go_wp2_with (go_at_call 27; refine ((Aid.unhide H27) _).mono ?_; rintro e1 w1 ⟨rfl, hb1⟩; have hS1 := St.below (by assumption) hb1)
    go_meet
    exact ⟨w1.heap.size, rfl, rfl, ⟨St.alloc hS1 _, by unfold HAt; simpa using heap_alloc_new w1 _⟩⟩
  case rest =>
    obtain ⟨gh, rfl, rfl, hS2⟩ := hcut
    clear k0 k1 k2 k3 k4 k5 k6 k7 k8 k9 hS
    obtain ⟨k0, k1, k2, k3, k4, k5, k6, k7, k8, k9⟩ := hS2.ten
    go_upto_region 2 with (fail)
    go_cut [5] (fun x wx => x = .string (mk [UInt8.ofNat a.f0.toNat]) ∧ St2 w g a A4 c4 A9 c9 gh wx)
    case first =>
      have hcv := fun W => conv_one W a.f0
      go_wp2_with (fail)
      go_meet
      exact ⟨congrArg Value.string (one_byte _ (Aid.unhide HM).2.1), St2.alloc (by assumption) _⟩
    case rest =>
      obtain ⟨rfl, hS3⟩ := hcut
      clear hS2
      obtain ⟨s0, hs0⟩ : ∃ s, s = mk [UInt8.ofNat a.f0.toNat] := ⟨_, rfl⟩
      rw [← hs0]
      have z0 : s0.size ≤ 1 := by rw [hs0]; exact Nat.le_refl 1
      have S0 := Aid.hide hs0
      clear hs0
      clear k0 k1 k2 k3 k4 k5 k6 k7 k8 k9
      obtain ⟨k0, k1, k2, k3, k4, k5, k6, k7, k8, k9⟩ := hS3.ten
      obtain ⟨q0, q1, q2, q3, q4, q5, q6⟩ := hS3.seven
      obtain ⟨fl1, hf⟩ : ∃ b, b = hOrg a.f0 := ⟨_, rfl⟩
      rw [← hf] at q0
      obtain ⟨s1, hs⟩ : ∃ s, s = s0 ++ mk (pOrg a) := ⟨_, rfl⟩
      obtain ⟨t, ht⟩ : ∃ t, t = mk (numsB [a.f1]) := ⟨_, rfl⟩
      have hzt : t.size ≤ 9 := by rw [ht]; exact nb_size _ (by have := (Aid.unhide HM).2.2.1; intro y hy; simp at hy; omega)
      have e : s1 = if fl1 = true then s0 ++ t else s0 := by
        rw [hs, ht]; unfold pOrg; rw [← hf]
        cases fl1
        · exact app_nil _
        · rfl
      have z1 : s1.size ≤ 10 := by
        rw [e]; split
        · rw [ByteArray.size_append]; omega
        · omega
      have c36 := fun (W : World) (b : Nat) (hb : b = W.heap.size) => nums1 W b a.f1 hb (by have := (Aid.unhide HM).2.2.1; omega)
      rw [← ht] at c36
      have E1 := Aid.hide e
      have S1 := Aid.hide hs
      have C1 := Aid.hide c36
      clear e hs hf c36 ht
      go_upto_if 20 with (fail)
      go_cut [5] (fun x wx => x = .string s1 ∧ St2 w g a A4 c4 A9 c9 gh wx)
      case first =>
       as_aux_lemma =>
        cases fl1 with
        | false =>
          go_wp2_with (fail)
          go_meet
          exact ⟨congrArg Value.string (Aid.unhide E1).symm, by assumption⟩
        | true =>
          go_wp2_with (go_at_call 36; refine ((Aid.unhide C1) _ _ (by simp)).mono ?_; rintro e1 w1 ⟨rfl, hb1⟩; have hS1 := St2.below (St2.alloc (by assumption) _) hb1)
          go_meet
          exact ⟨congrArg Value.string (Aid.unhide E1).symm, by assumption⟩
      case rest =>
        obtain ⟨rfl, hS4⟩ := hcut
        clear hS3 hzt
        have hS3 := hS4
        clear hS4
        clear k0 k1 k2 k3 k4 k5 k6 k7 k8 k9 q0 q1 q2 q3 q4 q5 q6
        obtain ⟨k0, k1, k2, k3, k4, k5, k6, k7, k8, k9⟩ := hS3.ten
        clear k0 k1 k2 k3 k4 k5 k6 k7 k8 k9
        obtain ⟨k0, k1, k2, k3, k4, k5, k6, k7, k8, k9⟩ := hS3.ten
        obtain ⟨q0, q1, q2, q3, q4, q5, q6⟩ := hS3.seven
        obtain ⟨fl2, hf⟩ : ∃ b, b = hAud a.f0 := ⟨_, rfl⟩
        rw [← hf] at q1
        obtain ⟨s2, hs⟩ : ∃ s, s = s1 ++ mk (pAud a) := ⟨_, rfl⟩
        obtain ⟨t, ht⟩ : ∃ t, t = mk (numsB [a.f2]) := ⟨_, rfl⟩
        have hzt : t.size ≤ 9 := by rw [ht]; exact nb_size _ (by have := (Aid.unhide HM).2.2.1; intro y hy; simp at hy; omega)
        have e : s2 = if fl2 = true then s1 ++ t else s1 := by
          rw [hs, ht]; unfold pAud; rw [← hf]
          cases fl2
          · exact app_nil _
          · rfl
        have z2 : s2.size ≤ 19 := by
          rw [e]; split
          · rw [ByteArray.size_append]; omega
          · omega
        have c36 := fun (W : World) (b : Nat) (hb : b = W.heap.size) => nums1 W b a.f2 hb (by have := (Aid.unhide HM).2.2.1; omega)
        rw [← ht] at c36
        have E2 := Aid.hide e
        have S2 := Aid.hide hs
        have C2 := Aid.hide c36
        clear e hs hf c36 ht
        go_upto_if 28 with (fail)
        go_cut [5] (fun x wx => x = .string s2 ∧ St2 w g a A4 c4 A9 c9 gh wx)
        case first =>
         as_aux_lemma =>
          cases fl2 with
          | false =>
            go_wp2_with (fail)
            go_meet
            exact ⟨congrArg Value.string (Aid.unhide E2).symm, by assumption⟩
          | true =>
            go_wp2_with (go_at_call 36; refine ((Aid.unhide C2) _ _ (by simp)).mono ?_; rintro e1 w1 ⟨rfl, hb1⟩; have hS1 := St2.below (St2.alloc (by assumption) _) hb1)
            go_meet
            exact ⟨congrArg Value.string (Aid.unhide E2).symm, by assumption⟩
        case rest =>
          obtain ⟨rfl, hS4⟩ := hcut
          clear hS3 hzt
          have hS3 := hS4
          clear hS4
          clear k0 k1 k2 k3 k4 k5 k6 k7 k8 k9 q0 q1 q2 q3 q4 q5 q6
          obtain ⟨k0, k1, k2, k3, k4, k5, k6, k7, k8, k9⟩ := hS3.ten
          clear k0 k1 k2 k3 k4 k5 k6 k7 k8 k9
          obtain ⟨k0, k1, k2, k3, k4, k5, k6, k7, k8, k9⟩ := hS3.ten
          obtain ⟨q0, q1, q2, q3, q4, q5, q6⟩ := hS3.seven
          obtain ⟨fl3, hf⟩ : ∃ b, b = hN a.f0 := ⟨_, rfl⟩
          rw [← hf] at q2
          obtain ⟨s3, hs⟩ : ∃ s, s = s2 ++ mk (pN a) := ⟨_, rfl⟩
          obtain ⟨t, ht⟩ : ∃ t, t = mk (numsB [a.f3]) := ⟨_, rfl⟩
          have hzt : t.size ≤ 9 := by rw [ht]; exact nb_size _ (by have := (Aid.unhide HM).2.2.1; intro y hy; simp at hy; omega)
          have e : s3 = if fl3 = true then s2 ++ t else s2 := by
            rw [hs, ht]; unfold pN; rw [← hf]
            cases fl3
            · exact app_nil _
            · rfl
          have z3 : s3.size ≤ 28 := by
            rw [e]; split
            · rw [ByteArray.size_append]; omega
            · omega
          have c36 := fun (W : World) (b : Nat) (hb : b = W.heap.size) => nums1 W b a.f3 hb (by have := (Aid.unhide HM).2.2.1; omega)
          rw [← ht] at c36
          have E3 := Aid.hide e
          have S3 := Aid.hide hs
          have C3 := Aid.hide c36
          clear e hs hf c36 ht
          go_upto_if 36 with (fail)
          go_cut [5] (fun x wx => x = .string s3 ∧ St2 w g a A4 c4 A9 c9 gh wx)
          case first =>
           as_aux_lemma =>
            cases fl3 with
            | false =>
              go_wp2_with (fail)
              go_meet
              exact ⟨congrArg Value.string (Aid.unhide E3).symm, by assumption⟩
            | true =>
              go_wp2_with (go_at_call 36; refine ((Aid.unhide C3) _ _ (by simp)).mono ?_; rintro e1 w1 ⟨rfl, hb1⟩; have hS1 := St2.below (St2.alloc (by assumption) _) hb1)
              go_meet
              exact ⟨congrArg Value.string (Aid.unhide E3).symm, by assumption⟩
          case rest =>
            obtain ⟨rfl, hS4⟩ := hcut
            clear hS3 hzt
            have hS3 := hS4
            clear hS4
            clear k0 k1 k2 k3 k4 k5 k6 k7 k8 k9 q0 q1 q2 q3 q4 q5 q6
            obtain ⟨k0, k1, k2, k3, k4, k5, k6, k7, k8, k9⟩ := hS3.ten
            clear k0 k1 k2 k3 k4 k5 k6 k7 k8 k9
            obtain ⟨k0, k1, k2, k3, k4, k5, k6, k7, k8, k9⟩ := hS3.ten
            obtain ⟨q0, q1, q2, q3, q4, q5, q6⟩ := hS3.seven
            obtain ⟨fl4, hf⟩ : ∃ b, b = hGives a.f0 := ⟨_, rfl⟩
            rw [← hf] at q3
            obtain ⟨s4, hs⟩ : ∃ s, s = s3 ++ mk (pGives a) := ⟨_, rfl⟩
            obtain ⟨t, ht⟩ : ∃ t, t = mk (numsB [(a.f4.length : Int)]) := ⟨_, rfl⟩
            have hl6 : a.f4.length ≤ 6 := by have := (Aid.unhide HM).2.2.1; omega
            have hzt : t.size ≤ 9 := by rw [ht]; exact nb_size _ (by intro y hy; simp at hy; omega)
            have e : s4 = if fl4 = true then s3 ++ t ++ mk (a.f4.flatMap giveS) else s3 := by
              rw [hs, ht]; unfold pGives; rw [← hf]
              cases fl4
              · exact app_nil _
              · simp only [if_true]; rw [mk_append, ByteArray.append_assoc]
            have zf : ∀ k, k ≤ a.f4.length → (mk ((a.f4.take k).flatMap giveS)).size ≤ 16402 * k := by
              intro k hk
              rw [size_mk]
              exact flat_len (fun x hx => by have := (Aid.unhide HM).2.2.2.1 x (List.mem_of_mem_take hx); exact giveS_len x (by omega) (by omega)) (List.length_take_le ..)
            have z4 : s4.size ≤ 100000 := by
              have := zf a.f4.length (Nat.le_refl _)
              rw [List.take_length] at this
              rw [e]; split
              · rw [ByteArray.size_append, ByteArray.size_append]; omega
              · omega
            have c36 := fun (W : World) (b : Nat) (hb : b = W.heap.size) => nums1 W b (a.f4.length : Int) hb (by omega)
            rw [← ht] at c36
            have E4 := Aid.hide e
            have S4 := Aid.hide hs
            have C4 := Aid.hide c36
            have Z4 := Aid.hide zf
            clear e hs hf c36 ht zf
            go_upto_if 44 with (fail)
            go_cut [5] (fun x wx => x = .string s4 ∧ St2 w g a A4 c4 A9 c9 gh wx)
            case first =>
             as_aux_lemma =>
              cases fl4 with
              | false =>
                go_wp2_with (fail)
                go_meet
                exact ⟨congrArg Value.string (Aid.unhide E4).symm, by assumption⟩
              | true =>
                go_wp2_with (go_at_call 36; refine ((Aid.unhide C4) _ _ (by simp)).mono ?_; rintro e1 w1 ⟨rfl, hb1⟩; have hS1 := St2.below (St2.alloc (by assumption) _) hb1)
                go_loopw [5, 6] (fun x i wr => ∃ (j : Nat) (s : ByteArray), i = .int .i64 (j : Int) ∧ j ≤ a.f4.length ∧ x = .string s ∧ s = s3 ++ t ++ mk ((a.f4.take j).flatMap giveS) ∧ St2 w g a A4 c4 A9 c9 gh wr) (fun _ i _ => a.f4.length - (intOf i).toNat)
                case atStart => exact ⟨0, _, rfl, by omega, rfl, by rw [List.take_zero, List.flatMap_nil, app_nil], by assumption⟩
                case round =>
                  obtain ⟨j, sj, rfl, hj, rfl, hsj, hSr⟩ := hrel
                  clear k0 k1 k2 k3 k4 k5 k6 k7 k8 k9 q0 q1 q2 q3 q4 q5 q6 hS3
                  have zj : sj.size ≤ 40 + 16402 * j := by
                    rw [hsj, ByteArray.size_append, ByteArray.size_append]; have := (Aid.unhide Z4) j hj; omega
                  have SJ := Aid.hide hsj
                  clear hsj
                  obtain ⟨k0, k1, k2, k3, k4, k5, k6, k7, k8, k9⟩ := hSr.ten
                  by_cases hlt : j < a.f4.length
                  · have hbe : Below w.heap.size w wr := by rw [Aid.unhide HG]; exact hSr.s.hB
                    obtain ⟨ad, hA, e0, e1⟩ := at_T48 (Kd.C_below (Aid.unhide G4) hbe) (j : Int) (by omega) (by omega)
                    have hm : rd_T48 a.f4 (j : Int) ∈ a.f4 := by
                      unfold rd_T48; rw [Int.toNat_natCast, List.getD_eq_getElem?_getD, List.getElem?_eq_getElem hlt]; exact List.getElem_mem hlt
                    have htk : (a.f4.take (j + 1)).flatMap giveS = (a.f4.take j).flatMap giveS ++ giveS (rd_T48 a.f4 (j : Int)) := by
                      rw [List.take_succ_eq_append_getElem hlt, List.flatMap_append]
                      unfold rd_T48; rw [Int.toNat_natCast, List.getD_eq_getElem?_getD, List.getElem?_eq_getElem hlt]; simp
                    have hx := (Aid.unhide HM).2.2.2.1 _ hm
                    generalize rd_T48 a.f4 (j : Int) = x at *
                    rw [Int.toNat_natCast] at e0 e1
                    obtain ⟨x0, x1⟩ := x
                    simp only at e0 e1 hx
                    obtain ⟨u1, hu1⟩ : ∃ u, u = mk (numsB [x0]) := ⟨_, rfl⟩
                    obtain ⟨u2, hu2⟩ : ∃ u, u = mk (textB (L x1)) := ⟨_, rfl⟩
                    have zu1 : u1.size ≤ 9 := by rw [hu1]; exact nb_size _ (by intro y hy; simp at hy; omega)
                    have zu2 : u2.size ≤ 16393 := by rw [hu2]; have := text_size x1 (by omega); omega
                    have c36 := fun (W0 W : World) (b : Nat) (hb : b = W0.heap.size) hB => nums1b W0 W b x0 hb hB (by omega)
                    have c37 := fun (W : World) => text37 x1 W (by omega)
                    rw [← hu1] at c36
                    rw [← hu2] at c37
                    have hnx : sj ++ u1 ++ u2 = s3 ++ t ++ mk ((a.f4.take (j + 1)).flatMap giveS) := by
                      rw [htk, Aid.unhide SJ, mk_append, hu1, hu2]; unfold giveS; rw [mk_append]; simp only [ByteArray.append_assoc]
                    have F3 := Aid.hide (And.intro c36 (And.intro c37 hnx))
                    clear c36 c37 hnx hu1 hu2 htk hm hbe hx
                    subst hA
                    have ha1 : ¬ (9223372036854775807 < sj.size + u1.size) := by omega
                    have ha2 : ¬ (9223372036854775807 < sj.size + u1.size + u2.size) := by omega
                    have ha3 : ¬ (9223372036854775807 < (sj ++ u1).size + u2.size) := by rw [ByteArray.size_append]; omega
                    go_wp2_with (fail)
                    go_region_held3 (fun w' => St2 w g a (some ad) c4 A9 c9 gh w' ∧ w'.cell? ⟨g, 4, none⟩ = some (.slice (some ad) a.f4.length c4) ∧ w'.cell? (ad.add (j * 2)) = some (.int .i64 x0) ∧ w'.cell? ⟨(ad.add (j * 2)).block, (ad.add (j * 2)).off + 1, none⟩ = some (.string x1))
                      ((refine keep4 (W := wr) ⟨hSr, k4, e0, e1⟩ ?_; (repeat first | exact Below.refl _ _ | apply below_drew | apply below_alloc | refine bt ?_ (by assumption))))
                      (first
                        | (go_at_call 36; refine ((Aid.unhide F3).1 wr _ _ (by simp) (by (repeat first | exact Below.refl _ _ | apply below_drew | apply below_alloc | refine bt ?_ (by assumption)))).mono ?_; rintro e1 w1 ⟨rfl, hb1⟩)
                        | (go_at_call 36; refine ((Aid.unhide F3).1 w2 _ _ (by simp) (by (repeat first | exact Below.refl _ _ | apply below_drew | apply below_alloc | refine bt ?_ (by assumption)))).mono ?_; rintro e1 w1 ⟨rfl, hb1⟩)
                        | (go_at_call 37; refine ((Aid.unhide F3).2.1 _).mono ?_; rintro e1 w2 ⟨rfl, hb2⟩))
                    all_goals
                      go_wp2_with (fail)
                      go_roundw
                      case rel => exact ⟨j + 1, sj ++ u1 ++ u2, by go_num, by omega, rfl, (Aid.unhide F3).2.2, hSr.below (by (repeat first | exact Below.refl _ _ | apply below_drew | apply below_alloc | refine bt ?_ (by assumption)))⟩
                      case measure => simp [intOf]; omega
                  · obtain rfl : j = a.f4.length := by omega
                    go_wp2_with (fail)
                    go_meet
                    refine ⟨congrArg Value.string ?_, hSr⟩
                    rw [Aid.unhide E4, Aid.unhide SJ, List.take_length]
                    rfl
            case rest =>
              obtain ⟨rfl, hS4⟩ := hcut
              clear hS3 hzt
              have hS3 := hS4
              clear hS4
              clear k0 k1 k2 k3 k4 k5 k6 k7 k8 k9 q0 q1 q2 q3 q4 q5 q6
              obtain ⟨k0, k1, k2, k3, k4, k5, k6, k7, k8, k9⟩ := hS3.ten
              clear k0 k1 k2 k3 k4 k5 k6 k7 k8 k9
              obtain ⟨k0, k1, k2, k3, k4, k5, k6, k7, k8, k9⟩ := hS3.ten
              obtain ⟨q0, q1, q2, q3, q4, q5, q6⟩ := hS3.seven
              obtain ⟨fl5, hf⟩ : ∃ b, b = hTxn a.f0 := ⟨_, rfl⟩
              rw [← hf] at q4
              obtain ⟨s5, hs⟩ : ∃ s, s = s4 ++ mk (pTxn a) := ⟨_, rfl⟩
              obtain ⟨t, ht⟩ : ∃ t, t = mk (numsB [a.f5.f0, a.f5.f1, a.f5.f2]) := ⟨_, rfl⟩
              have hzt : t.size ≤ 27 := by rw [ht]; exact nb_size _ (by have := (Aid.unhide HM).2.2.1; intro y hy; simp at hy; omega)
              have e : s5 = if fl5 = true then s4 ++ t else s4 := by
                rw [hs, ht]; unfold pTxn; rw [← hf]
                cases fl5
                · exact app_nil _
                · rfl
              have z5 : s5.size ≤ 100027 := by
                rw [e]; split
                · rw [ByteArray.size_append]; omega
                · omega
              have c36 := fun (W : World) (b : Nat) (hb : b = W.heap.size) => nums3 W b a.f5.f0 a.f5.f1 a.f5.f2 hb (by have := (Aid.unhide HM).2.2.1; omega) (by have := (Aid.unhide HM).2.2.1; omega) (by have := (Aid.unhide HM).2.2.1; omega)
              rw [← ht] at c36
              have E5 := Aid.hide e
              have S5 := Aid.hide hs
              have C5 := Aid.hide c36
              clear e hs hf c36 ht
              go_upto_if 78 with (fail)
              go_cut [5] (fun x wx => x = .string s5 ∧ St2 w g a A4 c4 A9 c9 gh wx)
              case first =>
               as_aux_lemma =>
                cases fl5 with
                | false =>
                  go_wp2_with (fail)
                  go_meet
                  exact ⟨congrArg Value.string (Aid.unhide E5).symm, by assumption⟩
                | true =>
                  go_wp2_with (go_at_call 36; refine ((Aid.unhide C5) _ _ (by simp)).mono ?_; rintro e1 w1 ⟨rfl, hb1⟩; have hS1 := St2.below (St2.alloc (by assumption) _) hb1)
                  go_meet
                  exact ⟨congrArg Value.string (Aid.unhide E5).symm, by assumption⟩
              case rest =>
                obtain ⟨rfl, hS4⟩ := hcut
                clear hS3 hzt
                have hS3 := hS4
                clear hS4
                clear k0 k1 k2 k3 k4 k5 k6 k7 k8 k9 q0 q1 q2 q3 q4 q5 q6
                obtain ⟨k0, k1, k2, k3, k4, k5, k6, k7, k8, k9⟩ := hS3.ten
                clear k0 k1 k2 k3 k4 k5 k6 k7 k8 k9
                obtain ⟨k0, k1, k2, k3, k4, k5, k6, k7, k8, k9⟩ := hS3.ten
                obtain ⟨q0, q1, q2, q3, q4, q5, q6⟩ := hS3.seven
                obtain ⟨fl6, hf⟩ : ∃ b, b = hYes a.f0 := ⟨_, rfl⟩
                rw [← hf] at q5
                obtain ⟨y6, hy⟩ : ∃ b, b = a.f6 := ⟨_, rfl⟩
                rw [← hy] at k8
                obtain ⟨s6, hs⟩ : ∃ s, s = s5 ++ mk (pYes a) := ⟨_, rfl⟩
                obtain ⟨s6a, hsa⟩ : ∃ s, s = if (fl6 && y6) = true then s5 ++ mk [1] else s5 := ⟨_, rfl⟩
                have e : s6 = if (fl6 && !y6) = true then s6a ++ mk [0] else s6a := by
                  rw [hs, hsa]; unfold pYes; rw [← hf, ← hy]
                  cases fl6 <;> cases y6 <;> first | exact app_nil _ | rfl
                have z6a : s6a.size ≤ 100028 := by
                  rw [hsa]; split
                  · rw [ByteArray.size_append, size_mk]; simp only [List.length_cons, List.length_nil]; omega
                  · omega
                have z6 : s6.size ≤ 100029 := by
                  rw [e]; split
                  · rw [ByteArray.size_append, size_mk]; simp only [List.length_cons, List.length_nil]; omega
                  · omega
                have E6 := Aid.hide e
                have E6a := Aid.hide hsa
                have S6 := Aid.hide hs
                have Y6 := Aid.hide (And.intro hf hy)
                clear e hs hf hsa hy

                go_upto_region 17 with (fail)
                go_cut [97] (fun x wx => x = .bool (fl6 && y6) ∧ wx = wc)
                case first =>
                 as_aux_lemma =>
                  cases fl6 <;> cases y6 <;>
                    (go_wp2_with (fail)
                     go_meet
                     exact ⟨rfl, rfl⟩)
                case rest =>
                 obtain ⟨rfl, rfl⟩ := hcut
                 clear k0 k1 k2 k3 k4 k5 k6 k7 k8 k9 q0 q1 q2 q3 q4 q5 q6
                 obtain ⟨k0, k1, k2, k3, k4, k5, k6, k7, k8, k9⟩ := hS3.ten
                 obtain ⟨fc, hfc⟩ : ∃ b, b = (fl6 && y6) := ⟨_, rfl⟩
                 have e := Aid.unhide E6a
                 rw [← hfc] at e ⊢
                 have EC17 := Aid.hide e
                 clear e hfc
                 go_upto_if 97 with (fail)
                 go_cut [5] (fun x wx => x = .string s6a ∧ St2 w g a A4 c4 A9 c9 gh wx)
                 case first =>
                  as_aux_lemma =>
                  cases fc <;>
                    (go_wp2_with (fail)
                     go_meet
                     exact ⟨congrArg Value.string (Aid.unhide EC17).symm, by assumption⟩)
                 case rest =>
                  obtain ⟨rfl, hS4⟩ := hcut
                  clear hS3
                  have hS3 := hS4
                  clear hS4
                  clear k0 k1 k2 k3 k4 k5 k6 k7 k8 k9
                  obtain ⟨k0, k1, k2, k3, k4, k5, k6, k7, k8, k9⟩ := hS3.ten

                  clear k0 k1 k2 k3 k4 k5 k6 k7 k8 k9
                  obtain ⟨k0, k1, k2, k3, k4, k5, k6, k7, k8, k9⟩ := hS3.ten
                  obtain ⟨q0, q1, q2, q3, q4, q5, q6⟩ := hS3.seven
                  rw [← (Aid.unhide Y6).1] at q5
                  rw [← (Aid.unhide Y6).2] at k8
                  go_upto_region 19 with (fail)
                  go_cut [106] (fun x wx => x = .bool (fl6 && !y6) ∧ wx = wc)
                  case first =>
                   as_aux_lemma =>
                    cases fl6 <;> cases y6 <;>
                      (go_wp2_with (fail)
                       go_meet
                       exact ⟨rfl, rfl⟩)
                  case rest =>
                   obtain ⟨rfl, rfl⟩ := hcut
                   clear k0 k1 k2 k3 k4 k5 k6 k7 k8 k9 q0 q1 q2 q3 q4 q5 q6
                   obtain ⟨k0, k1, k2, k3, k4, k5, k6, k7, k8, k9⟩ := hS3.ten
                   obtain ⟨fc, hfc⟩ : ∃ b, b = (fl6 && !y6) := ⟨_, rfl⟩
                   have e := Aid.unhide E6
                   rw [← hfc] at e ⊢
                   have EC19 := Aid.hide e
                   clear e hfc
                   go_upto_if 106 with (fail)
                   go_cut [5] (fun x wx => x = .string s6 ∧ St2 w g a A4 c4 A9 c9 gh wx)
                   case first =>
                    as_aux_lemma =>
                    cases fc <;>
                      (go_wp2_with (fail)
                       go_meet
                       exact ⟨congrArg Value.string (Aid.unhide EC19).symm, by assumption⟩)
                   case rest =>
                    obtain ⟨rfl, hS4⟩ := hcut
                    clear hS3
                    have hS3 := hS4
                    clear hS4
                    clear k0 k1 k2 k3 k4 k5 k6 k7 k8 k9
                    obtain ⟨k0, k1, k2, k3, k4, k5, k6, k7, k8, k9⟩ := hS3.ten
                    clear k0 k1 k2 k3 k4 k5 k6 k7 k8 k9
                    obtain ⟨k0, k1, k2, k3, k4, k5, k6, k7, k8, k9⟩ := hS3.ten
                    obtain ⟨q0, q1, q2, q3, q4, q5, q6⟩ := hS3.seven
                    obtain ⟨fl7, hf⟩ : ∃ b, b = hSteps a.f0 := ⟨_, rfl⟩
                    rw [← hf] at q6
                    obtain ⟨s7, hs⟩ : ∃ s, s = s6 ++ mk (pSteps a) := ⟨_, rfl⟩
                    obtain ⟨t, ht⟩ : ∃ t, t = mk (numsB [(a.f7.length : Int)]) := ⟨_, rfl⟩
                    have hl7 : a.f7.length ≤ 64 := by have := (Aid.unhide HM).2.2.1; omega
                    have hzt : t.size ≤ 9 := by rw [ht]; exact nb_size _ (by intro y hy; simp at hy; omega)
                    have e : s7 = if fl7 = true then s6 ++ t ++ mk (a.f7.flatMap stepS) else s6 := by
                      rw [hs, ht]; unfold pSteps; rw [← hf]
                      cases fl7
                      · exact app_nil _
                      · simp only [if_true]; rw [mk_append, ByteArray.append_assoc]
                    have zf : ∀ k, k ≤ a.f7.length → (mk ((a.f7.take k).flatMap stepS)).size ≤ 2000 * k := by
                      intro k hk
                      rw [size_mk]
                      refine flat_len (fun x hx => ?_) (List.length_take_le ..)
                      obtain ⟨h0, h1, h2, h3, h4, h6, h5, h7⟩ := (Aid.unhide HM).2.2.2.2 x (List.mem_of_mem_take hx)
                      exact stepS_len x (by intro n hn; simp at hn; omega) h5 h7 h6
                    have z7 : s7.size ≤ 300000 := by
                      have := zf a.f7.length (Nat.le_refl _)
                      rw [List.take_length] at this
                      rw [e]; split
                      · rw [ByteArray.size_append, ByteArray.size_append]; omega
                      · omega
                    have c36 := fun (W : World) (b : Nat) (hb : b = W.heap.size) => nums1 W b (a.f7.length : Int) hb (by omega)
                    rw [← ht] at c36
                    have E7 := Aid.hide e
                    have S7 := Aid.hide hs
                    have C7 := Aid.hide c36
                    have Z7 := Aid.hide zf
                    clear e hs hf c36 ht zf
                    go_upto_if 110 with (fail)
                    go_cut [5] (fun x wx => x = .string s7 ∧ St2 w g a A4 c4 A9 c9 gh wx)
                    case first =>
                     as_aux_lemma =>
                      cases fl7 with
                      | false =>
                        go_wp2_with (fail)
                        go_meet
                        exact ⟨congrArg Value.string (Aid.unhide E7).symm, by assumption⟩
                      | true =>
                        clear S0 E1 S1 C1 E2 S2 C2 E3 S3 C3 E4 S4 C4 Z4 E5 S5 C5 E6 E6a S6 Y6 EC17 EC19 S7 H27 G4 z0 z1 z2 z3 z4 z5 z6a hl6 fl1 fl2 fl3 fl4 fl5 fc fl6 y6
                        go_wp2_with (go_at_call 36; refine ((Aid.unhide C7) _ _ (by simp)).mono ?_; rintro e1 w1 ⟨rfl, hb1⟩; have hS1 := St2.below (St2.alloc (by assumption) _) hb1)
                        go_loopw [5, 7] (fun x i wr => ∃ (j : Nat) (s : ByteArray), i = .int .i64 (j : Int) ∧ j ≤ a.f7.length ∧ x = .string s ∧ s = s6 ++ t ++ mk ((a.f7.take j).flatMap stepS) ∧ St2 w g a A4 c4 A9 c9 gh wr) (fun _ i _ => a.f7.length - (intOf i).toNat)
                        case atStart => exact ⟨0, _, rfl, by omega, rfl, by rw [List.take_zero, List.flatMap_nil, app_nil], by assumption⟩
                        case round =>
                          obtain ⟨j, sj, rfl, hj, rfl, hsj, hSr⟩ := hrel
                          clear k0 k1 k2 k3 k4 k5 k6 k7 k8 k9 q0 q1 q2 q3 q4 q5 q6 hS3
                          have zj : sj.size ≤ 100040 + 2000 * j := by
                            rw [hsj, ByteArray.size_append, ByteArray.size_append]; have := (Aid.unhide Z7) j hj; omega
                          have SJ := Aid.hide hsj
                          clear hsj
                          obtain ⟨k0, k1, k2, k3, k4, k5, k6, k7, k8, k9⟩ := hSr.ten
                          by_cases hlt : j < a.f7.length
                          · have hbe : Below w.heap.size w wr := by rw [Aid.unhide HG]; exact hSr.s.hB
                            obtain ⟨ad, A6, c6, hA, e0, e1, e2, e3, e4, e5, e6, hc6, g6⟩ := at_T51 (Kd.C_below (Aid.unhide G9) hbe) (j : Int) (by omega) (by omega)
                            have hm : rd_T51 a.f7 (j : Int) ∈ a.f7 := by
                              unfold rd_T51; rw [Int.toNat_natCast, List.getD_eq_getElem?_getD, List.getElem?_eq_getElem hlt]; exact List.getElem_mem hlt
                            have htk : (a.f7.take (j + 1)).flatMap stepS = (a.f7.take j).flatMap stepS ++ stepS (rd_T51 a.f7 (j : Int)) := by
                              rw [List.take_succ_eq_append_getElem hlt, List.flatMap_append]
                              unfold rd_T51; rw [Int.toNat_natCast, List.getD_eq_getElem?_getD, List.getElem?_eq_getElem hlt]; simp
                            obtain ⟨b0, b1, b2, b3, b4, b6, b5, b7⟩ := (Aid.unhide HM).2.2.2.2 _ hm
                            generalize rd_T51 a.f7 (j : Int) = x at *
                            rw [Int.toNat_natCast] at e0 e1 e2 e3 e4 e5 e6
                            obtain ⟨u1, hu1⟩ : ∃ u, u = mk (numsB [x.f0, x.f1, x.f2, x.f3, x.f4]) := ⟨_, rfl⟩
                            obtain ⟨u2, hu2⟩ : ∃ u, u = mk (textB (L x.f5)) := ⟨_, rfl⟩
                            obtain ⟨u3, hu3⟩ : ∃ u, u = mk (numsB [(x.f6.length : Int)]) := ⟨_, rfl⟩
                            obtain ⟨u4, hu4⟩ : ∃ u, u = mk (numsB x.f6) := ⟨_, rfl⟩
                            have zu1 : u1.size ≤ 45 := by rw [hu1]; exact nb_size _ (by intro y hy; simp at hy; omega)
                            have zu2 : u2.size ≤ 1033 := by rw [hu2]; have := text_size x.f5 (by omega); omega
                            have zu3 : u3.size ≤ 9 := by rw [hu3]; exact nb_size _ (by intro y hy; simp at hy; omega)
                            have zu4 : u4.size ≤ 288 := by rw [hu4]; have := nb_size x.f6 b6; omega
                            have c36 := fun (W : World) (b : Nat) h => nums5h W b x.f0 x.f1 x.f2 x.f3 x.f4 h (by intro y hy; simp at hy; omega)
                            have c37 := fun (W : World) => text37 x.f5 W (by omega)
                            have d36 := fun (W : World) (b : Nat) h => nums1h W b (x.f6.length : Int) h (by omega)
                            have l36 := fun (W : World) (hW : Below wr.heap.size wr W) => nums36 A6 c6 x.f6 W (Kd.C_below g6 hW) hc6 (fun y hy => by have := b6 y hy; omega) (by omega)
                            rw [← hu1] at c36
                            rw [← hu2] at c37
                            rw [← hu3] at d36
                            rw [← hu4] at l36
                            have hnx : sj ++ u1 ++ u2 ++ u3 ++ u4 = s6 ++ t ++ mk ((a.f7.take (j + 1)).flatMap stepS) := by
                              rw [htk, Aid.unhide SJ, mk_append, hu1, hu2, hu3, hu4]; unfold stepS; simp only [mk_append, ByteArray.append_assoc]
                            obtain ⟨x0, x1, x2, x3, x4, x5, x6⟩ := x
                            simp only at e0 e1 e2 e3 e4 e5 e6 c36 c37 d36 l36 b0 b5 b7
                            have F3 := Aid.hide (And.intro c36 (And.intro c37 (And.intro d36 (And.intro l36 hnx))))
                            clear c36 c37 d36 l36 hnx hu1 hu2 hu3 hu4 htk hm hbe b1 b2 b3 b4 b6 g6
                            subst hA
                            obtain ⟨n6, hn6⟩ : ∃ n, n = x6.length := ⟨_, rfl⟩
                            rw [← hn6] at e6 hc6 b7 F3
                            clear hn6
                            have ha1 : ¬ (9223372036854775807 < sj.size + u1.size) := by omega
                            have ha2 : ¬ (9223372036854775807 < (sj ++ u1).size + u2.size) := by rw [ByteArray.size_append]; omega
                            have ha3 : ¬ (9223372036854775807 < (sj ++ u1 ++ u2).size + u3.size) := by rw [ByteArray.size_append, ByteArray.size_append]; omega
                            have ha4 : ¬ (9223372036854775807 < (sj ++ u1 ++ u2 ++ u3).size + u4.size) := by rw [ByteArray.size_append, ByteArray.size_append, ByteArray.size_append]; omega
                            have hb2 : ¬ (9223372036854775807 < sj.size + u1.size + u2.size) := by omega
                            have hb3 : ¬ (9223372036854775807 < sj.size + u1.size + u2.size + u3.size) := by omega
                            have hb4 : ¬ (9223372036854775807 < sj.size + u1.size + u2.size + u3.size + u4.size) := by omega
                            go_upto_region 27 with (fail)
                            have kS := hSr.alloc (.cells (stC ⟨x0, x1, x2, x3, x4, x5, x6⟩ (.slice A6 n6 c6)) 51)
                            have kX := StepAt.new wr ⟨x0, x1, x2, x3, x4, x5, x6⟩ (.slice A6 n6 c6)
                            have hbx : Below wr.heap.size wr (wr.alloc (.cells (stC ⟨x0, x1, x2, x3, x4, x5, x6⟩ (.slice A6 n6 c6)) 51)) := below_alloc (Below.refl _ _) _
                            dsimp only [stC] at kS kX hbx
                            have hsz : wr.heap.size ≤ (wr.alloc (.cells #[.int .u8 x0, .int .i64 x1, .int .i64 x2, .int .i64 x3, .int .i64 x4, .string x5, .slice A6 n6 c6] 51)).heap.size := hbx.size
                            have hmx : ∀ W, Below (wr.alloc (.cells #[.int .u8 x0, .int .i64 x1, .int .i64 x2, .int .i64 x3, .int .i64 x4, .string x5, .slice A6 n6 c6] 51)).heap.size (wr.alloc (.cells #[.int .u8 x0, .int .i64 x1, .int .i64 x2, .int .i64 x3, .int .i64 x4, .string x5, .slice A6 n6 c6] 51)) W → Below wr.heap.size wr W := fun W hW => hbx.trans (hW.mono hsz)
                            have HMX := Aid.hide hmx
                            clear hmx hbx hsz
                            generalize wr.alloc (.cells #[.int .u8 x0, .int .i64 x1, .int .i64 x2, .int .i64 x3, .int .i64 x4, .string x5, .slice A6 n6 c6] 51) = wx at *
                            generalize wr.heap.size = h at kX ⊢
                            clear k0 k1 k2 k3 k4 k5 k6 k7 k8 k9
                            have hu9 : Try.prog.underlying 9 = some (.string) := by kernel_rfl
                            have hx0w : IntKind.i64.wrap x0 = x0 := IntWalk.i64_in _ (by omega)
                            refine Reg.wp_region_inv' (n := 160) (specs27 h sj u1 u2 u3 u4 x0 x1 x2 x3 x4 x5 A6 n6 c6) (by kernel_rfl) (by decide +kernel) rfl (specs27_stable _ _ _ _ _ _ _ _ _ _ _ _ _ _ _) ⟨?_, ?_, ?_, ?_, ?_, ?_, ?_, ?_, ?_, ?_, ?_, ?_, ?_, ?_, ?_, ?_, ?_, ?_, ?_, ?_, ?_, ?_, ?_, ?_, ?_, ?_, ?_, ?_, ?_, ?_, trivial⟩ ?_
                            · intro li b W hr hI K hK
                              have e0 : b.eval (.tmp 5) = .string sj := hI.get_old hr 5 (by decide +kernel)
                              exact Reg.op_value (v := .string sj) (w' := W) (by simp only [execOp, e0]; rfl) (hK _ _ rfl (Below.refl _ _))
                            · intro li b W hr hI K hK
                              have e0 : b.eval (.tmp 8) = p27 h 0 := hI.get_old hr 8 (by decide +kernel)
                              exact Reg.op_value (v := p27 h 0) (w' := W) (by simp only [execOp, e0]; first | rfl | (simp [p27, go_sem]; done)) (hK _ _ rfl (Below.refl _ _))
                            · intro li b W hr hI K hK
                              have e0 : b.eval (.tmp 131) = p27 h 0 := hI.get_new hr 131 1 (by decide +kernel)
                              have kc := (StepAt.below kX (Reg.below_dr hI.below)).sev.s0
                              exact Reg.op_value (v := .int .u8 x0) (w' := W) (by simp only [execOp, e0]; simp [p27, go_sem, kc]) (hK _ _ rfl (Below.refl _ _))
                            · intro li b W hr hI K hK
                              have e0 : b.eval (.tmp 132) = .int .u8 x0 := hI.get_new hr 132 2 (by decide +kernel)
                              exact Reg.op_value (v := .int .i64 x0) (w' := W) (by simp only [execOp, e0]; simp [go_sem, hx0w]) (hK _ _ rfl (Below.refl _ _))
                            · intro li b W hr hI K hK
                              have e0 : b.eval (.tmp 8) = p27 h 0 := hI.get_old hr 8 (by decide +kernel)
                              exact Reg.op_value (v := p27 h 1) (w' := W) (by simp only [execOp, e0]; first | rfl | (simp [p27, go_sem]; done)) (hK _ _ rfl (Below.refl _ _))
                            · intro li b W hr hI K hK
                              have e0 : b.eval (.tmp 134) = p27 h 1 := hI.get_new hr 134 4 (by decide +kernel)
                              have kc := (StepAt.below kX (Reg.below_dr hI.below)).sev.s1
                              exact Reg.op_value (v := .int .i64 x1) (w' := W) (by simp only [execOp, e0]; simp [p27, go_sem, kc]) (hK _ _ rfl (Below.refl _ _))
                            · intro li b W hr hI K hK
                              have e0 : b.eval (.tmp 8) = p27 h 0 := hI.get_old hr 8 (by decide +kernel)
                              exact Reg.op_value (v := p27 h 2) (w' := W) (by simp only [execOp, e0]; first | rfl | (simp [p27, go_sem]; done)) (hK _ _ rfl (Below.refl _ _))
                            · intro li b W hr hI K hK
                              have e0 : b.eval (.tmp 136) = p27 h 2 := hI.get_new hr 136 6 (by decide +kernel)
                              have kc := (StepAt.below kX (Reg.below_dr hI.below)).sev.s2
                              exact Reg.op_value (v := .int .i64 x2) (w' := W) (by simp only [execOp, e0]; simp [p27, go_sem, kc]) (hK _ _ rfl (Below.refl _ _))
                            · intro li b W hr hI K hK
                              have e0 : b.eval (.tmp 8) = p27 h 0 := hI.get_old hr 8 (by decide +kernel)
                              exact Reg.op_value (v := p27 h 3) (w' := W) (by simp only [execOp, e0]; first | rfl | (simp [p27, go_sem]; done)) (hK _ _ rfl (Below.refl _ _))
                            · intro li b W hr hI K hK
                              have e0 : b.eval (.tmp 138) = p27 h 3 := hI.get_new hr 138 8 (by decide +kernel)
                              have kc := (StepAt.below kX (Reg.below_dr hI.below)).sev.s3
                              exact Reg.op_value (v := .int .i64 x3) (w' := W) (by simp only [execOp, e0]; simp [p27, go_sem, kc]) (hK _ _ rfl (Below.refl _ _))
                            · intro li b W hr hI K hK
                              have e0 : b.eval (.tmp 8) = p27 h 0 := hI.get_old hr 8 (by decide +kernel)
                              exact Reg.op_value (v := p27 h 4) (w' := W) (by simp only [execOp, e0]; first | rfl | (simp [p27, go_sem]; done)) (hK _ _ rfl (Below.refl _ _))
                            · intro li b W hr hI K hK
                              have e0 : b.eval (.tmp 140) = p27 h 4 := hI.get_new hr 140 10 (by decide +kernel)
                              have kc := (StepAt.below kX (Reg.below_dr hI.below)).sev.s4
                              exact Reg.op_value (v := .int .i64 x4) (w' := W) (by simp only [execOp, e0]; simp [p27, go_sem, kc]) (hK _ _ rfl (Below.refl _ _))
                            · intro li b W hr hI K hK
                              have e0 : b.eval (.tmp 133) = .int .i64 x0 := hI.get_new hr 133 3 (by decide +kernel)
                              have e1 : b.eval (.tmp 135) = .int .i64 x1 := hI.get_new hr 135 5 (by decide +kernel)
                              have e2 : b.eval (.tmp 137) = .int .i64 x2 := hI.get_new hr 137 7 (by decide +kernel)
                              have e3 : b.eval (.tmp 139) = .int .i64 x3 := hI.get_new hr 139 9 (by decide +kernel)
                              have e4 : b.eval (.tmp 141) = .int .i64 x4 := hI.get_new hr 141 11 (by decide +kernel)
                              exact Reg.op_value (v := .slice (some ⟨W.heap.size, 0, none⟩) 5 5) (w' := W.alloc (.cells #[.int .i64 x0, .int .i64 x1, .int .i64 x2, .int .i64 x3, .int .i64 x4] 3)) (Reg.run_build5 rfl e0 e1 e2 e3 e4) (hK _ _ ⟨W.heap.size, rfl, blk_new rfl⟩ (below_alloc (Below.refl _ _) _))
                            · intro li b W hr hI K hK
                              obtain ⟨nb, e0, hnb⟩ := hI.get_new hr 142 12 (by decide +kernel)
                              simp only [List.size_toArray, List.length_cons, List.length_nil, Nat.zero_add, Nat.reduceAdd] at e0
                              exact Reg.op_call (w' := W) (Reg.run_call1 Reg.cf36 rfl e0) ((Aid.unhide F3).1 _ _ hnb) (fun w1 hb1 => hK _ _ rfl hb1)
                            · intro li b W hr hI K hK
                              have e0 : b.eval (.tmp 130) = .string sj := hI.get_new hr 130 0 (by decide +kernel)
                              have e1 : b.eval (.tmp 143) = .string u1 := hI.get_new hr 143 13 (by decide +kernel)
                              exact Reg.op_value (v := .string (sj ++ u1)) (w' := W) (Reg.run_add rfl e0 e1 (Nat.le_of_not_lt ha1)) (hK _ _ rfl (Below.refl _ _))
                            · intro li b W hr hI K hK
                              have e0 : b.eval (.tmp 8) = p27 h 0 := hI.get_old hr 8 (by decide +kernel)
                              exact Reg.op_value (v := p27 h 5) (w' := W) (by simp only [execOp, e0]; first | rfl | (simp [p27, go_sem]; done)) (hK _ _ rfl (Below.refl _ _))
                            · intro li b W hr hI K hK
                              have e0 : b.eval (.tmp 145) = p27 h 5 := hI.get_new hr 145 15 (by decide +kernel)
                              have kc := (StepAt.below kX (Reg.below_dr hI.below)).sev.s5
                              exact Reg.op_value (v := .string x5) (w' := W) (by simp only [execOp, e0]; simp [p27, go_sem, kc]) (hK _ _ rfl (Below.refl _ _))
                            · intro li b W hr hI K hK
                              have e0 : b.eval (.tmp 146) = .string x5 := hI.get_new hr 146 16 (by decide +kernel)
                              exact Reg.op_call (w' := W) (Reg.run_call1 Reg.cf37 rfl e0) ((Aid.unhide F3).2.1 _) (fun w1 hb1 => hK _ _ rfl hb1)
                            · intro li b W hr hI K hK
                              have e0 : b.eval (.tmp 144) = .string (sj ++ u1) := hI.get_new hr 144 14 (by decide +kernel)
                              have e1 : b.eval (.tmp 147) = .string u2 := hI.get_new hr 147 17 (by decide +kernel)
                              exact Reg.op_value (v := .string (sj ++ u1 ++ u2)) (w' := W) (Reg.run_add rfl e0 e1 (Nat.le_of_not_lt ha2)) (hK _ _ rfl (Below.refl _ _))
                            · intro li b W hr hI K hK
                              have e0 : b.eval (.tmp 8) = p27 h 0 := hI.get_old hr 8 (by decide +kernel)
                              exact Reg.op_value (v := p27 h 6) (w' := W) (by simp only [execOp, e0]; first | rfl | (simp [p27, go_sem]; done)) (hK _ _ rfl (Below.refl _ _))
                            · intro li b W hr hI K hK
                              have e0 : b.eval (.tmp 149) = p27 h 6 := hI.get_new hr 149 19 (by decide +kernel)
                              have kc := (StepAt.below kX (Reg.below_dr hI.below)).sev.s6
                              exact Reg.op_value (v := .slice A6 n6 c6) (w' := W) (by simp only [execOp, e0]; simp [p27, go_sem, kc]) (hK _ _ rfl (Below.refl _ _))
                            · intro li b W hr hI K hK
                              have e0 : b.eval (.tmp 150) = .slice A6 n6 c6 := hI.get_new hr 150 20 (by decide +kernel)
                              exact Reg.op_value (v := .int .i64 n6) (w' := W) (Reg.run_len rfl rfl e0) (hK _ _ rfl (Below.refl _ _))
                            · intro li b W hr hI K hK
                              have e0 : b.eval (.tmp 151) = .int .i64 n6 := hI.get_new hr 151 21 (by decide +kernel)
                              exact Reg.op_value (v := .slice (some ⟨W.heap.size, 0, none⟩) 1 1) (w' := W.alloc (.cells #[.int .i64 n6] 3)) (Reg.run_build1 rfl e0) (hK _ _ ⟨W.heap.size, rfl, blk_new rfl⟩ (below_alloc (Below.refl _ _) _))
                            · intro li b W hr hI K hK
                              obtain ⟨nb, e0, hnb⟩ := hI.get_new hr 152 22 (by decide +kernel)
                              simp only [List.size_toArray, List.length_cons, List.length_nil, Nat.zero_add, Nat.reduceAdd] at e0
                              exact Reg.op_call (w' := W) (Reg.run_call1 Reg.cf36 rfl e0) ((Aid.unhide F3).2.2.1 _ _ hnb) (fun w1 hb1 => hK _ _ rfl hb1)
                            · intro li b W hr hI K hK
                              have e0 : b.eval (.tmp 148) = .string (sj ++ u1 ++ u2) := hI.get_new hr 148 18 (by decide +kernel)
                              have e1 : b.eval (.tmp 153) = .string u3 := hI.get_new hr 153 23 (by decide +kernel)
                              exact Reg.op_value (v := .string (sj ++ u1 ++ u2 ++ u3)) (w' := W) (Reg.run_add rfl e0 e1 (Nat.le_of_not_lt ha3)) (hK _ _ rfl (Below.refl _ _))
                            · intro li b W hr hI K hK
                              have e0 : b.eval (.tmp 8) = p27 h 0 := hI.get_old hr 8 (by decide +kernel)
                              exact Reg.op_value (v := p27 h 6) (w' := W) (by simp only [execOp, e0]; first | rfl | (simp [p27, go_sem]; done)) (hK _ _ rfl (Below.refl _ _))
                            · intro li b W hr hI K hK
                              have e0 : b.eval (.tmp 155) = p27 h 6 := hI.get_new hr 155 25 (by decide +kernel)
                              have kc := (StepAt.below kX (Reg.below_dr hI.below)).sev.s6
                              exact Reg.op_value (v := .slice A6 n6 c6) (w' := W) (by simp only [execOp, e0]; simp [p27, go_sem, kc]) (hK _ _ rfl (Below.refl _ _))
                            · intro li b W hr hI K hK
                              have e0 : b.eval (.tmp 156) = .slice A6 n6 c6 := hI.get_new hr 156 26 (by decide +kernel)
                              exact Reg.op_call (w' := W) (Reg.run_call1 Reg.cf36 rfl e0) ((Aid.unhide F3).2.2.2.1 _ (Aid.unhide HMX _ (Reg.below_dr hI.below))) (fun w1 hb1 => hK _ _ rfl hb1)
                            · intro li b W hr hI K hK
                              have e0 : b.eval (.tmp 154) = .string (sj ++ u1 ++ u2 ++ u3) := hI.get_new hr 154 24 (by decide +kernel)
                              have e1 : b.eval (.tmp 157) = .string u4 := hI.get_new hr 157 27 (by decide +kernel)
                              exact Reg.op_value (v := .string (sj ++ u1 ++ u2 ++ u3 ++ u4)) (w' := W) (Reg.run_add rfl e0 e1 (Nat.le_of_not_lt ha4)) (hK _ _ rfl (Below.refl _ _))
                            · intro li b W hr hI K hK
                              have e0 : b.eval (.tmp 158) = .string (sj ++ u1 ++ u2 ++ u3 ++ u4) := hI.get_new hr 158 28 (by decide +kernel)
                              exact Reg.op_value (v := .string (sj ++ u1 ++ u2 ++ u3 ++ u4)) (w' := W) (by simp only [execOp, e0]; rfl) (hK _ _ rfl (Below.refl _ _))
                            · intro vals W hv hbW
                              have hbX := Reg.below_dr hbW
                              have v29 : vals 29 = .string (sj ++ u1 ++ u2 ++ u3 ++ u4) := hv 29 (by decide)
                              simp only [Reg.fin, Act.put, List.setIfInBounds_toArray, List.set_cons_succ, List.set_cons_zero, Nat.zero_add, Nat.reduceAdd, v29]
                              have kE := kS.below hbX
                              clear hv hbW hbX v29 kX
                              go_wp2_with (fail)
                              go_roundw
                              case rel => exact ⟨j + 1, sj ++ u1 ++ u2 ++ u3 ++ u4, by go_num, by omega, rfl, (Aid.unhide F3).2.2.2.2, kE⟩
                              case measure => simp [intOf]; omega
                          · obtain rfl : j = a.f7.length := by omega
                            go_wp2_with (fail)
                            go_meet
                            refine ⟨congrArg Value.string ?_, hSr⟩
                            rw [Aid.unhide E7, Aid.unhide SJ, List.take_length]
                            rfl
                    case rest =>
                      obtain ⟨rfl, hS4⟩ := hcut
                      clear hS3 hzt
                      go_wp2_with (fail)
                      go_ret
                      refine ⟨congrArg (fun x => Ending.returned (.string x)) ?_, by rw [Aid.unhide HG]; exact hS4.s.hB⟩
                      rw [Aid.unhide S7, Aid.unhide S6, Aid.unhide S5, Aid.unhide S4, Aid.unhide S3, Aid.unhide S2, Aid.unhide S1, Aid.unhide S0]
                      unfold oneB
                      simp only [mk_append]
end Go.Proofs.Ytppgbahiolhgbaa
