/- Contracts and plain laws over the seat, laid together (group 30 of what the claim needs). -/
import Derived.Test.YtppgbahiolhgbaaH29
import Derived.Deep.DeepCutAuto
set_option linter.unusedVariables false
set_option linter.unusedSimpArgs false
namespace Go.Proofs.Ytppgbahiolhgbaa
open Go.RowKit Go.Proofs.YtppgbahiolhgbaaW.PrintWords Sp
open PScriptReads
abbrev actC (a : S37) (A4 : Option Addr) (c4 : Nat) (A9 : Option Addr) (c9 : Nat) : Array Value :=
  #[.int .u8 a.f0, .int .i64 a.f1, .int .i64 a.f2, .int .i64 a.f3, .slice A4 a.f4.length c4, .int .i64 a.f5.f0, .int .i64 a.f5.f1, .int .i64 a.f5.f2, .bool a.f6, .slice A9 a.f7.length c9]
def ActAt (w : World) (g : Nat) (a : S37) (A4 : Option Addr) (c4 : Nat) (A9 : Option Addr) (c9 : Nat) : Prop := w.heap[g]? = some (.cells (actC a A4 c4 A9 c9) 37 (0, 0))
section
variable {w : World} {g : Nat} {a : S37} {A4 : Option Addr} {c4 : Nat} {A9 : Option Addr} {c9 : Nat}
theorem ActAt.below {w1 : World} (h : ActAt w g a A4 c4 A9 c9) (hb : Below w.heap.size w w1) : ActAt w1 g a A4 c4 A9 c9 := (hb.block g (blk_lt h)).trans h
theorem ActAt.new (w : World) : ActAt (w.alloc (.cells (actC a A4 c4 A9 c9) 37)) w.heap.size a A4 c4 A9 c9 := by unfold ActAt; simpa using heap_alloc_new w _
end
structure Ten (w : World) (g : Nat) (a : S37) (A4 : Option Addr) (c4 : Nat) (A9 : Option Addr) (c9 : Nat) : Prop where
  k0 : w.cell? ⟨g, 0, none⟩ = some (.int .u8 a.f0)
  k1 : w.cell? ⟨g, 1, none⟩ = some (.int .i64 a.f1)
  k2 : w.cell? ⟨g, 2, none⟩ = some (.int .i64 a.f2)
  k3 : w.cell? ⟨g, 3, none⟩ = some (.int .i64 a.f3)
  k4 : w.cell? ⟨g, 4, none⟩ = some (.slice A4 a.f4.length c4)
  k5 : w.cell? ⟨g, 5, none⟩ = some (.int .i64 a.f5.f0)
  k6 : w.cell? ⟨g, 6, none⟩ = some (.int .i64 a.f5.f1)
  k7 : w.cell? ⟨g, 7, none⟩ = some (.int .i64 a.f5.f2)
  k8 : w.cell? ⟨g, 8, none⟩ = some (.bool a.f6)
  k9 : w.cell? ⟨g, 9, none⟩ = some (.slice A9 a.f7.length c9)
theorem ActAt.ten {w : World} {g : Nat} {a : S37} {A4 : Option Addr} {c4 : Nat} {A9 : Option Addr} {c9 : Nat} (h : ActAt w g a A4 c4 A9 c9) : Ten w g a A4 c4 A9 c9 :=
  ⟨(blk_cell h 0).trans rfl, (blk_cell h 1).trans rfl, (blk_cell h 2).trans rfl, (blk_cell h 3).trans rfl, (blk_cell h 4).trans rfl, (blk_cell h 5).trans rfl, (blk_cell h 6).trans rfl, (blk_cell h 7).trans rfl, (blk_cell h 8).trans rfl, (blk_cell h 9).trans rfl⟩
structure St (w : World) (g : Nat) (a : S37) (A4 : Option Addr) (c4 : Nat) (A9 : Option Addr) (c9 : Nat) (W : World) : Prop where
  hA : ActAt W g a A4 c4 A9 c9
  hB : Below g w W
section
variable {w : World} {g : Nat} {a : S37} {A4 : Option Addr} {c4 : Nat} {A9 : Option Addr} {c9 : Nat} {W : World}
theorem St.lt (h : St w g a A4 c4 A9 c9 W) : g < W.heap.size := blk_lt h.hA
theorem St.below {w1 : World} (h : St w g a A4 c4 A9 c9 W) (hb : Below W.heap.size W w1) : St w g a A4 c4 A9 c9 w1 := ⟨h.hA.below hb, h.hB.trans (hb.mono (Nat.le_of_lt h.lt))⟩
theorem St.alloc (h : St w g a A4 c4 A9 c9 W) (o : Obj) : St w g a A4 c4 A9 c9 (W.alloc o) := h.below (below_alloc (Below.refl _ _) o)
theorem St.ten (h : St w g a A4 c4 A9 c9 W) : Ten W g a A4 c4 A9 c9 := h.hA.ten
end
theorem C_lit (W : World) (e : TypeId) (k : IntKind) (xs : List Int) (h : xs.length ≤ 1000) : (Kd.int k).C (W.alloc (.cells (nums k xs).toArray e)) (some ⟨W.heap.size, 0, none⟩) xs.length xs := by
  obtain ⟨A, c, hv, hr⟩ := own_reads (own_lit W W.heap.size e k xs (Nat.le_refl _) (by omega))
  injection hv with h1 h2 h3
  subst h1
  exact Kd.C_of_reads (enc := Value.int k) (d := (0 : Int)) (h1 := fun _ => rfl) hr
theorem one24 (n : Int) (W : World) : Calls Try.prog 24 #[.slice (some ⟨W.heap.size, 0, none⟩) 1 1] (W.alloc (.cells #[.int .i64 n] 3)) fun e w' => e = .returned (.bool (numOk n)) ∧ Below (W.alloc (.cells #[.int .i64 n] 3)).heap.size (W.alloc (.cells #[.int .i64 n] 3)) w' := by
  have h := num24 (some ⟨W.heap.size, 0, none⟩) 1 [n] (W.alloc (.cells #[.int .i64 n] 3)) (C_lit W 3 .i64 [n] (by simp)) (by simp) (by simp)
  simpa using h
theorem four24 (a b c d : Int) (W : World) : Calls Try.prog 24 #[.slice (some ⟨W.heap.size, 0, none⟩) 4 4] (W.alloc (.cells #[.int .i64 a, .int .i64 b, .int .i64 c, .int .i64 d] 3)) fun e w' => e = .returned (.bool (numOk a && (numOk b && (numOk c && numOk d)))) ∧ Below (W.alloc (.cells #[.int .i64 a, .int .i64 b, .int .i64 c, .int .i64 d] 3)).heap.size (W.alloc (.cells #[.int .i64 a, .int .i64 b, .int .i64 c, .int .i64 d] 3)) w' := by
  have h := num24 (some ⟨W.heap.size, 0, none⟩) 4 [a, b, c, d] (W.alloc (.cells #[.int .i64 a, .int .i64 b, .int .i64 c, .int .i64 d] 3)) (C_lit W 3 .i64 [a, b, c, d] (by simp)) (by simp) (by simp)
  simpa using h
def errC (b : Bool) : Int := if b = true then 0 else 2
set_option maxRecDepth 100000 in
set_option maxHeartbeats 8000000 in
theorem check13 (a : S37) (A4 : Option Addr) (c4 : Nat) (A9 : Option Addr) (c9 : Nat) (w : World) (g4 : k48.C w A4 a.f4.length a.f4) (g9 : k51.C w A9 a.f7.length a.f7)
    (z4 : a.f4.length ≤ 4611686018427387904) (z9 : a.f7.length ≤ 4611686018427387904) (y4 : ∀ x ∈ a.f4, x.f1.size ≤ 4611686018427387904) (y9 : ∀ x ∈ a.f7, x.f5.size ≤ 4611686018427387904 ∧ x.f6.length ≤ 4611686018427387904) :
    Calls Try.prog 13 #[.agg (actC a A4 c4 A9 c9)] w fun e w' => e = .returned (.int .i64 (errC (mayAct a))) ∧ Below w.heap.size w w' := by
  have h22 := fun W => bare22 a.f0 a.f1 a.f2 a.f3 A4 a.f4.length c4 a.f5.f0 a.f5.f1 a.f5.f2 a.f6 A9 a.f7.length c9 W
  obtain ⟨bb, hbb⟩ : ∃ b, b = bareB a.f0 a.f1 a.f2 a.f3 a.f4.length a.f5.f0 a.f5.f1 a.f5.f2 a.f6 a.f7.length := ⟨_, rfl⟩
  obtain ⟨b1, hb1⟩ : ∃ b, b = orgB a.f1 := ⟨_, rfl⟩
  obtain ⟨b2, hb2⟩ : ∃ b, b = orgB a.f2 := ⟨_, rfl⟩
  obtain ⟨b3, hb3⟩ : ∃ b, b = numOk a.f3 := ⟨_, rfl⟩
  rw [← hbb] at h22
  have h1 := fun W => org23 a.f1 W
  rw [← hb1] at h1
  have h2 := fun W => org23 a.f2 W
  rw [← hb2] at h2
  have h3 := fun W => one24 a.f3 W
  rw [← hb3] at h3
  have hM : mayHead a = (decide (1 ≤ a.f0 ∧ a.f0 ≤ 10) && bb && b1 && b2 && b3 && decide (a.f4.length ≤ 6) && decide (a.f7.length ≤ 64)) := by
    unfold mayHead bareA; rw [hbb, hb1, hb2, hb3]
  have F := Aid.hide (And.intro h22 (And.intro h1 (And.intro h2 (And.intro h3 hM))))
  have G := Aid.hide (And.intro g4 (And.intro g9 (And.intro y4 y9)))
  clear h22 h1 h2 h3 hM hbb hb1 hb2 hb3 g4 g9 y4 y9
  go_enter Try.func13, Try.ntmps13
  go_upto_region 1 with (fail)
  have hS : St w w.heap.size a A4 c4 A9 c9 (w.alloc (.cells (actC a A4 c4 A9 c9) 37)) := ⟨ActAt.new w, below_alloc (Below.refl _ _) _⟩
  generalize hw0 : w.alloc (.cells (actC a A4 c4 A9 c9) 37) = w0 at *
  clear hw0
  generalize hg : w.heap.size = g at *
  have HG := Aid.hide hg
  clear hg
  obtain ⟨k0, k1, k2, k3, k4, k5, k6, k7, k8, k9⟩ := hS.ten
  go_cut [3] (fun x wx => x = .bool (mayHead a) ∧ St w g a A4 c4 A9 c9 wx)
  case first =>
    go_wp2_with (first
      | (go_at_call 22; refine ((Aid.unhide F).1 _).mono ?_; rintro e1 w1 ⟨rfl, hb1⟩; have hS1 := St.below (by assumption) hb1; obtain ⟨k0, k1, k2, k3, k4, k5, k6, k7, k8, k9⟩ := hS1.ten; clear hb1)
      | (go_at_call_of 23 a.f1; refine ((Aid.unhide F).2.1 _).mono ?_; rintro e1 w2 ⟨rfl, hb1⟩; have hS1 := St.below (by assumption) hb1; obtain ⟨k0, k1, k2, k3, k4, k5, k6, k7, k8, k9⟩ := hS1.ten; clear hb1)
      | (go_at_call_of 23 a.f2; refine ((Aid.unhide F).2.2.1 _).mono ?_; rintro e1 w3 ⟨rfl, hb1⟩; have hS1 := St.below (by assumption) hb1; obtain ⟨k0, k1, k2, k3, k4, k5, k6, k7, k8, k9⟩ := hS1.ten; clear hb1)
      | (go_at_call 24; refine ((Aid.unhide F).2.2.2.1 _).mono ?_; rintro e1 w4 ⟨rfl, hb1⟩; have hS1 := St.below (St.alloc (by assumption) _) hb1; obtain ⟨k0, k1, k2, k3, k4, k5, k6, k7, k8, k9⟩ := hS1.ten; clear hb1))
    all_goals
      go_meet
      refine ⟨congrArg Value.bool ?_, by assumption⟩
      rw [(Aid.unhide F).2.2.2.2, Bool.eq_iff_iff]
      first | (simp [*]; done) | (simp [*]; omega)
  case rest =>
    obtain ⟨rfl, hS⟩ := hcut
    obtain ⟨k0, k1, k2, k3, k4, k5, k6, k7, k8, k9⟩ := hS.ten
    have h25 := fun W => txn25 a.f5.f0 a.f5.f1 a.f5.f2 W
    have hT : (mayHead a && mayTxnA a) = if mayHead a = true ∧ (a.f0 = 2 ∨ a.f0 = 9) then txnB a.f5.f0 a.f5.f1 a.f5.f2 else mayHead a := by
      unfold mayTxnA
      cases mayHead a <;> by_cases h : a.f0 = 2 ∨ a.f0 = 9 <;> simp [h]
    obtain ⟨m1, hm1⟩ : ∃ b, b = (mayHead a && mayTxnA a) := ⟨_, rfl⟩
    obtain ⟨tb, htb⟩ : ∃ b, b = txnB a.f5.f0 a.f5.f1 a.f5.f2 := ⟨_, rfl⟩
    rw [← hm1, ← htb] at hT
    rw [← htb] at h25
    obtain ⟨m0, hm0⟩ : ∃ b, b = mayHead a := ⟨_, rfl⟩
    rw [← hm0] at hT ⊢
    have F2 := Aid.hide (And.intro h25 (And.intro hT (And.intro hm1 (And.intro htb hm0))))
    clear h25 hT hm1 htb hm0 F
    go_upto_region 2 with (fail)
    go_cut [3, 58] (fun z x wx => z = .bool m0 ∧ x = .bool (decide (m0 = true ∧ (a.f0 = 2 ∨ a.f0 = 9))) ∧ St w g a A4 c4 A9 c9 wx)
    case first =>
      go_wp2_with (fail)
      all_goals
        go_meet
        refine ⟨congrArg Value.bool ?_, congrArg Value.bool ?_, by assumption⟩
        · first | rfl | (symm; assumption) | simp [*]
        · rw [Bool.eq_iff_iff]
          first | (simp [*]; done) | (simp [*]; omega)
    case rest =>
      obtain ⟨rfl, rfl, hS⟩ := hcut
      obtain ⟨k0, k1, k2, k3, k4, k5, k6, k7, k8, k9⟩ := hS.ten
      obtain ⟨q, hq⟩ : ∃ b, b = decide (m0 = true ∧ (a.f0 = 2 ∨ a.f0 = 9)) := ⟨_, rfl⟩
      rw [← hq]
      have Hq := Aid.hide hq
      clear hq
      go_upto_if 58 with (fail)
      go_cut [3] (fun z wx => z = .bool m1 ∧ St w g a A4 c4 A9 c9 wx)
      case first =>
        go_wp2_with (go_at_call 25; refine ((Aid.unhide F2).1 _).mono ?_; rintro e1 w1 ⟨rfl, hb1⟩; have hS1 := St.below (by assumption) hb1; clear hb1)
        all_goals
          go_meet
          refine ⟨congrArg Value.bool ?_, by assumption⟩
          rw [(Aid.unhide F2).2.1]
          have := Aid.unhide Hq
          simp_all
      case rest =>
        obtain ⟨rfl, hS⟩ := hcut
        clear k0 k1 k2 k3 k4 k5 k6 k7 k8 k9
        obtain ⟨k0, k1, k2, k3, k4, k5, k6, k7, k8, k9⟩ := hS.ten
        obtain ⟨g4, g9, y4, y9⟩ := Aid.unhide G
        have G4 := Aid.hide g4
        have Y4 := Aid.hide y4
        have G9 := Aid.hide g9
        have Y9 := Aid.hide y9
        clear g4 g9 y4 y9
        go_wp2_with (fail)
        go_loopw [3, 65] (fun z i wr => ∃ j : Nat, i = .int .i64 (j : Int) ∧ j ≤ a.f4.length ∧ z = .bool (m1 && (a.f4.take j).all giveB) ∧ St w g a A4 c4 A9 c9 wr) (fun _ i _ => a.f4.length - (intOf i).toNat)
        case atStart => exact ⟨0, rfl, by omega, by simp, hS⟩
        case round =>
          obtain ⟨j, rfl, hj, rfl, hSr⟩ := hrel
          clear k0 k1 k2 k3 k4 k5 k6 k7 k8 k9 hS
          by_cases hlt : j < a.f4.length
          · have hbe : Below w.heap.size w wr := by rw [Aid.unhide HG]; exact hSr.hB
            obtain ⟨ad, hA, e0, e1⟩ := at_T48 (Kd.C_below (Aid.unhide G4) hbe) (j : Int) (by omega) (by omega)
            have hm : rd_T48 a.f4 (j : Int) ∈ a.f4 := by
              unfold rd_T48; rw [Int.toNat_natCast, List.getD_eq_getElem?_getD, List.getElem?_eq_getElem hlt]; exact List.getElem_mem hlt
            have htk : (a.f4.take (j + 1)).all giveB = ((a.f4.take j).all giveB && giveB (rd_T48 a.f4 (j : Int))) := by
              rw [List.take_succ_eq_append_getElem hlt, List.all_append]
              unfold rd_T48; rw [Int.toNat_natCast, List.getD_eq_getElem?_getD, List.getElem?_eq_getElem hlt]; simp
            have hsz := Aid.unhide Y4 _ hm
            have hge : giveB (rd_T48 a.f4 (j : Int)) = (orgB (rd_T48 a.f4 (j : Int)).f0 && (tcheck (L (rd_T48 a.f4 (j : Int)).f1) == 0)) := rfl
            rw [hge] at htk
            clear hge
            generalize rd_T48 a.f4 (j : Int) = x at *
            rw [Int.toNat_natCast] at e0 e1
            have h23 := fun W => org23 x.f0 W
            have h26 := fun W => check26 x.f1 W hsz
            obtain ⟨tc, htc⟩ : ∃ n, n = tcheck (L x.f1) := ⟨_, rfl⟩
            obtain ⟨ob, hob⟩ : ∃ b, b = orgB x.f0 := ⟨_, rfl⟩
            obtain ⟨bj, hbj⟩ : ∃ b, b = (m1 && (a.f4.take j).all giveB) := ⟨_, rfl⟩
            rw [← htc] at h26 htk
            rw [← hob] at h23 htk
            rw [← hbj]
            have hnext : (m1 && (a.f4.take (j + 1)).all giveB) = (bj && (ob && (tc == 0))) := by rw [htk, hbj, Bool.and_assoc]
            obtain ⟨x0, x1⟩ := x
            simp only at e0 e1 h23 h26
            have F3 := Aid.hide (And.intro h23 (And.intro h26 hnext))
            clear h23 h26 hnext htc hob hbj htk hm hsz hbe
            subst hA
            have hnn : (0 : Int) ≤ (tc : Int) := by omega
            go_wp2_with (first
              | (go_at_call 23; refine ((Aid.unhide F3).1 _).mono ?_; rintro e1 w1 ⟨rfl, hb1⟩; have hS1 := St.below (St.alloc (by assumption) _) hb1; have kk : w1.cell? ⟨wr.heap.size, 1, none⟩ = some (.string x1) := (hb1.cell (by simp)).trans (by simp [go_sem]))
              | (go_at_call 26; refine ((Aid.unhide F3).2.1 _).mono ?_; rintro e1 w2 ⟨rfl, hb2⟩; have hS2 := St.below (by assumption) hb2))
            all_goals
              go_roundw
              case rel =>
                refine ⟨j + 1, by go_num, by omega, congrArg Value.bool ?_, by first | assumption | exact St.alloc (by assumption) _⟩
                rw [(Aid.unhide F3).2.2, Bool.eq_iff_iff]
                first | (simp [*]; done) | (simp [*]; omega)
              case measure => simp [intOf]; omega
          · obtain rfl : j = a.f4.length := by omega
            rw [List.take_length]
            obtain ⟨m2, hm2⟩ : ∃ b, b = (m1 && a.f4.all giveB) := ⟨_, rfl⟩
            rw [← hm2]
            have M2 := Aid.hide hm2
            clear hm2
            obtain ⟨k0, k1, k2, k3, k4, k5, k6, k7, k8, k9⟩ := hSr.ten
            go_wp2_with (fail)
            go_loopw [3, 85] (fun z i wr => ∃ j : Nat, i = .int .i64 (j : Int) ∧ j ≤ a.f7.length ∧ z = .bool (m2 && (a.f7.take j).all stepB) ∧ St w g a A4 c4 A9 c9 wr) (fun _ i _ => a.f7.length - (intOf i).toNat)
            case atStart => exact ⟨0, rfl, by omega, by simp, hSr⟩
            case round =>
              clear k0 k1 k2 k3 k4 k5 k6 k7 k8 k9 hSr hlt hj
              obtain ⟨j, rfl, hj, rfl, hSr⟩ := hrel
              by_cases hlt : j < a.f7.length
              · have hbe : Below w.heap.size w wr := by rw [Aid.unhide HG]; exact hSr.hB
                obtain ⟨ad, A6, c6, hA, e0, e1, e2, e3, e4, e5, e6, hc6, g6⟩ := at_T51 (Kd.C_below (Aid.unhide G9) hbe) (j : Int) (by omega) (by omega)
                have hm : rd_T51 a.f7 (j : Int) ∈ a.f7 := by
                  unfold rd_T51; rw [Int.toNat_natCast, List.getD_eq_getElem?_getD, List.getElem?_eq_getElem hlt]; exact List.getElem_mem hlt
                have htk : (a.f7.take (j + 1)).all stepB = ((a.f7.take j).all stepB && stepB (rd_T51 a.f7 (j : Int))) := by
                  rw [List.take_succ_eq_append_getElem hlt, List.all_append]
                  unfold rd_T51; rw [Int.toNat_natCast, List.getD_eq_getElem?_getD, List.getElem?_eq_getElem hlt]; simp
                obtain ⟨hs5, hs6⟩ := Aid.unhide Y9 _ hm
                generalize rd_T51 a.f7 (j : Int) = x at *
                rw [Int.toNat_natCast] at e0 e1 e2 e3 e4 e5 e6
                have h4 : ∀ (W : World) (b : Nat), b = W.heap.size → Calls Try.prog 24 #[.slice (some ⟨b, 0, none⟩) 4 4] (W.alloc (.cells #[.int .i64 x.f1, .int .i64 x.f2, .int .i64 x.f3, .int .i64 x.f4] 3)) _ := fun W b hb => by subst hb; exact four24 x.f1 x.f2 x.f3 x.f4 W
                have hL := fun W (hW : Below wr.heap.size wr W) => num24 A6 c6 x.f6 W (Kd.C_below g6 hW) hc6 hs6
                obtain ⟨b4, hb4⟩ : ∃ b, b = (numOk x.f1 && (numOk x.f2 && (numOk x.f3 && numOk x.f4))) := ⟨_, rfl⟩
                obtain ⟨ba, hba⟩ : ∃ b, b = x.f6.all numOk := ⟨_, rfl⟩
                obtain ⟨bj, hbj⟩ : ∃ b, b = (m2 && (a.f7.take j).all stepB) := ⟨_, rfl⟩
                rw [← hb4] at h4
                rw [← hba] at hL
                rw [← hbj]
                have hnext : (m2 && (a.f7.take (j + 1)).all stepB) = (bj && (decide (1 ≤ x.f0 ∧ x.f0 ≤ 9) && b4 && ba && decide (x.f5.size ≤ 1024) && decide (x.f6.length ≤ 32))) := by
                  rw [htk, hbj, hb4, hba]; unfold stepB; simp only [Bool.and_assoc]
                obtain ⟨x0, x1, x2, x3, x4, x5, x6⟩ := x
                simp only at e0 e1 e2 e3 e4 e5 e6 h4 hL hnext hs5 hs6 hc6
                have F3 := Aid.hide (And.intro h4 (And.intro hL hnext))
                clear h4 hL hnext hba hb4 hbj htk hm hbe g6
                subst hA
                go_wp2_with (first
                  | (go_at_call_of 24 A6; refine ((Aid.unhide F3).2.1 _ (by assumption)).mono ?_; rintro e1 w2 ⟨rfl, hb2⟩; have hS2 := St.below (by assumption) hb2; have kk5 : w2.cell? ⟨wr.heap.size, 5, none⟩ = some (.string x5) := (hb2.cell (by omega)).trans (by assumption); have kk6 : w2.cell? ⟨wr.heap.size, 6, none⟩ = some (.slice A6 x6.length c6) := (hb2.cell (by omega)).trans (by assumption))
                  | (go_at_call 24; refine ((Aid.unhide F3).1 _ _ (by simp)).mono ?_; rintro e1 w1 ⟨rfl, hb1⟩; have hS1 := St.below (St.alloc (St.alloc (by assumption) _) _) hb1; have kk5 : w1.cell? ⟨wr.heap.size, 5, none⟩ = some (.string x5) := (hb1.cell (by simp; omega)).trans (by simp [go_sem]); have kk6 : w1.cell? ⟨wr.heap.size, 6, none⟩ = some (.slice A6 x6.length c6) := (hb1.cell (by simp; omega)).trans (by simp [go_sem]); have hbw : Below wr.heap.size wr w1 := (below_alloc (below_alloc (Below.refl _ _) _) _).trans (hb1.mono (by simp; omega)); have hsz1 : wr.heap.size < w1.heap.size := by have := hb1.size; simp at this; omega))
                all_goals
                  go_roundw
                  case rel =>
                    refine ⟨j + 1, by go_num, by omega, congrArg Value.bool ?_, by first | assumption | exact St.alloc (by assumption) _⟩
                    rw [(Aid.unhide F3).2.2, Bool.eq_iff_iff]
                    first | (simp [*]; done) | (simp [*]; omega)
                  case measure => simp [intOf]; omega
              · obtain rfl : j = a.f7.length := by omega
                rw [List.take_length]
                have hfin : mayAct a = (m2 && a.f7.all stepB) := by
                  unfold mayAct; rw [← (Aid.unhide F2).2.2.1, Aid.unhide M2]
                obtain ⟨m3, hm3⟩ : ∃ b, b = (m2 && a.f7.all stepB) := ⟨_, rfl⟩
                rw [← hm3] at hfin ⊢
                have M3 := Aid.hide hfin
                clear hfin hm3
                cases m3 with
                | true =>
                  go_wp2
                  go_ret
                  exact ⟨by rw [Aid.unhide M3]; rfl, by rw [Aid.unhide HG]; exact hSr.hB⟩
                | false =>
                  go_wp2
                  go_ret
                  exact ⟨by rw [Aid.unhide M3]; rfl, by rw [Aid.unhide HG]; exact hSr.hB⟩
end Go.Proofs.Ytppgbahiolhgbaa
