/- Contracts and plain laws over the seat, laid together (group 38 of what the claim needs). -/
import Derived.Test.YtppgbahiolhgbaaJ35
import Derived.Test.YtppgbahiolhgbaaJ37
import Derived.Test.YtppgbahiolhgbaaJ33
import Derived.Defers
import Derived.Recover
import Derived.Laws.Pointers
import Derived.Outline
section
set_option linter.unusedVariables false
set_option linter.unusedSimpArgs false
namespace Go.Proofs.Ytppgbahiolhgbaa
open Go.RowKit Go.Proofs.YtppgbahiolhgbaaW.PrintWords Sp
open PScriptReads
def partsL (d : Int) : List Nat :=
  if d = 1 then [46, 47, 48] else if d = 2 then [46, 49, 50] else if d = 3 ∨ d = 8 then [46] else if d = 4 then [51] else if d = 5 ∨ d = 10 then [46, 52] else if d = 6 ∨ d = 7 then [46, 51] else if d = 9 then [46, 49] else []
abbrev boundV (g T r k : Nat) : Value := .func (.func k) #[formV g T r] #[]
def PartsAt (W : World) (g T r : Nat) (v : Value) (l : List Nat) : Prop :=
  (l = [] ∧ v = .slice none 0 0) ∨ ∃ b, v = .slice (some ⟨b, 0, none⟩) l.length l.length ∧ W.heap[b]? = some (.cells (l.map (boundV g T r)).toArray 1 (0, 0))
def PartsPost (w : World) (g T r : Nat) (d : Int) (e : Ending) (w' : World) : Prop := ∃ v, e = .returned v ∧ PartsAt w' g T r v (partsL d) ∧ Below w.heap.size w w'
set_option maxRecDepth 100000 in
set_option maxHeartbeats 4000000 in
theorem parts35 (g T r : Nat) (d : Int) (w : World) (hd : 0 ≤ d ∧ d ≤ 255) (hp : w.cell? ⟨g, 0, none⟩ = some (.int .u8 d)) :
    Calls Try.prog 35 #[formV g T r] w (PartsPost w g T r d) := by
  have hlp := World.block_lt_of_cell? _ _ hp
  have hmf : ∀ (fn : Fn) (first cap : Array Value) (w : World), (Instr.makeFunc fn first cap).run Try.prog w = .ok (.func fn first cap) w := fun _ _ _ _ => rfl
  by_cases h : 1 ≤ d ∧ d ≤ 10
  · obtain rfl | rfl | rfl | rfl | rfl | rfl | rfl | rfl | rfl | rfl : d = 1 ∨ d = 2 ∨ d = 3 ∨ d = 4 ∨ d = 5 ∨ d = 6 ∨ d = 7 ∨ d = 8 ∨ d = 9 ∨ d = 10 := by omega
    all_goals
      clear h hd
      as_aux_lemma =>
      go_enter Try.func35, Try.ntmps35
      go_wp2
      go_ret
      refine ⟨_, rfl, Or.inr ⟨_, rfl, blk_new (by simp)⟩, ?_⟩
      repeat (first | exact Below.refl _ _ | apply below_alloc | apply below_drew)
  · have e : ∀ k : Int, 1 ≤ k → k ≤ 10 → (d == k) = false := fun k h1 h2 => by rw [beq_eq_false_iff_ne]; omega
    have e1 := e 1 (by omega) (by omega)
    have e2 := e 2 (by omega) (by omega)
    have e3 := e 3 (by omega) (by omega)
    have e4 := e 4 (by omega) (by omega)
    have e5 := e 5 (by omega) (by omega)
    have e6 := e 6 (by omega) (by omega)
    have e7 := e 7 (by omega) (by omega)
    have e8 := e 8 (by omega) (by omega)
    have e9 := e 9 (by omega) (by omega)
    have e10 := e 10 (by omega) (by omega)
    have hl : partsL d = [] := by
      unfold partsL
      rw [if_neg (by omega), if_neg (by omega), if_neg (by omega), if_neg (by omega), if_neg (by omega), if_neg (by omega), if_neg (by omega)]
    have HL := Aid.hide hl
    clear hl e hd h
    go_enter Try.func35, Try.ntmps35
    go_wp2
    go_ret
    refine ⟨_, rfl, Or.inl ⟨Aid.unhide HL, rfl⟩, ?_⟩
    repeat (first | exact Below.refl _ _ | apply below_alloc | apply below_drew)
end Go.Proofs.Ytppgbahiolhgbaa
end
section
set_option linter.unusedVariables false
set_option linter.unusedSimpArgs false
namespace Go.Proofs.Ytppgbahiolhgbaa
open Go.RowKit Go.Proofs.YtppgbahiolhgbaaW.PrintWords Sp
open PScriptReads
def partB (F : Nat) (a : S37) : Bytes :=
  if F = 46 then numsB [a.f1] else if F = 47 then numsB [a.f2] else if F = 51 then numsB [a.f3] else if F = 48 then numsB [(a.f4.length : Int)] ++ a.f4.flatMap giveS else if F = 49 then numsB [a.f5.f0, a.f5.f1, a.f5.f2]
  else if F = 50 then numsB [if a.f6 = true then 1 else 0] else numsB [(a.f7.length : Int)] ++ a.f7.flatMap stepS
theorem partsL_mem {d : Int} {F : Nat} (h : F ∈ partsL d) : F = 46 ∨ F = 47 ∨ F = 48 ∨ F = 49 ∨ F = 50 ∨ F = 51 ∨ F = 52 := by
  unfold partsL at h
  repeat' (split at h)
  all_goals (simp at h; try omega)
theorem partsL_len (d : Int) : (partsL d).length ≤ 3 := by
  unfold partsL
  repeat' split
  all_goals simp
theorem wparts (F : Nat) (h : F = 46 ∨ F = 47 ∨ F = 48 ∨ F = 49 ∨ F = 50 ∨ F = 51 ∨ F = 52) : WPart F (partB F) := by
  obtain rfl | rfl | rfl | rfl | rfl | rfl | rfl := h
  · exact wpart46
  · exact wpart47
  · exact wpart48
  · exact wpart49
  · exact wpart50
  · exact wpart51
  · exact wpart52
theorem partB_len {a : S37} (hm : mayAct a = true) (F : Nat) : (partB F a).length ≤ 200000 := by
  obtain ⟨hd, hf, hg, hst⟩ := may_facts hm
  have n1 : ∀ x : Int, 0 ≤ x ∧ x ≤ 2147483647 → (numsB [x]).length ≤ 9 := fun x hx => numsB_len [x] (by intro y hy; simp at hy; omega)
  have n3 := numsB_len [a.f5.f0, a.f5.f1, a.f5.f2] (by intro y hy; simp at hy; omega)
  simp only [List.length_cons, List.length_nil] at n3
  have e4 : (a.f4.flatMap giveS).length ≤ 16402 * 6 := len_flat (fun x hx => by have := hg x hx; exact len_give (by omega) (by omega)) (by omega)
  have e7 : (a.f7.flatMap stepS).length ≤ 2000 * 64 := len_flat (fun x hx => by obtain ⟨h0, h1, h2, h3, h4, h6, h5, h7⟩ := hst x hx; exact len_step x (by intro n hn; simp at hn; omega) h5 h7 h6) (by omega)
  have l4 := n1 (a.f4.length : Int) (by omega)
  have l7 := n1 (a.f7.length : Int) (by omega)
  have k1 := n1 a.f1 (by omega)
  have k2 := n1 a.f2 (by omega)
  have k3 := n1 a.f3 (by omega)
  have k60 := n1 0 (by omega)
  have k61 := n1 1 (by omega)
  unfold partB
  repeat' split
  all_goals (try rw [List.length_append]) <;> omega
theorem one_parts {a : S37} (hm : mayAct a = true) : oneB a = [UInt8.ofNat a.f0.toNat] ++ (partsL a.f0).flatMap (fun F => partB F a) := by
  obtain ⟨hd, _⟩ := may_facts hm
  have hc : a.f0 = 1 ∨ a.f0 = 2 ∨ a.f0 = 3 ∨ a.f0 = 4 ∨ a.f0 = 5 ∨ a.f0 = 6 ∨ a.f0 = 7 ∨ a.f0 = 8 ∨ a.f0 = 9 ∨ a.f0 = 10 := by omega
  have y : numsB [if a.f6 = true then 1 else 0] = [if a.f6 = true then 1 else 0] := by cases a.f6 <;> rfl
  unfold oneB pOrg pAud pN pGives pTxn pYes pSteps
  rcases hc with h | h | h | h | h | h | h | h | h | h <;> rw [h] <;> simp [partsL, partB, hOrg, hAud, hN, hGives, hTxn, hYes, hSteps, y]
theorem PartsAt.below {W W1 : World} {g T r : Nat} {v : Value} {l : List Nat} (h : PartsAt W g T r v l) (hb : Below W.heap.size W W1) : PartsAt W1 g T r v l := by
  rcases h with h | ⟨b, h1, h2⟩
  · exact .inl h
  · exact .inr ⟨b, h1, blk_of h2 hb⟩
theorem PartsAt.grown {W W1 : World} {g T r : Nat} {v : Value} {l : List Nat} {s : ByteArray} (h : PartsAt W g T r v l) (hR : WrAt W r s) (hg : W.grownBy W1 (some r)) : PartsAt W1 g T r v l := by
  rcases h with h | ⟨b, h1, h2⟩
  · exact .inl h
  · exact .inr ⟨b, h1, Blk.grown h2 (by decide) hR hg⟩
theorem PartsAt.get {W : World} {g T r : Nat} {v : Value} {l : List Nat} (h : PartsAt W g T r v l) : ∃ A, v = .slice A l.length l.length ∧ ∀ (k : Nat) (hk : k < l.length), ∃ b, A = some ⟨b, 0, none⟩ ∧ W.cell? ⟨b, k, none⟩ = some (boundV g T r l[k]) := by
  rcases h with ⟨h1, h2⟩ | ⟨b, h1, h2⟩
  · subst h1; exact ⟨none, h2, fun k hk => absurd hk (by simp)⟩
  · refine ⟨_, h1, fun k hk => ⟨b, rfl, ?_⟩⟩
    have := blk_cell h2 k
    rw [this]
    simp [hk]
theorem one_byte' (v : Int) (h : 1 ≤ v ∧ v ≤ 10) : strOfNums [v] = mk [UInt8.ofNat v.toNat] := by
  have : v = 1 ∨ v = 2 ∨ v = 3 ∨ v = 4 ∨ v = 5 ∨ v = 6 ∨ v = 7 ∨ v = 8 ∨ v = 9 ∨ v = 10 := by omega
  rcases this with h | h | h | h | h | h | h | h | h | h <;> subst h <;> rfl
set_option maxRecDepth 100000 in
set_option maxHeartbeats 8000000 in
theorem written19 (a : S37) (A4 : Option Addr) (c4 : Nat) (A9 : Option Addr) (c9 : Nat) (w : World) (hm : mayAct a = true) (g4 : k48.C w A4 a.f4.length a.f4) (g9 : k51.C w A9 a.f7.length a.f7) (hu : Uns w A9) :
    Calls Try.prog 19 #[.agg (actC a A4 c4 A9 c9)] w fun e w' => e = .returned (.string (mk (oneB a))) ∧ Below w.heap.size w w' := by
  have hcv := fun W => conv_one W a.f0
  have hd := (may_facts hm).1
  have hone := one_parts hm
  have hpl := fun F => partB_len hm F
  have H := Aid.hide (And.intro hm (And.intro g4 (And.intro g9 (And.intro hu (And.intro hone hpl)))))
  clear hm g4 g9 hu hone hpl
  go_enter Try.func19, Try.ntmps19
  go_upto_region 1 with (fail)
  have hA : ActAt (w.alloc (.cells (actC a A4 c4 A9 c9) 37)) w.heap.size a A4 c4 A9 c9 := ActAt.new w
  have hB : Below w.heap.size w (w.alloc (.cells (actC a A4 c4 A9 c9) 37)) := below_alloc (Below.refl _ _) _
  generalize w.alloc (.cells (actC a A4 c4 A9 c9) 37) = w1 at *
  obtain ⟨g, hg⟩ : ∃ g, g = w.heap.size := ⟨_, rfl⟩
  rw [← hg] at hA ⊢
  have hlg : w.heap.size ≤ g := by omega
  have G := Aid.hide hg
  clear hg
  have k0 := hA.ten.k0
  go_cut [3] (fun x wx => ∃ r : Nat, x = .pointer (some ⟨r, 0, none⟩) ∧ WSt w g r a A4 c4 A9 c9 (mk [UInt8.ofNat a.f0.toNat]) wx)
  case first =>
    as_aux_lemma =>
    go_wp2_with (fail)
    go_meet
    refine ⟨_, rfl, ⟨hA.below (by (repeat first | exact Below.refl _ _ | apply below_alloc | apply below_drew)), ?_, hB.trans (Below.mono (B := w1.heap.size) (by (repeat first | exact Below.refl _ _ | apply below_alloc | apply below_drew)) hB.size), ?_, hlg⟩⟩
    · rw [one_byte' a.f0 hd]; exact blk_new (by simp)
    · have := hB.size; simp; omega
  case rest =>
    obtain ⟨r, rfl, hS⟩ := hcut
    clear hA hB k0 hcv
    have k0 := hS.ten.k0
    have hd0 : 0 ≤ a.f0 ∧ a.f0 ≤ 255 := by omega
    obtain ⟨pl, hpl⟩ : ∃ pl, pl = partsL a.f0 := ⟨_, rfl⟩
    have hlen : pl.length ≤ 3 := by rw [hpl]; exact partsL_len _
    have C := Aid.hide (parts35 g 69 r a.f0 wc hd0 k0)
    have PL := Aid.hide hpl
    clear hpl hd0
    go_upto_region 2 with (fail)
    go_cut [15, 16, 17] (fun v n i wx => PartsAt wx g 69 r v pl ∧ n = .int .i64 (pl.length : Int) ∧ i = .int .i64 0 ∧ WSt w g r a A4 c4 A9 c9 (mk [UInt8.ofNat a.f0.toNat]) wx)
    case first =>
      as_aux_lemma =>
      go_wp2_with (go_at_call 35; refine (Aid.unhide C).mono ?_; rintro e1 w2 ⟨v, rfl, hP, hb⟩; rw [← Aid.unhide PL] at hP; obtain ⟨A, rfl, _⟩ := hP.get)
      go_meet
      exact ⟨by assumption, rfl, rfl, hS.below (by assumption)⟩
    case rest =>
      obtain ⟨hP, rfl, rfl, hS'⟩ := hcut
      clear hS k0 C
      obtain ⟨A, rfl, _⟩ := hP.get
      go_wp2_with (fail)
      go_loopw [17] (fun i wr => ∃ k : Nat, i = .int .i64 (k : Int) ∧ k ≤ pl.length ∧ PartsAt wr g 69 r (.slice A pl.length pl.length) pl ∧ WSt w g r a A4 c4 A9 c9 (mk ([UInt8.ofNat a.f0.toNat] ++ (pl.take k).flatMap (fun F => partB F a))) wr) (fun i _ => pl.length - (intOf i).toNat)
      case atStart => exact ⟨0, rfl, by omega, hP, by rw [List.take_zero, List.flatMap_nil, List.append_nil]; exact hS'⟩
      case round =>
        clear hP hS'
        obtain ⟨k, rfl, hk, hP, hS⟩ := hrel
        by_cases hlt : k < pl.length
        · obtain ⟨A', hA', hget⟩ := hP.get
          injection hA' with hA'
          subst hA'
          obtain ⟨b, hAb, hcell⟩ := hget k hlt
          subst hAb
          obtain ⟨hm, g4, g9, hu, hone, hpl⟩ := Aid.unhide H
          have hz : (mk ([UInt8.ofNat a.f0.toNat] ++ (pl.take k).flatMap (fun F => partB F a))).size ≤ 1000000 := by
            rw [size_mk, List.length_append]
            have h1 : ((pl.take k).flatMap (fun F => partB F a)).length ≤ 200000 * 3 := len_flat (fun F _ => hpl F) (by rw [List.length_take]; omega)
            simp only [List.length_cons, List.length_nil]; omega
          have hst : mk ([UInt8.ofNat a.f0.toNat] ++ (pl.take k).flatMap (fun F => partB F a)) ++ mk (partB pl[k] a) = mk ([UInt8.ofNat a.f0.toNat] ++ (pl.take (k + 1)).flatMap (fun F => partB F a)) := by
            rw [mk_app, List.append_assoc, List.take_succ_eq_append_getElem hlt, List.flatMap_append]; simp
          have hF := partsL_mem (d := a.f0) (F := pl[k]) (by rw [← Aid.unhide PL]; exact List.getElem_mem hlt)
          have hC := wparts pl[k] hF w g r a A4 c4 A9 c9 (mk ([UInt8.ofNat a.f0.toNat] ++ (pl.take k).flatMap (fun F => partB F a))) wr hm g4 g9 hu hz hS
          rw [hst] at hC
          generalize mk ([UInt8.ofNat a.f0.toNat] ++ (pl.take k).flatMap (fun F => partB F a)) = sk at *
          generalize pl[k] = F at *
          have C := Aid.hide (And.intro hC hst)
          clear hC hst hz hm g4 g9 hu hone hpl hget
          obtain rfl | rfl | rfl | rfl | rfl | rfl | rfl := hF
          · go_wp2_with (go_at_call 46; refine (Aid.unhide C).1.mono ?_; rintro e1 w2 ⟨rfl, hS2, hg2⟩)
            go_roundw
            case rel => exact ⟨k + 1, by go_num, by omega, hP.grown hS.hR hg2, hS2⟩
            case measure => simp [intOf]; omega
          · go_wp2_with (go_at_call 47; refine (Aid.unhide C).1.mono ?_; rintro e1 w2 ⟨rfl, hS2, hg2⟩)
            go_roundw
            case rel => exact ⟨k + 1, by go_num, by omega, hP.grown hS.hR hg2, hS2⟩
            case measure => simp [intOf]; omega
          · go_wp2_with (go_at_call 48; refine (Aid.unhide C).1.mono ?_; rintro e1 w2 ⟨rfl, hS2, hg2⟩)
            go_roundw
            case rel => exact ⟨k + 1, by go_num, by omega, hP.grown hS.hR hg2, hS2⟩
            case measure => simp [intOf]; omega
          · go_wp2_with (go_at_call 49; refine (Aid.unhide C).1.mono ?_; rintro e1 w2 ⟨rfl, hS2, hg2⟩)
            go_roundw
            case rel => exact ⟨k + 1, by go_num, by omega, hP.grown hS.hR hg2, hS2⟩
            case measure => simp [intOf]; omega
          · go_wp2_with (go_at_call 50; refine (Aid.unhide C).1.mono ?_; rintro e1 w2 ⟨rfl, hS2, hg2⟩)
            go_roundw
            case rel => exact ⟨k + 1, by go_num, by omega, hP.grown hS.hR hg2, hS2⟩
            case measure => simp [intOf]; omega
          · go_wp2_with (go_at_call 51; refine (Aid.unhide C).1.mono ?_; rintro e1 w2 ⟨rfl, hS2, hg2⟩)
            go_roundw
            case rel => exact ⟨k + 1, by go_num, by omega, hP.grown hS.hR hg2, hS2⟩
            case measure => simp [intOf]; omega
          · go_wp2_with (go_at_call 52; refine (Aid.unhide C).1.mono ?_; rintro e1 w2 ⟨rfl, hS2, hg2⟩)
            go_roundw
            case rel => exact ⟨k + 1, by go_num, by omega, hP.grown hS.hR hg2, hS2⟩
            case measure => simp [intOf]; omega
        · obtain rfl : k = pl.length := by omega
          have r0 := hS.hR.cell
          have hlr := hS.hR.lt
          go_wp2_with (fail)
          go_ret
          refine ⟨?_, hS.hB⟩
          rw [(Aid.unhide H).2.2.2.2.1, ← Aid.unhide PL]
          rfl
end Go.Proofs.Ytppgbahiolhgbaa
end
section
set_option linter.unusedVariables false
set_option linter.unusedSimpArgs false
namespace Go.Proofs.Ytppgbahiolhgbaa
open Go.RowKit Go.Proofs.YtppgbahiolhgbaaW.PrintWords Sp
open PScriptReads
def ActR (w : World) (x : S37) (cs : List Value) : Prop :=
  ∃ A4 c4 A9 c9, cs = (actC x A4 c4 A9 c9).toList ∧ k48.C w A4 x.f4.length x.f4 ∧ k51.C w A9 x.f7.length x.f7 ∧ x.f4.length ≤ c4 ∧ x.f7.length ≤ c9 ∧ Uns w A9
def AC (w : World) (A : Option Addr) (n : Nat) (l : List S37) : Prop := ReadsRow (ActR w) 10 w A n l
theorem Uns.below {w W : World} {A : Option Addr} (h : Uns w A) (hb : Below w.heap.size w W) : Uns W A := fun ad hA => by
  obtain ⟨cs, t, h2⟩ := h ad hA
  exact ⟨cs, t, blk_of h2 hb⟩
theorem AC.below {w W : World} {A : Option Addr} {n : Nat} {l : List S37} (h : AC w A n l) (hb : Below w.heap.size w W) : AC W A n l :=
  ReadsRow.imp_ h hb fun x cs ⟨A4, c4, A9, c9, h1, h2, h3, h4, h5, h6⟩ => ⟨A4, c4, A9, c9, h1, Kd.C_below h2 hb, Kd.C_below h3 hb, h4, h5, h6.below hb⟩
theorem ReadsRow.imp0 {α : Type} {R R' : α → List Value → Prop} {size : Nat} {w : World} {A : Option Addr} {n : Nat} {ps : List α} (h : ReadsRow R size w A n ps) (hR : ∀ p c, R p c → R' p c) : ReadsRow R' size w A n ps := by
  obtain ⟨h1, h2, h3⟩ := h
  refine ⟨h1, h2, fun h0 => ?_⟩
  obtain ⟨ad, hA, hc⟩ := h3 h0
  exact ⟨ad, hA, fun j p hj => by obtain ⟨c, q1, q2, q3⟩ := hc j p hj; exact ⟨c, q1, hR p c q2, q3⟩⟩
theorem AC.C {w : World} {A : Option Addr} {n : Nat} {l : List S37} (h : AC w A n l) : k37.C w A n l :=
  ReadsRow.imp0 h fun x cs ⟨A4, c4, A9, c9, h1, h2, h3, h4, h5, h6⟩ => by subst h1; exact k37_mk w x h4 h2 h5 h3
structure ActAtR (w W : World) (P : Addr) (x : S37) (A4 : Option Addr) (c4 : Nat) (A9 : Option Addr) (c9 : Nat) : Prop where
  e0 : W.cell? P = some (.int .u8 x.f0)
  e1 : W.cell? ⟨P.block, P.off + 1, none⟩ = some (.int .i64 x.f1)
  e2 : W.cell? ⟨P.block, P.off + 2, none⟩ = some (.int .i64 x.f2)
  e3 : W.cell? ⟨P.block, P.off + 3, none⟩ = some (.int .i64 x.f3)
  e4 : W.cell? ⟨P.block, P.off + 4, none⟩ = some (.slice A4 x.f4.length c4)
  e5 : W.cell? ⟨P.block, P.off + 5, none⟩ = some (.int .i64 x.f5.f0)
  e6 : W.cell? ⟨P.block, P.off + 6, none⟩ = some (.int .i64 x.f5.f1)
  e7 : W.cell? ⟨P.block, P.off + 7, none⟩ = some (.int .i64 x.f5.f2)
  e8 : W.cell? ⟨P.block, P.off + 8, none⟩ = some (.bool x.f6)
  e9 : W.cell? ⟨P.block, P.off + 9, none⟩ = some (.slice A9 x.f7.length c9)
theorem AC.get {w : World} {A : Option Addr} {n : Nat} {l : List S37} (h : AC w A n l) (k : Nat) (hk : k < l.length) : ∃ ad A4 c4 A9 c9, A = some ad ∧ ActAtR w w (ad.add (k * 10)) l[k] A4 c4 A9 c9 ∧ k48.C w A4 l[k].f4.length l[k].f4 ∧ k51.C w A9 l[k].f7.length l[k].f7 ∧ Uns w A9 := by
  have hn := h.1
  obtain ⟨ad, c, hA, hl, hK, hc⟩ := ReadsRow.get_ h l[k] (k : Int) (by omega) (by omega)
  rw [Int.toNat_natCast, List.getD_eq_getElem?_getD, List.getElem?_eq_getElem hk] at hK
  rw [Int.toNat_natCast] at hc
  obtain ⟨A4, c4, A9, c9, h1, h2, h3, h4, h5, h6⟩ := hK
  subst h1
  refine ⟨ad, A4, c4, A9, c9, hA, ?_, h2, h3, h6⟩
  have hcf : ∀ j u, j ≠ 0 → (actC l[k] A4 c4 A9 c9).toList[j]? = some u → w.cell? ⟨(ad.add (k * 10)).block, (ad.add (k * 10)).off + j, none⟩ = some u := by
    intro j u hj hu
    rw [← add_field _ _ j (by omega)]
    exact hc j u hu
  exact ⟨hc 0 _ rfl, hcf 1 _ (by omega) rfl, hcf 2 _ (by omega) rfl, hcf 3 _ (by omega) rfl, hcf 4 _ (by omega) rfl, hcf 5 _ (by omega) rfl, hcf 6 _ (by omega) rfl, hcf 7 _ (by omega) rfl, hcf 8 _ (by omega) rfl, hcf 9 _ (by omega) rfl⟩
def SmallA (l : List S37) : Prop := l.length ≤ 100000 ∧ ∀ x ∈ l, x.f4.length ≤ 1000 ∧ x.f7.length ≤ 1000 ∧ (∀ y ∈ x.f4, y.f1.size ≤ 1000000) ∧ ∀ y ∈ x.f7, y.f5.size ≤ 1000000 ∧ y.f6.length ≤ 1000
def encV (l : List S37) : Bytes × Int := if l.all mayAct = true then (if 65536 < (l.flatMap oneB).length then ([], 5) else (l.flatMap oneB, 0)) else ([], 2)
theorem oneB_len {a : S37} (hm : mayAct a = true) : (oneB a).length ≤ 700000 := by
  rw [one_parts hm, List.length_append]
  have := len_flat (f := fun F => partB F a) (m := 200000) (k := 3) (l := partsL a.f0) (fun F _ => partB_len hm F) (partsL_len _)
  simp only [List.length_cons, List.length_nil]; omega
theorem flat_take_le (l : List S37) (k : Nat) : ((l.take k).flatMap oneB).length ≤ (l.flatMap oneB).length := by
  have : l.flatMap oneB = (l.take k).flatMap oneB ++ (l.drop k).flatMap oneB := by rw [← List.flatMap_append, List.take_append_drop]
  rw [this, List.length_append]; omega
set_option maxRecDepth 100000 in
set_option maxHeartbeats 8000000 in
theorem encode10 (A : Option Addr) (c : Nat) (l : List S37) (w : World) (hr : AC w A l.length l) (hsm : SmallA l) :
    Calls Try.prog 10 #[.slice A l.length c] w fun e w' => e = .returned (.tuple #[.string (mk (encV l).1), .int .i64 (encV l).2]) ∧ Below w.heap.size w w' := by
  have hl : l.length ≤ 100000 := hsm.1
  have H := Aid.hide (And.intro hr hsm)
  clear hr hsm
  go_enter Try.func10, Try.ntmps10
  go_wp2_with (fail)
  go_loopw [12] (fun i wr => ∃ k : Nat, i = .int .i64 (k : Int) ∧ k ≤ l.length ∧ Hid ((l.take k).all mayAct = true) ∧ Below w.heap.size w wr) (fun i _ => l.length - (intOf i).toNat)
  case atStart => exact ⟨0, rfl, by omega, by show _ = _; rw [List.take_zero]; rfl, Below.refl _ _⟩
  case round =>
    obtain ⟨k, rfl, hk, hall, hB⟩ := hrel
    by_cases hlt : k < l.length
    · obtain ⟨ad, A4, c4, A9, c9, hA, hE, h4, h9, hu⟩ := ((Aid.unhide H).1.below hB).get k hlt
      obtain ⟨_, hsm⟩ := (Aid.unhide H).2
      obtain ⟨z4, z7, y4, y7⟩ := hsm l[k] (List.getElem_mem hlt)
      have htk : (l.take (k + 1)).all mayAct = ((l.take k).all mayAct && mayAct l[k]) := by rw [List.take_succ_eq_append_getElem hlt, List.all_append]; simp
      have hmem : l[k] ∈ l := List.getElem_mem hlt
      generalize l[k] = x at *
      obtain ⟨e0, e1, e2, e3, e4, e5, e6, e7, e8, e9⟩ := hE
      have C := Aid.hide (fun W (hW : Below wr.heap.size wr W) => check13 x A4 c4 A9 c9 W (Kd.C_below h4 hW) (Kd.C_below h9 hW) (by omega) (by omega) (fun y hy => by have := y4 y hy; omega) (fun y hy => by have := y7 y hy; omega))
      have HA := Aid.hide (And.intro hall.out (And.intro htk hmem))
      clear h4 h9 z4 z7 y4 y7 htk hall hsm hu hmem
      subst hA
      cases hmx : mayAct x with
      | true =>
        go_wp2_with (go_at_call 13; refine (Aid.unhide C _ (by (repeat first | exact Below.refl _ _ | apply below_drew | apply below_alloc))).mono ?_; rintro e1 w1 ⟨rfl, hb1⟩; rw [hmx, show errC true = 0 from rfl])
        go_roundw
        case rel => exact ⟨k + 1, by go_num, by omega, by show _ = _; rw [(Aid.unhide HA).2.1, (Aid.unhide HA).1, hmx]; rfl, hB.trans (Below.mono (B := wr.heap.size) ((by (repeat first | exact Below.refl _ _ | apply below_drew | apply below_alloc | refine below_bt ?_ (by assumption)))) hB.size)⟩
        case measure => simp [intOf]; omega
      | false =>
        go_wp2_with (go_at_call 13; refine (Aid.unhide C _ (by (repeat first | exact Below.refl _ _ | apply below_drew | apply below_alloc))).mono ?_; rintro e1 w1 ⟨rfl, hb1⟩; rw [hmx, show errC false = 2 from rfl])
        go_ret2
        have hno : l.all mayAct = false := by
          rw [Bool.eq_false_iff]
          intro h
          rw [List.all_eq_true] at h
          rw [h x (Aid.unhide HA).2.2] at hmx
          exact absurd hmx (by simp)
        refine ⟨?_, hB.trans (Below.mono (B := wr.heap.size) ((by (repeat first | exact Below.refl _ _ | apply below_drew | apply below_alloc | refine below_bt ?_ (by assumption)))) hB.size)⟩
        unfold encV
        rw [if_neg (by rw [hno]; simp)]
        rfl
    · obtain rfl : k = l.length := by omega
      have hall2 : l.all mayAct = true := by have := hall.out; rwa [List.take_length] at this
      have ALL := Aid.hide hall2
      clear hall hall2
      go_wp2_with (fail)
      go_loopw [7, 24] (fun x i wr => ∃ (k : Nat) (s : ByteArray), i = .int .i64 (k : Int) ∧ k ≤ l.length ∧ x = .string s ∧ Hid (s = mk ((l.take k).flatMap oneB)) ∧ s.size ≤ 65536 ∧ Below w.heap.size w wr) (fun _ i _ => l.length - (intOf i).toNat)
      case atStart => exact ⟨0, _, rfl, by omega, rfl, by show _ = _; rw [List.take_zero]; rfl, by decide, hB⟩
      case round =>
        clear hB hlt hk
        obtain ⟨k, s, rfl, hk, rfl, hs, hz, hB⟩ := hrel
        by_cases hlt : k < l.length
        · obtain ⟨ad, A4, c4, A9, c9, hA, hE, h4, h9, hu⟩ := ((Aid.unhide H).1.below hB).get k hlt
          have htk : (l.take (k + 1)).flatMap oneB = (l.take k).flatMap oneB ++ oneB l[k] := by rw [List.take_succ_eq_append_getElem hlt, List.flatMap_append]; simp
          have hmx : mayAct l[k] = true := List.all_eq_true.mp (Aid.unhide ALL) _ (List.getElem_mem hlt)
          generalize l[k] = x at *
          obtain ⟨e0, e1, e2, e3, e4, e5, e6, e7, e8, e9⟩ := hE
          have hw := fun W (hW : Below wr.heap.size wr W) => written19 x A4 c4 A9 c9 W hmx (Kd.C_below h4 hW) (Kd.C_below h9 hW) (hu.below hW)
          obtain ⟨u, huu⟩ : ∃ u, u = mk (oneB x) := ⟨_, rfl⟩
          rw [← huu] at hw
          have zu : u.size ≤ 700000 := by rw [huu, size_mk]; exact oneB_len hmx
          have hnx : s ++ u = mk ((l.take (k + 1)).flatMap oneB) := by rw [htk, hs.out, huu, mk_app]
          have C := Aid.hide (And.intro hw hnx)
          clear h4 h9 hu htk hmx hw huu hnx hs
          subst hA
          have ha1 : ¬ (9223372036854775807 < s.size + u.size) := by omega
          by_cases hbig : 65536 < s.size + u.size
          · go_wp2_with (go_at_call 19; refine ((Aid.unhide C).1 _ (by (repeat first | exact Below.refl _ _ | apply below_drew | apply below_alloc))).mono ?_; rintro e1 w1 ⟨rfl, hb1⟩)
            go_ret2
            refine ⟨?_, hB.trans (Below.mono (B := wr.heap.size) ((by (repeat first | exact Below.refl _ _ | apply below_drew | apply below_alloc | refine below_bt ?_ (by assumption)))) hB.size)⟩
            unfold encV
            have h1 := flat_take_le l (k + 1)
            have h2 : ((l.take (k + 1)).flatMap oneB).length = s.size + u.size := by rw [← ByteArray.size_append, (Aid.unhide C).2, size_mk]
            rw [if_pos (Aid.unhide ALL), if_pos (by omega)]
            rfl
          · go_wp2_with (go_at_call 19; refine ((Aid.unhide C).1 _ (by (repeat first | exact Below.refl _ _ | apply below_drew | apply below_alloc))).mono ?_; rintro e1 w1 ⟨rfl, hb1⟩)
            go_roundw
            case rel => exact ⟨k + 1, s ++ u, by go_num, by omega, rfl, (Aid.unhide C).2, by rw [ByteArray.size_append]; omega, hB.trans (Below.mono (B := wr.heap.size) ((by (repeat first | exact Below.refl _ _ | apply below_drew | apply below_alloc | refine below_bt ?_ (by assumption)))) hB.size)⟩
            case measure => simp [intOf]; omega
        · obtain rfl : k = l.length := by omega
          go_wp2_with (fail)
          go_ret2
          refine ⟨?_, hB⟩
          have hs2 := hs.out
          rw [List.take_length] at hs2
          unfold encV
          rw [if_pos (Aid.unhide ALL), if_neg (by rw [← size_mk, ← hs2]; omega), ← hs2]
          rfl
end Go.Proofs.Ytppgbahiolhgbaa
end
section
set_option linter.unusedVariables false
set_option linter.unusedSimpArgs false
namespace Go.Proofs.Ytppgbahiolhgbaa
open Go.RowKit Go.Proofs.YtppgbahiolhgbaaW.PrintWords Sp
open PScriptReads
def rdF (F : Nat) : S37 → Bytes → Option (S37 × Bytes) :=
  if F = 46 then rdOne 7 (fun a v => { a with f1 := v }) else if F = 47 then rdOne 7 (fun a v => { a with f2 := v }) else if F = 51 then rdOne 2147483647 (fun a v => { a with f3 := v })
  else if F = 48 then rdGives else if F = 49 then rdTxn else if F = 50 then rdYes else rdSteps
def rdParts : List Nat → S37 → Bytes → Option (S37 × Bytes)
  | [], a, l => some (a, l)
  | F :: r, a, l => (rdF F a l).bind fun q => rdParts r q.1 q.2
def rdAct : Bytes → Option (S37 × Bytes)
  | [] => none
  | c :: l => rdParts (partsL (c.toNat : Int)) ⟨(c.toNat : Int), 0, 0, 0, [], ⟨0, 0, 0⟩, false, []⟩ l
def Sm (x : S37) : Prop := x.f4.length ≤ 1000 ∧ x.f7.length ≤ 1000 ∧ (∀ y ∈ x.f4, y.f1.size ≤ 1000000) ∧ ∀ y ∈ x.f7, y.f5.size ≤ 1000000 ∧ y.f6.length ≤ 1000
theorem bind_some_iff {α β : Type} {o : Option α} {f : α → Option β} {z : β} (h : o.bind f = some z) : ∃ x, o = some x ∧ f x = some z := by
  cases o with
  | none => simp at h
  | some x => exact ⟨x, rfl, h⟩
theorem textP_len {m : Nat} {v : Bytes} {l t : Bytes} (h : textP m l = some (v, t)) : v.length ≤ m ∧ t.length ≤ l.length := by
  refine ⟨?_, textP_le h⟩
  unfold textP at h
  split at h
  · rename_i hc
    injection h with h
    injection h with h1 h2
    subst h1
    exact (rdText_len hc).1
  · simp at h
theorem rdGl_len : ∀ (n : Nat) (l : Bytes) (xs : List S48) (t : Bytes), rdGl n l = some (xs, t) → xs.length = n ∧ (∀ y ∈ xs, y.f1.size ≤ 16384) ∧ t.length ≤ l.length := by
  intro n
  induction n with
  | zero => intro l xs t h; simp [rdGl] at h; obtain ⟨rfl, rfl⟩ := h; simp
  | succ n ih =>
    intro l xs t h
    rw [rdGl] at h
    obtain ⟨q1, h1, h⟩ := bind_some_iff h
    obtain ⟨q2, h2, h⟩ := bind_some_iff h
    rw [Option.map_eq_some_iff] at h
    obtain ⟨q, h3, h⟩ := h
    injection h with e1 e2
    obtain ⟨i1, i2, i3⟩ := ih _ _ _ h3
    have n1 := (numP_le (v := q1.1) (t := q1.2) h1).2
    have n2 := textP_len (v := q2.1) (t := q2.2) h2
    subst e1; subst e2
    refine ⟨by simp [i1], fun y hy => ?_, by omega⟩
    rcases List.mem_cons.1 hy with rfl | hy
    · simp only [size_mk]; exact n2.1
    · exact i2 y hy
theorem rdNums_len : ∀ (n : Nat) (l : Bytes) (xs : List Int) (t : Bytes), rdNums n l = some (xs, t) → xs.length = n ∧ t.length ≤ l.length := by
  intro n
  induction n with
  | zero => intro l xs t h; simp [rdNums] at h; obtain ⟨rfl, rfl⟩ := h; simp
  | succ n ih =>
    intro l xs t h
    rw [rdNums] at h
    obtain ⟨q1, h1, h⟩ := bind_some_iff h
    rw [Option.map_eq_some_iff] at h
    obtain ⟨q, h3, h⟩ := h
    injection h with e1 e2
    obtain ⟨i1, i3⟩ := ih _ _ _ h3
    have n1 := (numP_le (v := q1.1) (t := q1.2) h1).2
    subst e1; subst e2
    exact ⟨by simp [i1], by omega⟩
theorem rdStep_len (l : Bytes) (x : S51) (t : Bytes) (h : rdStep l = some (x, t)) : x.f5.size ≤ 1024 ∧ x.f6.length ≤ 32 ∧ t.length ≤ l.length := by
  unfold rdStep at h
  obtain ⟨q0, h0, h⟩ := bind_some_iff h
  obtain ⟨z, h1, h⟩ := bind_some_iff h
  obtain ⟨q5, h5, h⟩ := bind_some_iff h
  obtain ⟨qn, hn, h⟩ := bind_some_iff h
  rw [Option.map_eq_some_iff] at h
  obtain ⟨y, h6, h⟩ := h
  injection h with e1 e2
  have n0 := (numP_le (v := q0.1) (t := q0.2) h0).2
  have n1 := (rdNums_len _ _ z.1 z.2 h1).2
  have n5 := textP_len (v := q5.1) (t := q5.2) h5
  have nn := numP_le (v := qn.1) (t := qn.2) hn
  have n6 := rdNums_len _ _ y.1 y.2 h6
  subst e1; subst e2
  exact ⟨by simp only [size_mk]; exact n5.1, by simp only; omega, by omega⟩
theorem rdSl_len : ∀ (n : Nat) (l : Bytes) (xs : List S51) (t : Bytes), rdSl n l = some (xs, t) → xs.length = n ∧ (∀ y ∈ xs, y.f5.size ≤ 1024 ∧ y.f6.length ≤ 32) ∧ t.length ≤ l.length := by
  intro n
  induction n with
  | zero => intro l xs t h; simp [rdSl] at h; obtain ⟨rfl, rfl⟩ := h; simp
  | succ n ih =>
    intro l xs t h
    rw [rdSl] at h
    obtain ⟨q1, h1, h⟩ := bind_some_iff h
    rw [Option.map_eq_some_iff] at h
    obtain ⟨q, h3, h⟩ := h
    injection h with e1 e2
    obtain ⟨i1, i2, i3⟩ := ih _ _ _ h3
    have n1 := rdStep_len _ q1.1 q1.2 h1
    subst e1; subst e2
    refine ⟨by simp [i1], fun y hy => ?_, by omega⟩
    rcases List.mem_cons.1 hy with rfl | hy
    · exact ⟨n1.1, n1.2.1⟩
    · exact i2 y hy
theorem rdF_small {F : Nat} {a a' : S37} {l t : Bytes} (ha : Sm a) (h : rdF F a l = some (a', t)) : Sm a' ∧ t.length ≤ l.length ∧ a'.f0 = a.f0 := by
  unfold rdF at h
  have one : ∀ m (put : S37 → Int → S37), (∀ a v, (put a v).f4 = a.f4 ∧ (put a v).f7 = a.f7 ∧ (put a v).f0 = a.f0) → rdOne m put a l = some (a', t) → Sm a' ∧ t.length ≤ l.length ∧ a'.f0 = a.f0 := by
    intro m put hp h
    unfold rdOne at h
    rw [Option.map_eq_some_iff] at h
    obtain ⟨q, h1, h⟩ := h
    injection h with e1 e2
    have := (numP_le (v := q.1) (t := q.2) h1).2
    obtain ⟨p4, p7, p0⟩ := hp a (q.1 : Int)
    subst e1; subst e2
    exact ⟨by unfold Sm; rw [p4, p7]; exact ha, this, p0⟩
  by_cases c1 : F = 46
  · rw [if_pos c1] at h; exact one 7 (fun a v => { a with f1 := v }) (fun _ _ => ⟨rfl, rfl, rfl⟩) h
  rw [if_neg c1] at h
  by_cases c2 : F = 47
  · rw [if_pos c2] at h; exact one 7 (fun a v => { a with f2 := v }) (fun _ _ => ⟨rfl, rfl, rfl⟩) h
  rw [if_neg c2] at h
  by_cases c3 : F = 51
  · rw [if_pos c3] at h; exact one 2147483647 (fun a v => { a with f3 := v }) (fun _ _ => ⟨rfl, rfl, rfl⟩) h
  rw [if_neg c3] at h
  by_cases c4 : F = 48
  · rw [if_pos c4] at h
    unfold rdGives at h
    obtain ⟨q, h1, h⟩ := bind_some_iff h
    rw [Option.map_eq_some_iff] at h
    obtain ⟨z, h2, h⟩ := h
    injection h with e1 e2
    have n1 := numP_le (v := q.1) (t := q.2) h1
    have n2 := rdGl_len _ _ z.1 z.2 h2
    subst e1; subst e2
    exact ⟨⟨by simp only; omega, ha.2.1, fun y hy => by have := n2.2.1 y hy; omega, ha.2.2.2⟩, by omega, rfl⟩
  rw [if_neg c4] at h
  by_cases c5 : F = 49
  · rw [if_pos c5] at h
    unfold rdTxn at h
    obtain ⟨q1, h1, h⟩ := bind_some_iff h
    obtain ⟨q2, h2, h⟩ := bind_some_iff h
    obtain ⟨q3, h3, h⟩ := bind_some_iff h
    injection h with h
    injection h with e1 e2
    have n1 := (numP_le (v := q1.1) (t := q1.2) h1).2
    have n2 := (numP_le (v := q2.1) (t := q2.2) h2).2
    have n3 := (numP_le (v := q3.1) (t := q3.2) h3).2
    subst e1; subst e2
    exact ⟨ha, by omega, rfl⟩
  rw [if_neg c5] at h
  by_cases c6 : F = 50
  · rw [if_pos c6] at h
    unfold rdYes at h
    rw [Option.map_eq_some_iff] at h
    obtain ⟨q, h1, h⟩ := h
    injection h with e1 e2
    have n1 := (numP_le (v := q.1) (t := q.2) h1).2
    subst e1; subst e2
    exact ⟨ha, n1, rfl⟩
  rw [if_neg c6] at h
  unfold rdSteps at h
  obtain ⟨q, h1, h⟩ := bind_some_iff h
  rw [Option.map_eq_some_iff] at h
  obtain ⟨z, h2, h⟩ := h
  injection h with e1 e2
  have n1 := numP_le (v := q.1) (t := q.2) h1
  have n2 := rdSl_len _ _ z.1 z.2 h2
  subst e1; subst e2
  exact ⟨⟨ha.1, by simp only; omega, ha.2.2.1, fun y hy => by have := n2.2.1 y hy; omega⟩, by omega, rfl⟩
theorem rdParts_small : ∀ (pl : List Nat) (a a' : S37) (l t : Bytes), Sm a → rdParts pl a l = some (a', t) → Sm a' ∧ t.length ≤ l.length := by
  intro pl
  induction pl with
  | nil => intro a a' l t ha h; simp [rdParts] at h; obtain ⟨rfl, rfl⟩ := h; exact ⟨ha, Nat.le_refl _⟩
  | cons F r ih =>
    intro a a' l t ha h
    rw [rdParts] at h
    obtain ⟨q, h1, h⟩ := bind_some_iff h
    obtain ⟨s1, s2, _⟩ := rdF_small (a' := q.1) (t := q.2) ha h1
    obtain ⟨t1, t2⟩ := ih _ _ _ _ s1 h
    exact ⟨t1, by omega⟩
theorem rdAct_small {l t : Bytes} {a : S37} (h : rdAct l = some (a, t)) : Sm a ∧ t.length < l.length := by
  cases l with
  | nil => simp [rdAct] at h
  | cons c l =>
    rw [rdAct] at h
    obtain ⟨h1, h2⟩ := rdParts_small _ _ _ _ _ ⟨by simp, by simp, by simp, by simp⟩ h
    exact ⟨h1, by rw [List.length_cons]; omega⟩
end Go.Proofs.Ytppgbahiolhgbaa
end
section
set_option linter.unusedVariables false
set_option linter.unusedSimpArgs false
namespace Go.Proofs.Ytppgbahiolhgbaa
open Go.RowKit Go.Proofs.YtppgbahiolhgbaaW.PrintWords Sp
open PScriptReads
def act0 : S37 := ⟨0, 0, 0, 0, [], ⟨0, 0, 0⟩, false, []⟩
theorem store_act {W : World} {g : Nat} {a a' : S37} {v4 v9 u4 u9 : Value} (h4 : u4.oneCell' = true) (h9 : u9.oneCell' = true) (h : ActV W g a v4 v9) : ∃ W1, (Instr.storeAt 37 (.pointer (some ⟨g, 0, none⟩)) (.agg (actW a' u4 u9))).run Try.prog W = .ok () W1 ∧ ActV W1 g a' u4 u9 ∧
    (∀ k, k ≠ g → W1.heap[k]? = W.heap[k]?) ∧ W1.os = W.os ∧ W1.tape = W.tape ∧ W1.output = W.output ∧ W1.heap.size = W.heap.size := by
  have hc : (Value.agg (actW a' u4 u9)).cells.toList = (actW a' u4 u9).toList := rfl
  have h1 : ∀ q ∈ (actW a' u4 u9).toList, q.oneCell' = true := by
    intro q hq
    simp only [List.mem_cons, List.not_mem_nil, or_false] at hq
    rcases hq with rfl | rfl | rfl | rfl | rfl | rfl | rfl | rfl | rfl | rfl
    all_goals first | rfl | assumption
  refine ⟨W.setCells g 0 (actW a' u4 u9).toList, run_store_run 37 _ _ h hc (by kernel_rfl) (by simp) h1, ?_, fun k hk => setCells_far _ _ k hk, ?_⟩
  · obtain ⟨cur', h2, h3, h4⟩ := setCells_row (actW a' u4 u9).toList 0 W _ h (by simp)
    unfold ActV
    rw [h2]
    have e : cur' = actW a' u4 u9 := by
      apply Array.toList_inj.1
      rw [h4]
      simp
    rw [e]
  · exact ⟨(setCells_same g _ _ W).1, (setCells_same g _ _ W).2.1, (setCells_same g _ _ W).2.2.1, (setCells_same g _ _ W).2.2.2⟩
theorem wpList_store_act {ops : Array Oper} {rest : List Oper} {o : Oper} {ac : Act} {Q : Exit → Act → World → Prop} {W : World} {g : Nat} {a a' : S37} {v4 v9 u4 u9 : Value} (hgd : o.guard = none) (hN : o.dst = none) (p x : Operand) (ho : o.op = .store 37 p x)
    (haddr : ac.eval p = .pointer (some ⟨g, 0, none⟩)) (hx : ac.eval x = .agg (actW a' u4 u9)) (h4 : u4.oneCell' = true) (h9 : u9.oneCell' = true) (h : ActV W g a v4 v9)
    (hk : ∀ W1, ActV W1 g a' u4 u9 → (∀ k, k ≠ g → W1.heap[k]? = W.heap[k]?) → (W1.os = W.os ∧ W1.tape = W.tape ∧ W1.output = W.output ∧ W1.heap.size = W.heap.size) → wpList Try.prog ops Q rest ac W1) : wpList Try.prog ops Q (o :: rest) ac W := by
  obtain ⟨W1, hrun, h1, h2, h3⟩ := store_act (a' := a') h4 h9 h
  refine wpList_plain hgd fun K hK => ?_
  unfold Oper.wp execOp
  simp only [ho, haddr, hx, Sem.run_bind, Sem.run_pure, Result.andThen_ok, hrun]
  show K (ac.put o.dst undef) _
  rw [hN]
  exact hK _ _ (hk W1 h1 h2 h3)
set_option maxRecDepth 100000 in
set_option maxHeartbeats 400000 in
theorem catch42 (w0 : World) (g i : Nat) (older : List PanicEntry) (w : World) (h : DSt w0 g i w) :
    CallsD Try.prog 42 #[.pointer (some ⟨g, 0, none⟩), .pointer (some ⟨i, 0, none⟩)] (.panicking ({ v := .iface 86 (.agg #[]), recovered := false } :: older)) w fun e u' w' =>
      e = .returned (.tuple #[]) ∧ u' = .panicking ({ v := .iface 86 (.agg #[]), recovered := true } :: older) ∧ ActV w' g act0 (.slice none 0 0) (.slice none 0 0) ∧ w'.heap[i]? = some (.cells #[.bool false] 4 (0, 0)) ∧ Below w0.heap.size w0 w' := by
  refine callsD_of_wpS Try.func42 rfl fun c₀ cs hu => ?_
  apply wpS_seq
  apply wpS_region
  simp [wpOpsS, go_sem, recoverD, hu, Try.ntmps42, Exit.thenS]
  refine wpS_of_wp ?_
  have hnq : ∀ W : World, (binOp .neq 20 (.iface 86 (.agg #[])) .nilIface).run Try.prog W = .ok (.bool true) W := fun _ => by kernel_rfl
  have hta : ∀ W : World, (Instr.typeAssert (.iface 86 (.agg #[])) 20 86 true).run Try.prog W = .ok (.tuple #[.agg #[], .bool true]) W := fun _ => by kernel_rfl
  obtain ⟨⟨a, v4, v9, hA⟩, hI, hB, lg, li⟩ := h
  obtain ⟨k0, k1, k2, k3, k4, k5, k6, k7, k8, k9⟩ := hA.ten
  have i0 : w.cell? ⟨i, 0, none⟩ = some (.bool false) := (blk_cell hI 0).trans rfl
  have hli : i < w.heap.size := blk_lt hI
  have hlg := hA.lt
  have hfr : (#[.pointer (some ⟨g, 0, none⟩), .pointer (some ⟨i, 0, none⟩)] ++ ((Array.replicate 15 undef).setIfInBounds 3 (Value.iface 86 (.agg #[]))).setIfInBounds 0 (Value.iface 86 (.agg #[])) : Array Value) = #[.pointer (some ⟨g, 0, none⟩), .pointer (some ⟨i, 0, none⟩), .iface 86 (.agg #[]), undef, undef, .iface 86 (.agg #[]), undef, undef, undef, undef, undef, undef, undef, undef, undef, undef, undef] := by rfl
  rw [hfr]
  clear hfr
  have f0 := hA.frz 0
  have f1 := hA.frz 1
  have f2 := hA.frz 2
  have f3 := hA.frz 3
  have f4 := hA.frz 4
  have f5 := hA.frz 5
  have f6 := hA.frz 6
  have f7 := hA.frz 7
  have f8 := hA.frz 8
  have f9 := hA.frz 9
  go_upto_region 5 with (fail)
  have hA1 : ActV (w.alloc (.cells #[] 86)) g a v4 v9 := hA.below (below_alloc (Below.refl _ _) _)
  have hI1 : (w.alloc (.cells #[] 86)).heap[i]? = some (.cells #[.bool false] 4 (0, 0)) := blk_alloc hI
  have hB1 : Below w0.heap.size w0 (w.alloc (.cells #[] 86)) := hB.alloc hB.size _
  generalize w.alloc (.cells #[] 86) = w1 at *
  have H := Aid.hide (And.intro hA1 (And.intro hI1 hB1))
  clear hA1 hI1 hB1 k0 k1 k2 k3 k4 k5 k6 k7 k8 k9 f0 f1 f2 f3 f4 f5 f6 f7 f8 f9 hA hI hB i0
  go_wp2_with ((with_reducible refine wpList_store_act (g := g) (a' := act0) (u4 := .slice none 0 0) (u9 := .slice none 0 0) rfl rfl (.tmp 0) (.tmp 16) rfl rfl rfl rfl rfl (Aid.unhide H).1 ?_); intro w2 hA2 hfar hsame; have hI2 := (hfar i (ty_ne (Aid.unhide H).2.1 (Aid.unhide H).1 (by decide))).trans (Aid.unhide H).2.1; have i2 : w2.cell? ⟨i, 0, none⟩ = some (.bool false) := (blk_cell hI2 0).trans rfl; have iz : w2.frozen? ⟨i, 0, none⟩ = false := by simp [World.frozen?, hI2])
  have hI3 : (w2.setCell ⟨i, 0, none⟩ (.bool false)).heap[i]? = some (.cells #[.bool false] 4 (0, 0)) := by rw [blk_set hI2]; rfl
  have hA3 : ActV (w2.setCell ⟨i, 0, none⟩ (.bool false)) g act0 (.slice none 0 0) (.slice none 0 0) := blk_far hA2 (ty_ne hA2 hI2 (by decide))
  have hB2 : Below w0.heap.size w0 w2 := (Aid.unhide H).2.2.trans ⟨hsame.1, hsame.2.1, hsame.2.2.1, Nat.le_of_eq hsame.2.2.2.symm, fun k hk => hfar k (by omega)⟩
  have hB3 := hB2.setCell (p := ⟨i, 0, none⟩) li (.bool false)
  simp [bodyPostS, results, Try.results42]
  exact ⟨hA3, hI3, hB3⟩
end Go.Proofs.Ytppgbahiolhgbaa
end
