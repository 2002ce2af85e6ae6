/- Contracts and plain laws over the seat, laid together (group 39 of what the claim needs). -/
import Derived.Test.YtppgbahiolhgbaaH35
import Derived.Test.YtppgbahiolhgbaaH38
import Derived.Test.YtppgbahiolhgbaaH33
import Derived.Deep.RegionLaw
import Derived.Deep.AppendLies
import Derived.Outline
import Derived.Test.YtppgbahiolhgbaaH32
import Derived.Test.YtppgbahiolhgbaaH34
import Derived.StillTailTactics
import Derived.Test.YtppgbahiolhgbaaH37
import Derived.Laws.MakeOwn
section
set_option linter.unusedVariables false
set_option linter.unusedSimpArgs false
namespace Go.Proofs.Ytppgbahiolhgbaa
open Go.RowKit Go.Proofs.YtppgbahiolhgbaaW.PrintWords Sp
open PScriptReads
def partsL (d : Int) : List Nat :=
  if d = 1 then [46, 47, 48] else if d = 2 then [46, 49, 50] else if d = 3 ∨ d = 8 then [46] else if d = 4 then [51] else if d = 5 ∨ d = 10 then [46, 52] else if d = 6 ∨ d = 7 then [46, 51] else if d = 9 then [46, 49] else []
abbrev boundV (g T r k : Nat) : Value := .func (.func k) #[formV g T r] #[]
def PartsAt (W : World) (g T r : Nat) (v : Value) (l : List Nat) : Prop :=
  (l = [] ∧ v = .slice none 0 0) ∨ ∃ b, v = .slice (some ⟨b, 0, none⟩) l.length l.length ∧ W.heap[b]? = some (.cells (l.map (boundV g T r)).toArray 1 (0, 0))
def PartsPost (w : World) (g T r : Nat) (d : Int) (e : Ending) (w' : World) : Prop := ∃ v, e = .returned v ∧ PartsAt w' g T r v (partsL d) ∧ Below w.heap.size w w'
set_option maxRecDepth 100000 in
set_option maxHeartbeats 4000000 in
theorem parts35 (g T r : Nat) (d : Int) (w : World) (hd : 0 ≤ d ∧ d ≤ 255) (hp : w.cell? ⟨g, 0, none⟩ = some (.int .u8 d)) :
    Calls Try.prog 35 #[formV g T r] w (PartsPost w g T r d) := by
  have hlp := World.block_lt_of_cell? _ _ hp
  have hmf : ∀ (fn : Fn) (first cap : Array Value) (w : World), (Instr.makeFunc fn first cap).run Try.prog w = .ok (.func fn first cap) w := fun _ _ _ _ => rfl
  by_cases h : 1 ≤ d ∧ d ≤ 10
  · obtain rfl | rfl | rfl | rfl | rfl | rfl | rfl | rfl | rfl | rfl : d = 1 ∨ d = 2 ∨ d = 3 ∨ d = 4 ∨ d = 5 ∨ d = 6 ∨ d = 7 ∨ d = 8 ∨ d = 9 ∨ d = 10 := by omega
    all_goals
      clear h hd
      as_aux_lemma =>
      go_enter Try.func35, Try.ntmps35
      go_wp2
      go_ret
      refine ⟨_, rfl, Or.inr ⟨_, rfl, blk_new (by simp)⟩, ?_⟩
      repeat (first | exact Below.refl _ _ | apply below_alloc | apply below_drew)
  · have e : ∀ k : Int, 1 ≤ k → k ≤ 10 → (d == k) = false := fun k h1 h2 => by rw [beq_eq_false_iff_ne]; omega
    have e1 := e 1 (by omega) (by omega)
    have e2 := e 2 (by omega) (by omega)
    have e3 := e 3 (by omega) (by omega)
    have e4 := e 4 (by omega) (by omega)
    have e5 := e 5 (by omega) (by omega)
    have e6 := e 6 (by omega) (by omega)
    have e7 := e 7 (by omega) (by omega)
    have e8 := e 8 (by omega) (by omega)
    have e9 := e 9 (by omega) (by omega)
    have e10 := e 10 (by omega) (by omega)
    have hl : partsL d = [] := by
      unfold partsL
      rw [if_neg (by omega), if_neg (by omega), if_neg (by omega), if_neg (by omega), if_neg (by omega), if_neg (by omega), if_neg (by omega)]
    have HL := Aid.hide hl
    clear hl e hd h
    go_enter Try.func35, Try.ntmps35
    go_wp2
    go_ret
    refine ⟨_, rfl, Or.inl ⟨Aid.unhide HL, rfl⟩, ?_⟩
    repeat (first | exact Below.refl _ _ | apply below_alloc | apply below_drew)
end Go.Proofs.Ytppgbahiolhgbaa
end
section
set_option linter.unusedVariables false
set_option linter.unusedSimpArgs false
namespace Go.Proofs.Ytppgbahiolhgbaa
open Go.RowKit Go.Proofs.YtppgbahiolhgbaaW.PrintWords Sp
open PScriptReads
def partB (F : Nat) (a : S37) : Bytes :=
  if F = 46 then numsB [a.f1] else if F = 47 then numsB [a.f2] else if F = 51 then numsB [a.f3] else if F = 48 then numsB [(a.f4.length : Int)] ++ a.f4.flatMap giveS else if F = 49 then numsB [a.f5.f0, a.f5.f1, a.f5.f2]
  else if F = 50 then numsB [if a.f6 = true then 1 else 0] else numsB [(a.f7.length : Int)] ++ a.f7.flatMap stepS
theorem partsL_mem {d : Int} {F : Nat} (h : F ∈ partsL d) : F = 46 ∨ F = 47 ∨ F = 48 ∨ F = 49 ∨ F = 50 ∨ F = 51 ∨ F = 52 := by
  unfold partsL at h
  repeat' (split at h)
  all_goals (simp at h; try omega)
theorem partsL_len (d : Int) : (partsL d).length ≤ 3 := by
  unfold partsL
  repeat' split
  all_goals simp
theorem wparts (F : Nat) (h : F = 46 ∨ F = 47 ∨ F = 48 ∨ F = 49 ∨ F = 50 ∨ F = 51 ∨ F = 52) : WPart F (partB F) := by
  obtain rfl | rfl | rfl | rfl | rfl | rfl | rfl := h
  · exact wpart46
  · exact wpart47
  · exact wpart48
  · exact wpart49
  · exact wpart50
  · exact wpart51
  · exact wpart52
theorem partB_len {a : S37} (hm : mayAct a = true) (F : Nat) : (partB F a).length ≤ 200000 := by
  obtain ⟨hd, hf, hg, hst⟩ := may_facts hm
  have n1 : ∀ x : Int, 0 ≤ x ∧ x ≤ 2147483647 → (numsB [x]).length ≤ 9 := fun x hx => numsB_len [x] (by intro y hy; simp at hy; omega)
  have n3 := numsB_len [a.f5.f0, a.f5.f1, a.f5.f2] (by intro y hy; simp at hy; omega)
  simp only [List.length_cons, List.length_nil] at n3
  have e4 : (a.f4.flatMap giveS).length ≤ 16402 * 6 := len_flat (fun x hx => by have := hg x hx; exact len_give (by omega) (by omega)) (by omega)
  have e7 : (a.f7.flatMap stepS).length ≤ 2000 * 64 := len_flat (fun x hx => by obtain ⟨h0, h1, h2, h3, h4, h6, h5, h7⟩ := hst x hx; exact len_step x (by intro n hn; simp at hn; omega) h5 h7 h6) (by omega)
  have l4 := n1 (a.f4.length : Int) (by omega)
  have l7 := n1 (a.f7.length : Int) (by omega)
  have k1 := n1 a.f1 (by omega)
  have k2 := n1 a.f2 (by omega)
  have k3 := n1 a.f3 (by omega)
  have k60 := n1 0 (by omega)
  have k61 := n1 1 (by omega)
  unfold partB
  repeat' split
  all_goals (try rw [List.length_append]) <;> omega
theorem one_parts {a : S37} (hm : mayAct a = true) : oneB a = [UInt8.ofNat a.f0.toNat] ++ (partsL a.f0).flatMap (fun F => partB F a) := by
  obtain ⟨hd, _⟩ := may_facts hm
  have hc : a.f0 = 1 ∨ a.f0 = 2 ∨ a.f0 = 3 ∨ a.f0 = 4 ∨ a.f0 = 5 ∨ a.f0 = 6 ∨ a.f0 = 7 ∨ a.f0 = 8 ∨ a.f0 = 9 ∨ a.f0 = 10 := by omega
  have y : numsB [if a.f6 = true then 1 else 0] = [if a.f6 = true then 1 else 0] := by cases a.f6 <;> rfl
  unfold oneB pOrg pAud pN pGives pTxn pYes pSteps
  rcases hc with h | h | h | h | h | h | h | h | h | h <;> rw [h] <;> simp [partsL, partB, hOrg, hAud, hN, hGives, hTxn, hYes, hSteps, y]
theorem PartsAt.below {W W1 : World} {g T r : Nat} {v : Value} {l : List Nat} (h : PartsAt W g T r v l) (hb : Below W.heap.size W W1) : PartsAt W1 g T r v l := by
  rcases h with h | ⟨b, h1, h2⟩
  · exact .inl h
  · exact .inr ⟨b, h1, blk_of h2 hb⟩
theorem PartsAt.grown {W W1 : World} {g T r : Nat} {v : Value} {l : List Nat} {s : ByteArray} (h : PartsAt W g T r v l) (hR : WrAt W r s) (hg : W.grownBy W1 (some r)) : PartsAt W1 g T r v l := by
  rcases h with h | ⟨b, h1, h2⟩
  · exact .inl h
  · exact .inr ⟨b, h1, Blk.grown h2 (by decide) hR hg⟩
theorem PartsAt.get {W : World} {g T r : Nat} {v : Value} {l : List Nat} (h : PartsAt W g T r v l) : ∃ A, v = .slice A l.length l.length ∧ ∀ (k : Nat) (hk : k < l.length), ∃ b, A = some ⟨b, 0, none⟩ ∧ W.cell? ⟨b, k, none⟩ = some (boundV g T r l[k]) := by
  rcases h with ⟨h1, h2⟩ | ⟨b, h1, h2⟩
  · subst h1; exact ⟨none, h2, fun k hk => absurd hk (by simp)⟩
  · refine ⟨_, h1, fun k hk => ⟨b, rfl, ?_⟩⟩
    have := blk_cell h2 k
    rw [this]
    simp [hk]
theorem one_byte' (v : Int) (h : 1 ≤ v ∧ v ≤ 10) : strOfNums [v] = mk [UInt8.ofNat v.toNat] := by
  have : v = 1 ∨ v = 2 ∨ v = 3 ∨ v = 4 ∨ v = 5 ∨ v = 6 ∨ v = 7 ∨ v = 8 ∨ v = 9 ∨ v = 10 := by omega
  rcases this with h | h | h | h | h | h | h | h | h | h <;> subst h <;> rfl
set_option maxRecDepth 100000 in
set_option maxHeartbeats 8000000 in
theorem written19 (a : S37) (A4 : Option Addr) (c4 : Nat) (A9 : Option Addr) (c9 : Nat) (w : World) (hm : mayAct a = true) (g4 : k48.C w A4 a.f4.length a.f4) (g9 : k51.C w A9 a.f7.length a.f7) (hu : Uns w A9) :
    Calls Try.prog 19 #[.agg (actC a A4 c4 A9 c9)] w fun e w' => e = .returned (.string (mk (oneB a))) ∧ Below w.heap.size w w' := by
  have hcv := fun W => conv_one W a.f0
  have hd := (may_facts hm).1
  have hone := one_parts hm
  have hpl := fun F => partB_len hm F
  have H := Aid.hide (And.intro hm (And.intro g4 (And.intro g9 (And.intro hu (And.intro hone hpl)))))
  clear hm g4 g9 hu hone hpl
  go_enter Try.func19, Try.ntmps19
  go_upto_region 1 with (fail)
  have hA : ActAt (w.alloc (.cells (actC a A4 c4 A9 c9) 37)) w.heap.size a A4 c4 A9 c9 := ActAt.new w
  have hB : Below w.heap.size w (w.alloc (.cells (actC a A4 c4 A9 c9) 37)) := below_alloc (Below.refl _ _) _
  generalize w.alloc (.cells (actC a A4 c4 A9 c9) 37) = w1 at *
  obtain ⟨g, hg⟩ : ∃ g, g = w.heap.size := ⟨_, rfl⟩
  rw [← hg] at hA ⊢
  have hlg : w.heap.size ≤ g := by omega
  have G := Aid.hide hg
  clear hg
  have k0 := hA.ten.k0
  go_cut [3] (fun x wx => ∃ r : Nat, x = .pointer (some ⟨r, 0, none⟩) ∧ WSt w g r a A4 c4 A9 c9 (mk [UInt8.ofNat a.f0.toNat]) wx)
  case first =>
    as_aux_lemma =>
    go_wp2_with (fail)
    go_meet
    refine ⟨_, rfl, ⟨hA.below (by (repeat first | exact Below.refl _ _ | apply below_alloc | apply below_drew)), ?_, hB.trans (Below.mono (B := w1.heap.size) (by (repeat first | exact Below.refl _ _ | apply below_alloc | apply below_drew)) hB.size), ?_, hlg⟩⟩
    · rw [one_byte' a.f0 hd]; exact blk_new (by simp)
    · have := hB.size; simp; omega
  case rest =>
    obtain ⟨r, rfl, hS⟩ := hcut
    clear hA hB k0 hcv
    have k0 := hS.ten.k0
    have hd0 : 0 ≤ a.f0 ∧ a.f0 ≤ 255 := by omega
    obtain ⟨pl, hpl⟩ : ∃ pl, pl = partsL a.f0 := ⟨_, rfl⟩
    have hlen : pl.length ≤ 3 := by rw [hpl]; exact partsL_len _
    have C := Aid.hide (parts35 g 69 r a.f0 wc hd0 k0)
    have PL := Aid.hide hpl
    clear hpl hd0
    go_upto_region 2 with (fail)
    go_cut [15, 16, 17] (fun v n i wx => PartsAt wx g 69 r v pl ∧ n = .int .i64 (pl.length : Int) ∧ i = .int .i64 0 ∧ WSt w g r a A4 c4 A9 c9 (mk [UInt8.ofNat a.f0.toNat]) wx)
    case first =>
      as_aux_lemma =>
      go_wp2_with (go_at_call 35; refine (Aid.unhide C).mono ?_; rintro e1 w2 ⟨v, rfl, hP, hb⟩; rw [← Aid.unhide PL] at hP; obtain ⟨A, rfl, _⟩ := hP.get)
      go_meet
      exact ⟨by assumption, rfl, rfl, hS.below (by assumption)⟩
    case rest =>
      obtain ⟨hP, rfl, rfl, hS'⟩ := hcut
      clear hS k0 C
      obtain ⟨A, rfl, _⟩ := hP.get
      go_wp2_with (fail)
      go_loopw [17] (fun i wr => ∃ k : Nat, i = .int .i64 (k : Int) ∧ k ≤ pl.length ∧ PartsAt wr g 69 r (.slice A pl.length pl.length) pl ∧ WSt w g r a A4 c4 A9 c9 (mk ([UInt8.ofNat a.f0.toNat] ++ (pl.take k).flatMap (fun F => partB F a))) wr) (fun i _ => pl.length - (intOf i).toNat)
      case atStart => exact ⟨0, rfl, by omega, hP, by rw [List.take_zero, List.flatMap_nil, List.append_nil]; exact hS'⟩
      case round =>
        clear hP hS'
        obtain ⟨k, rfl, hk, hP, hS⟩ := hrel
        by_cases hlt : k < pl.length
        · obtain ⟨A', hA', hget⟩ := hP.get
          injection hA' with hA'
          subst hA'
          obtain ⟨b, hAb, hcell⟩ := hget k hlt
          subst hAb
          obtain ⟨hm, g4, g9, hu, hone, hpl⟩ := Aid.unhide H
          have hz : (mk ([UInt8.ofNat a.f0.toNat] ++ (pl.take k).flatMap (fun F => partB F a))).size ≤ 1000000 := by
            rw [size_mk, List.length_append]
            have h1 : ((pl.take k).flatMap (fun F => partB F a)).length ≤ 200000 * 3 := len_flat (fun F _ => hpl F) (by rw [List.length_take]; omega)
            simp only [List.length_cons, List.length_nil]; omega
          have hst : mk ([UInt8.ofNat a.f0.toNat] ++ (pl.take k).flatMap (fun F => partB F a)) ++ mk (partB pl[k] a) = mk ([UInt8.ofNat a.f0.toNat] ++ (pl.take (k + 1)).flatMap (fun F => partB F a)) := by
            rw [mk_app, List.append_assoc, List.take_succ_eq_append_getElem hlt, List.flatMap_append]; simp
          have hF := partsL_mem (d := a.f0) (F := pl[k]) (by rw [← Aid.unhide PL]; exact List.getElem_mem hlt)
          have hC := wparts pl[k] hF w g r a A4 c4 A9 c9 (mk ([UInt8.ofNat a.f0.toNat] ++ (pl.take k).flatMap (fun F => partB F a))) wr hm g4 g9 hu hz hS
          rw [hst] at hC
          generalize mk ([UInt8.ofNat a.f0.toNat] ++ (pl.take k).flatMap (fun F => partB F a)) = sk at *
          generalize pl[k] = F at *
          have C := Aid.hide (And.intro hC hst)
          clear hC hst hz hm g4 g9 hu hone hpl hget
          obtain rfl | rfl | rfl | rfl | rfl | rfl | rfl := hF
          · go_wp2_with (go_at_call 46; refine (Aid.unhide C).1.mono ?_; rintro e1 w2 ⟨rfl, hS2, hg2⟩)
            go_roundw
            case rel => exact ⟨k + 1, by go_num, by omega, hP.grown hS.hR hg2, hS2⟩
            case measure => simp [intOf]; omega
          · go_wp2_with (go_at_call 47; refine (Aid.unhide C).1.mono ?_; rintro e1 w2 ⟨rfl, hS2, hg2⟩)
            go_roundw
            case rel => exact ⟨k + 1, by go_num, by omega, hP.grown hS.hR hg2, hS2⟩
            case measure => simp [intOf]; omega
          · go_wp2_with (go_at_call 48; refine (Aid.unhide C).1.mono ?_; rintro e1 w2 ⟨rfl, hS2, hg2⟩)
            go_roundw
            case rel => exact ⟨k + 1, by go_num, by omega, hP.grown hS.hR hg2, hS2⟩
            case measure => simp [intOf]; omega
          · go_wp2_with (go_at_call 49; refine (Aid.unhide C).1.mono ?_; rintro e1 w2 ⟨rfl, hS2, hg2⟩)
            go_roundw
            case rel => exact ⟨k + 1, by go_num, by omega, hP.grown hS.hR hg2, hS2⟩
            case measure => simp [intOf]; omega
          · go_wp2_with (go_at_call 50; refine (Aid.unhide C).1.mono ?_; rintro e1 w2 ⟨rfl, hS2, hg2⟩)
            go_roundw
            case rel => exact ⟨k + 1, by go_num, by omega, hP.grown hS.hR hg2, hS2⟩
            case measure => simp [intOf]; omega
          · go_wp2_with (go_at_call 51; refine (Aid.unhide C).1.mono ?_; rintro e1 w2 ⟨rfl, hS2, hg2⟩)
            go_roundw
            case rel => exact ⟨k + 1, by go_num, by omega, hP.grown hS.hR hg2, hS2⟩
            case measure => simp [intOf]; omega
          · go_wp2_with (go_at_call 52; refine (Aid.unhide C).1.mono ?_; rintro e1 w2 ⟨rfl, hS2, hg2⟩)
            go_roundw
            case rel => exact ⟨k + 1, by go_num, by omega, hP.grown hS.hR hg2, hS2⟩
            case measure => simp [intOf]; omega
        · obtain rfl : k = pl.length := by omega
          have r0 := hS.hR.cell
          have hlr := hS.hR.lt
          go_wp2_with (fail)
          go_ret
          refine ⟨?_, hS.hB⟩
          rw [(Aid.unhide H).2.2.2.2.1, ← Aid.unhide PL]
          rfl
end Go.Proofs.Ytppgbahiolhgbaa
end
section
set_option linter.unusedVariables false
set_option linter.unusedSimpArgs false
namespace Go.Proofs.Ytppgbahiolhgbaa
open Go.RowKit Go.Proofs.YtppgbahiolhgbaaW.PrintWords Sp
open PScriptReads
abbrev RL := Option Addr × Nat × Nat
def encL (p : RL) : Value := .slice p.1 p.2.1 p.2.2
def kRL : Kd RL := Kd.scalar encL (fun _ => rfl)
abbrev Raw := S51 × RL
def kraw : Kd Raw := Kd.iso (Kd.pair (Kd.int .u8) (Kd.pair (Kd.int .i64) (Kd.pair (Kd.int .i64) (Kd.pair (Kd.int .i64) (Kd.pair (Kd.int .i64) (Kd.pair Kd.string kRL)))))) (fun p : Raw => (p.1.f0, p.1.f1, p.1.f2, p.1.f3, p.1.f4, p.1.f5, p.2))
theorem kraw_sz : kraw.sz = 7 := rfl
abbrev rawC (x : S51) (v : Value) : List Value := [.int .u8 x.f0, .int .i64 x.f1, .int .i64 x.f2, .int .i64 x.f3, .int .i64 x.f4, .string x.f5, v]
theorem kraw_open {w : World} {p : Raw} {cs : List Value} (h : kraw.K w p cs) : cs = rawC p.1 (encL p.2) := by
  obtain ⟨_, _, rfl, rfl, ⟨_, _, rfl, rfl, ⟨_, _, rfl, rfl, ⟨_, _, rfl, rfl, ⟨_, _, rfl, rfl, ⟨_, _, rfl, rfl, rfl⟩⟩⟩⟩⟩⟩ := h
  rfl
theorem kraw_openM {w : World} {base : Nat} {ok : Nat → Prop} {p : Raw} {cs : List Value} (h : kraw.M w base ok p cs) : cs = rawC p.1 (encL p.2) := by
  obtain ⟨_, _, rfl, rfl, ⟨_, _, rfl, rfl, ⟨_, _, rfl, rfl, ⟨_, _, rfl, rfl, ⟨_, _, rfl, rfl, ⟨_, _, rfl, rfl, rfl⟩⟩⟩⟩⟩⟩ := h
  rfl
theorem kraw_mkM (w : World) (base : Nat) (ok : Nat → Prop) (p : Raw) : kraw.M w base ok p (rawC p.1 (encL p.2)) :=
  ⟨[_], _, rfl, rfl, ⟨[_], _, rfl, rfl, ⟨[_], _, rfl, rfl, ⟨[_], _, rfl, rfl, ⟨[_], _, rfl, rfl, ⟨[_], _, rfl, rfl, rfl⟩⟩⟩⟩⟩⟩
theorem kraw_mk (w : World) (p : Raw) : kraw.K w p (rawC p.1 (encL p.2)) := kraw.K_of_M (kraw_mkM w 0 (fun _ => True) p)
theorem raw_of_C {w : World} {A : Option Addr} {xs : List S51} (h : k51.C w A xs.length xs) :
    ∃ ps : List Raw, ps.map (·.1) = xs ∧ kraw.C w A ps.length ps ∧ ∀ p ∈ ps, p.2.2.1 = p.1.f6.length ∧ p.1.f6.length ≤ p.2.2.2 ∧ (Kd.int .i64).C w p.2.1 p.1.f6.length p.1.f6 := by
  obtain ⟨_, h2, h3⟩ := h
  rcases Nat.eq_zero_or_pos xs.length with h0 | h0
  · obtain rfl : xs = [] := List.eq_nil_of_length_eq_zero h0
    exact ⟨[], rfl, ⟨rfl, by simp, fun h => absurd h (by simp)⟩, fun p hp => by simp at hp⟩
  obtain ⟨ad, rfl, hc⟩ := h3 h0
  have key : ∀ (ys : List S51) (m : Nat), (∀ j p, ys[j]? = some p → xs[m + j]? = some p) → ∃ ps : List Raw, ps.map (·.1) = ys ∧ (∀ j p, ps[j]? = some p → ∀ i u, (rawC p.1 (encL p.2))[i]? = some u → w.cell? (ad.add ((m + j) * 7 + i)) = some u) ∧ ∀ p ∈ ps, p.2.2.1 = p.1.f6.length ∧ p.1.f6.length ≤ p.2.2.2 ∧ (Kd.int .i64).C w p.2.1 p.1.f6.length p.1.f6 := by
    intro ys
    induction ys with
    | nil => intro m _; exact ⟨[], rfl, fun j p h => by simp at h, fun p hp => by simp at hp⟩
    | cons y t ih =>
      intro m hm
      obtain ⟨ps, e1, e2, e3⟩ := ih (m + 1) (fun j p hj => by have := hm (j + 1) p (by simpa using hj); rwa [show m + (j + 1) = m + 1 + j from by omega] at this)
      obtain ⟨c, cl, cK, ca⟩ := hc m y (by simpa using hm 0 y rfl)
      obtain ⟨A6, c6, rfl, l6, g6⟩ := k51_open cK
      refine ⟨(y, (A6, y.f6.length, c6)) :: ps, by simp [e1], fun j p hj i u hi => ?_, fun p hp => ?_⟩
      · cases j with
        | zero =>
          simp only [List.getElem?_cons_zero, Option.some.injEq] at hj
          subst hj
          exact ca i u hi
        | succ j =>
          have := e2 j p (by simpa using hj) i u hi
          rwa [show m + (j + 1) = m + 1 + j from by omega]
      · rcases List.mem_cons.1 hp with rfl | hp
        · exact ⟨rfl, l6, g6⟩
        · exact e3 p hp
  obtain ⟨ps, e1, e2, e3⟩ := key xs 0 (fun j p h => by simpa using h)
  have el : ps.length = xs.length := by rw [← e1, List.length_map]
  refine ⟨ps, e1, ⟨rfl, by omega, fun _ => ⟨ad, rfl, fun j p hj => ⟨rawC p.1 (encL p.2), rfl, kraw_mk w p, fun i u hi => ?_⟩⟩⟩, e3⟩
  have := e2 j p hj i u hi
  rwa [Nat.zero_add] at this
theorem R_of_raw {w : World} {base : Nat} {v : Value} {ps : List Raw} {ok : Nat → Prop} (h : kraw.R 51 w base ok v ps) (hl : ∀ p ∈ ps, (Kd.int .i64).R 3 w base (fun k => ok k ∧ some k ≠ v.ownBlock) (encL p.2) p.1.f6) : k51.R 51 w base ok v (ps.map (·.1)) := by
  obtain ⟨h0, inner, ho, hr⟩ := h
  refine ⟨h0, inner, by rw [List.length_map]; exact ho, ⟨by rw [List.length_map]; exact hr.1, fun j p hj => ?_⟩⟩
  rw [List.getElem?_map] at hj
  obtain ⟨q, hq, rfl⟩ := Option.map_eq_some_iff.1 hj
  have hM := kraw_openM (hr.2 j q hq)
  have e : (kraw.sz) = k51.sz := rfl
  rw [← e, hM]
  exact k51_mkM w base _ q.1 (hl q (List.mem_of_getElem? hq))
end Go.Proofs.Ytppgbahiolhgbaa
end
section
set_option linter.unusedVariables false
set_option linter.unusedSimpArgs false
namespace Go.Proofs.Ytppgbahiolhgbaa
open Go.RowKit Go.Proofs.YtppgbahiolhgbaaW.PrintWords Sp
open PScriptReads
theorem inf3 : (Try.prog.info? 3).map (fun i => (i.zero, i.size, i.bytes)) = some (some (.int .i64 0), 1, 8) := by kernel_rfl
theorem inf48 : (Try.prog.info? 48).map (fun i => (i.zero, i.size, i.bytes)) = some (some (.agg #[.int .i64 0, .string ⟨#[]⟩]), 2, 24) := by kernel_rfl
theorem inf51 : (Try.prog.info? 51).map (fun i => (i.zero, i.size, i.bytes)) = some (some (.agg #[.int .u8 0, .int .i64 0, .int .i64 0, .int .i64 0, .int .i64 0, .string ⟨#[]⟩, .slice none 0 0]), 7, 80) := by kernel_rfl
theorem inf37 : (Try.prog.info? 37).map (fun i => (i.zero, i.size, i.bytes)) = some (some (.agg #[.int .u8 0, .int .i64 0, .int .i64 0, .int .i64 0, .slice none 0 0, .int .i64 0, .int .i64 0, .int .i64 0, .bool false, .slice none 0 0]), 10, 112) := by kernel_rfl
abbrev actW (a : S37) (v4 v9 : Value) : Array Value := #[.int .u8 a.f0, .int .i64 a.f1, .int .i64 a.f2, .int .i64 a.f3, v4, .int .i64 a.f5.f0, .int .i64 a.f5.f1, .int .i64 a.f5.f2, .bool a.f6, v9]
def ActV (W : World) (g : Nat) (a : S37) (v4 v9 : Value) : Prop := W.heap[g]? = some (.cells (actW a v4 v9) 37 (0, 0))
structure TenV (W : World) (g : Nat) (a : S37) (v4 v9 : Value) : Prop where
  k0 : W.cell? ⟨g, 0, none⟩ = some (.int .u8 a.f0)
  k1 : W.cell? ⟨g, 1, none⟩ = some (.int .i64 a.f1)
  k2 : W.cell? ⟨g, 2, none⟩ = some (.int .i64 a.f2)
  k3 : W.cell? ⟨g, 3, none⟩ = some (.int .i64 a.f3)
  k4 : W.cell? ⟨g, 4, none⟩ = some v4
  k5 : W.cell? ⟨g, 5, none⟩ = some (.int .i64 a.f5.f0)
  k6 : W.cell? ⟨g, 6, none⟩ = some (.int .i64 a.f5.f1)
  k7 : W.cell? ⟨g, 7, none⟩ = some (.int .i64 a.f5.f2)
  k8 : W.cell? ⟨g, 8, none⟩ = some (.bool a.f6)
  k9 : W.cell? ⟨g, 9, none⟩ = some v9
section
variable {W W1 : World} {g : Nat} {a : S37} {v4 v9 u : Value}
theorem ActV.ten (h : ActV W g a v4 v9) : TenV W g a v4 v9 :=
  ⟨(blk_cell h 0).trans rfl, (blk_cell h 1).trans rfl, (blk_cell h 2).trans rfl, (blk_cell h 3).trans rfl, (blk_cell h 4).trans rfl, (blk_cell h 5).trans rfl, (blk_cell h 6).trans rfl, (blk_cell h 7).trans rfl, (blk_cell h 8).trans rfl, (blk_cell h 9).trans rfl⟩
theorem ActV.lt (h : ActV W g a v4 v9) : g < W.heap.size := blk_lt h
theorem ActV.frz (h : ActV W g a v4 v9) (o : Nat) : W.frozen? ⟨g, o, none⟩ = false := by
  unfold ActV at h
  simp [World.frozen?, h]
theorem ActV.below (h : ActV W g a v4 v9) (hb : Below W.heap.size W W1) : ActV W1 g a v4 v9 := blk_of h hb
theorem ActV.grown (h : ActV W g a v4 v9) {row : Option Nat} (hg : W.grownBy W1 row) (hne : some g ≠ row) : ActV W1 g a v4 v9 := blk_grown h hg hne
theorem ActV.set4 (h : ActV W g a v4 v9) : ActV (W.setCell ⟨g, 4, none⟩ u) g a u v9 := by unfold ActV at *; rw [blk_set h]; rfl
theorem ActV.set9 (h : ActV W g a v4 v9) : ActV (W.setCell ⟨g, 9, none⟩ u) g a v4 u := by unfold ActV at *; rw [blk_set h]; rfl
end
structure OwnSt (w : World) (g k : Nat) (x : S37) (out : Value) (done : List S37) (v4 v9 : Value) (ps : List Raw) (W : World) : Prop where
  hA : ActV W g x v4 v9
  hG : k48.R 48 W w.heap.size (fun b => g < b) v4 x.f4
  hS : kraw.R 51 W w.heap.size (fun b => g < b) v9 ps
  hP : ps.map (·.1) = x.f7
  hD : ∀ i p, ps[i]? = some p → i < k → (Kd.int .i64).R 3 W w.heap.size (fun b => g < b) (encL p.2) p.1.f6
  hT : ∀ i p, ps[i]? = some p → k ≤ i → p.2.2.1 = p.1.f6.length ∧ p.1.f6.length ≤ p.2.2.2 ∧ (Kd.int .i64).C w p.2.1 p.1.f6.length p.1.f6
  hO : k37.R 37 W w.heap.size (fun b => b < g) out done
  hB : Below w.heap.size w W
  hg : w.heap.size ≤ g
section
variable {w W W1 : World} {g k : Nat} {x : S37} {out : Value} {done : List S37} {v4 v9 : Value} {ps : List Raw}
theorem OwnSt.below (h : OwnSt w g k x out done v4 v9 ps W) (hb : Below W.heap.size W W1) : OwnSt w g k x out done v4 v9 ps W1 :=
  ⟨h.hA.below hb, Kd.R_below h.hG hb, Kd.R_below h.hS hb, h.hP, fun i p hi hk => Kd.R_below (h.hD i p hi hk) hb, h.hT, Kd.R_below h.hO hb, h.hB.trans (hb.mono h.hB.size), h.hg⟩
end
theorem own_block {w : World} {base e size n : Nat} {A : Option Addr} {m c : Nat} {xs : List Value} (h : w.ownsRow base e size (.slice A m c) n xs) (hn : 0 < n) : ∃ sb cur, A = some ⟨sb, 0, none⟩ ∧ w.heap[sb]? = some (.cells cur e (0, 0)) := by
  rcases h.2 with ⟨h1, h2⟩ | ⟨g, cap, cur, h1, _, h3, _⟩
  · omega
  · injection h1 with h1 _ _
    exact ⟨g, cur, h1, h3⟩
theorem kraw_take6 (x : S51) (v u : Value) : (rawC x v).take 6 ++ [u] ++ (rawC x v).drop (6 + [u].length) = rawC x u := rfl
theorem OwnSt.put {w W W2 : World} {g k sb n d9 : Nat} {x : S37} {out : Value} {done : List S37} {v4 : Value} {ps : List Raw} (h : OwnSt w g k x out done v4 (.slice (some ⟨sb, 0, none⟩) n d9) ps W) {p : Raw} (hp : ps[k]? = some p) {q : RL}
    (hgr : W.grownBy W2 none) (hR1 : (Kd.int .i64).R 3 W2 w.heap.size (fun b => g < b) (encL q) p.1.f6) :
    OwnSt w g (k + 1) x out done v4 (.slice (some ⟨sb, 0, none⟩) n d9) (ps.set k (p.1, q)) (W2.setCell ⟨sb, k * 7 + 6, none⟩ (encL q)) := by
  obtain ⟨hk, _⟩ := List.getElem?_eq_some_iff.1 hp
  have hS2 := Kd.R_grown h.hS hgr (fun _ _ => by simp)
  have hgs : g < sb := h.hS.1 sb rfl
  obtain ⟨inner, ho⟩ := Kd.R_own hS2
  obtain ⟨sb', cur, e1, hb⟩ := own_block ho (by omega)
  injection e1 with e1
  injection e1 with e1 _ _
  subst e1
  have hn : n = ps.length := (Kd.R_reads' hS2).1
  have hC := (Kd.R_reads' hS2).2.2
  have hcell : ∀ j u, (rawC p.1 (encL p.2))[j]? = some u → W2.cell? ⟨sb, (k : Int).toNat * kraw.sz + j, none⟩ = some u := by
    intro j u hj
    obtain ⟨ad, c, hA, hl, hK, hc⟩ := Kd.C_get hC (z51, (none, 0, 0)) (k : Int) (by omega) (by omega)
    injection hA with hA
    subst hA
    rw [Int.toNat_natCast, List.getD_eq_getElem?_getD, hp] at hK
    have := kraw_open hK
    subst this
    have h2 := hc j u hj
    have e : (⟨sb, 0, none⟩ : Addr).add ((k : Int).toNat * kraw.sz + j) = ⟨sb, (k : Int).toNat * kraw.sz + j, none⟩ := by
      by_cases h0 : (k : Int).toNat * kraw.sz + j = 0
      · rw [h0]; rfl
      · unfold Addr.add; rw [if_neg h0]; simp
    rwa [e] at h2
  have hseg := Kd.R_seg hS2 (k : Int) (by omega) (by omega) (c := rawC p.1 (encL p.2)) (seg := [encL q]) (j := 6) rfl hcell (by show 6 + 1 ≤ 7; omega) (x' := (p.1, q)) (okp := fun _ => False) (by rw [kraw_take6]; exact kraw_mkM _ _ _ (p.1, q)) (fun _ hk => hk.elim)
  rw [Int.toNat_natCast, kraw_sz] at hseg
  have hset : W2.setCells sb (k * 7 + 6) [encL q] = W2.setCell ⟨sb, k * 7 + 6, none⟩ (encL q) := rfl
  rw [hset] at hseg
  have hA2 := h.hA.grown hgr (by simp)
  have hbg : Below g W W2 := ⟨hgr.os, hgr.tape, hgr.output, hgr.size, fun b hb => hgr.block b (by have := h.hA.lt; omega) (by simp)⟩
  have hbs : Below g W2 (W2.setCell ⟨sb, k * 7 + 6, none⟩ (encL q)) := (Below.refl _ _).setCell (Nat.le_of_lt hgs) _
  refine ⟨blk_far hA2 (by omega), Kd.R_set (Kd.R_grown h.hG hgr (fun _ _ => by simp)) hb (by decide) _ _, hseg.1, ?_, fun i p' hi hik => ?_, fun i p' hi hik => ?_, Kd.R_step (Kd.R_step h.hO (fun b hb _ => hbg.block b hb)) (fun b hb _ => hbs.block b hb), ?_, h.hg⟩
  · rw [List.map_set]
    have : ps.map (·.1) = (ps.map (·.1)).set k p.1 := by
      symm
      apply List.ext_getElem?
      intro i
      rw [List.getElem?_set]
      split
      · rename_i e; subst e
        rw [List.getElem?_map, hp]; simp [hk]
      · rfl
    rw [← this]; exact h.hP
  · by_cases e : i = k
    · subst e
      rw [List.getElem?_set_self hk] at hi
      injection hi with hi
      subst hi
      exact Kd.R_set hR1 hb (by decide) _ _
    · rw [List.getElem?_set_ne (by omega)] at hi
      exact Kd.R_set (Kd.R_grown (h.hD i p' hi (by omega)) hgr (fun _ _ => by simp)) hb (by decide) _ _
  · rw [List.getElem?_set_ne (by omega)] at hi
    exact h.hT i p' hi (by omega)
  · exact (h.hB.trans ⟨hgr.os, hgr.tape, hgr.output, hgr.size, fun b hb => hgr.block b (Nat.lt_of_lt_of_le hb h.hB.size) (by simp)⟩).setCell (by have := h.hg; show w.heap.size ≤ sb; omega) _
def OwnPost (w : World) (l : List S37) (e : Ending) (w' : World) : Prop := ∃ v, e = .returned v ∧ k37.R 37 w' w.heap.size (fun _ => True) v l ∧ Below w.heap.size w w'
def OwnRel (w : World) (l : List S37) (v i : Value) (wr : World) : Prop := ∃ j : Nat, i = .int .i64 (j : Int) ∧ j ≤ l.length ∧ k37.R 37 wr w.heap.size (fun _ => True) v (l.take j) ∧ Below w.heap.size w wr
theorem k48_flat {w W : World} {base : Nat} {ok : Nat → Prop} {x : S48} {cs : List Value} (h : k48.K w x cs) : k48.M W base ok x cs := by
  obtain rfl := k48_open h
  exact k48_mkM W base ok x
theorem kraw_flat {w W : World} {base : Nat} {ok : Nat → Prop} {x : Raw} {cs : List Value} (h : kraw.K w x cs) : kraw.M W base ok x cs := by
  obtain rfl := kraw_open h
  exact kraw_mkM W base ok x
set_option maxRecDepth 100000 in
set_option maxHeartbeats 8000000 in
theorem own9 (A : Option Addr) (c : Nat) (l : List S37) (w : World) (hr : k37.C w A l.length l) (hc : l.length ≤ c) (hl : l.length ≤ 1000) (h4 : ∀ x ∈ l, x.f4.length ≤ 1000 ∧ x.f7.length ≤ 1000 ∧ ∀ y ∈ x.f7, y.f6.length ≤ 1000) :
    Calls Try.prog 9 #[.slice A l.length c] w (OwnPost w l) := by
  have H := Aid.hide (And.intro hr h4)
  clear hr h4
  go_enter Try.func9, Try.ntmps9
  go_wp2_with (fail)
  go_loopw [3, 4] (OwnRel w l) (fun _ i _ => l.length - (intOf i).toNat)
  case atStart => exact ⟨0, rfl, by omega, by rw [List.take_zero]; exact Kd.R_nil _ _ _ _ _, Below.refl _ _⟩
  case round =>
    obtain ⟨j, rfl, hj, hO, hB⟩ := hrel
    by_cases hlt : j < l.length
    · obtain ⟨hr, h4⟩ := Aid.unhide H
      obtain ⟨ad, A4, c4, A9, c9, hA, e0, e1, e2, e3, e4, e5, e6, e7, e8, e9, l4, g4, l9, g9⟩ := at_T37 (Kd.C_below hr hB) (j : Int) (by omega) (by omega)
      have hm : rd_T37 l (j : Int) ∈ l := by
        unfold rd_T37; rw [Int.toNat_natCast, List.getD_eq_getElem?_getD, List.getElem?_eq_getElem hlt]; exact List.getElem_mem hlt
      have htk : l.take (j + 1) = l.take j ++ [rd_T37 l (j : Int)] := by
        rw [List.take_succ_eq_append_getElem hlt]
        unfold rd_T37; rw [Int.toNat_natCast, List.getD_eq_getElem?_getD, List.getElem?_eq_getElem hlt]; simp
      obtain ⟨b4, b7, b6⟩ := h4 _ hm
      obtain ⟨_, _, g40, _, g90⟩ : ∃ c4 c9, k48.C w A4 (rd_T37 l (j : Int)).f4.length (rd_T37 l (j : Int)).f4 ∧ True ∧ k51.C w A9 (rd_T37 l (j : Int)).f7.length (rd_T37 l (j : Int)).f7 := by
        obtain ⟨ad', A4', c4', A9', c9', hA', _, _, _, _, q4, _, _, _, _, q9, _, g4', _, g9'⟩ := at_T37 hr (j : Int) (by omega) (by omega)
        rw [hA] at hA'
        injection hA' with hA'
        subst hA'
        have q4 := ((hB.cell (World.block_lt_of_cell? _ _ q4)).trans q4).symm.trans e4
        have q9 := ((hB.cell (World.block_lt_of_cell? _ _ q9)).trans q9).symm.trans e9
        injection q4 with q4; injection q4 with q4 _ _
        injection q9 with q9; injection q9 with q9 _ _
        subst q4; subst q9
        exact ⟨0, 0, g4', trivial, g9'⟩
      generalize rd_T37 l (j : Int) = x at *
      rw [Int.toNat_natCast] at e0 e1 e2 e3 e4 e5 e6 e7 e8 e9
      obtain ⟨ps, hps, hC9, hlist⟩ := raw_of_C g90
      have B := Aid.hide (And.intro htk (And.intro b6 (And.intro g40 (And.intro hC9 (And.intro hps hlist)))))
      clear hr h4 hm htk b6 g40 hC9 hlist g4 g9
      subst hA
      obtain ⟨y0, y1, y2, y3, y4, ⟨y50, y51, y52⟩, y6, y7⟩ := x
      simp only at e0 e1 e2 e3 e4 e5 e6 e7 e8 e9 l4 l9 b4 b7
      go_upto_region 6 with (fail)
      have hA0 : ActV (wr.alloc (.cells #[.int .u8 y0, .int .i64 y1, .int .i64 y2, .int .i64 y3, .slice A4 y4.length c4, .int .i64 y50, .int .i64 y51, .int .i64 y52, .bool y6, .slice A9 y7.length c9] 37)) wr.heap.size ⟨y0, y1, y2, y3, y4, ⟨y50, y51, y52⟩, y6, y7⟩ (.slice A4 y4.length c4) (.slice A9 y7.length c9) := blk_new rfl
      have hb0 : Below wr.heap.size wr (wr.alloc (.cells #[.int .u8 y0, .int .i64 y1, .int .i64 y2, .int .i64 y3, .slice A4 y4.length c4, .int .i64 y50, .int .i64 y51, .int .i64 y52, .bool y6, .slice A9 y7.length c9] 37)) := below_alloc (Below.refl _ _) _
      have hO0 := Kd.R_below (Kd.R_mono (ok' := fun b => b < wr.heap.size) (Kd.R_bound hO) (fun k hk => hk.2.2.1)) hb0
      have hB0 := hB.trans (hb0.mono hB.size)
      have hgs : w.heap.size ≤ wr.heap.size := hB.size
      generalize wr.alloc (.cells #[.int .u8 y0, .int .i64 y1, .int .i64 y2, .int .i64 y3, .slice A4 y4.length c4, .int .i64 y50, .int .i64 y51, .int .i64 y52, .bool y6, .slice A9 y7.length c9] 37) = wx at *
      generalize wr.heap.size = g at hA0 hO0 hgs ⊢
      clear hO hB hb0 e0 e1 e2 e3 e4 e5 e6 e7 e8 e9
      have HR4 : k48.C wx A4 y4.length y4 := Kd.C_below (Aid.unhide B).2.2.1 hB0
      have K4 := Aid.hide (And.intro HR4 (And.intro hA0 (And.intro hO0 hB0)))
      have k4 := hA0.ten.k4
      have hlg := hA0.lt
      clear HR4 hA0 hO0 hB0
      go_upto_region 7 with ((at_builtin; refine Kd.R_append_rows k48 (w0 := w) (W := wx) w.heap.size rfl (.const (.slice none 0 0)) (.tmp 18) 32 48 (.agg #[.int .i64 0, .string ⟨#[]⟩]) 24 rfl Try.underlying32 inf48 rfl (by decide) (by decide) (.slice none 0 0) [] y4 A4 y4.length c4 (fun b => g < b) (fun _ => False) rfl rfl (Kd.R_nil _ _ _ _ _) (Aid.unhide K4).1 (fun x cs h => k48_flat h) (fun _ hk => hk.elim) ?c1 (Aid.unhide K4).2.2.2 (Aid.unhide K4).2.2.2.size ?c2 ?_; (case c1 => intro k hk; show g < k; omega); (case c2 => simp; omega); intro v4 w1 hR4 hB1 hg1 hat1; rw [List.nil_append] at hR4; obtain ⟨V4, d4, rfl⟩ := Kd.R_slice hR4; have hA1 := ActV.grown (Aid.unhide K4).2.1 hg1 (by simp [Value.ownBlock]); have k4 := hA1.ten.k4; have f4 := hA1.frz 4))
      have hb4 : Below g w1 (w1.setCell ⟨g, 4, none⟩ (.slice V4 y4.length d4)) := (Below.refl _ _).setCell (Nat.le_refl g) _
      have hbx : Below w.heap.size wx w1 := ⟨hg1.os, hg1.tape, hg1.output, hg1.size, fun k hk => hg1.block k (Nat.lt_of_lt_of_le hk (Aid.unhide K4).2.2.2.size) (by simp [Value.ownBlock])⟩
      have hbg : Below g wx w1 := ⟨hg1.os, hg1.tape, hg1.output, hg1.size, fun k hk => hg1.block k (by omega) (by simp [Value.ownBlock])⟩
      have hA2 := hA1.set4 (u := .slice V4 y4.length d4)
      have hG2 := Kd.R_far (p := ⟨g, 4, none⟩) hR4 (fun k hk => Nat.ne_of_gt hk) (.slice V4 y4.length d4)
      have hO2 := Kd.R_step (Kd.R_step (Aid.unhide K4).2.2.1 (fun k hk _ => hbg.block k hk)) (fun k hk _ => hb4.block k hk)
      have hB2 : Below w.heap.size w (w1.setCell ⟨g, 4, none⟩ (.slice V4 y4.length d4)) := hB1.setCell hgs _
      clear hb4 hbx hbg hR4 hB1 hg1 hat1 hA1 k4 f4 K4
      have hlg2 := hA2.lt
      generalize w1.setCell ⟨g, 4, none⟩ (.slice V4 y4.length d4) = wy at *
      have HR9 : kraw.C wy A9 ps.length ps := Kd.C_below (Aid.unhide B).2.2.2.1 hB2
      have hpl : ps.length = y7.length := by have := congrArg List.length hps; simpa using this
      rw [hpl] at HR9
      rw [← hpl] at b7
      have HPL := Aid.hide hpl
      clear hpl
      have k9 := hA2.ten.k9
      have K9 := Aid.hide (And.intro HR9 (And.intro hA2 (And.intro hG2 (And.intro hO2 (And.intro hB2 hps)))))
      clear HR9 hA2 hG2 hO2 hB2 hps hlg
      go_upto_region 8 with ((at_builtin; refine Kd.R_append_rows kraw (w0 := w) (W := wy) w.heap.size rfl (.const (.slice none 0 0)) (.tmp 22) 35 51 (.agg #[.int .u8 0, .int .i64 0, .int .i64 0, .int .i64 0, .int .i64 0, .string ⟨#[]⟩, .slice none 0 0]) 80 rfl Try.underlying35 inf51 rfl (by decide) (by decide) (.slice none 0 0) [] ps A9 y7.length c9 (fun b => g < b) (fun _ => False) rfl rfl (Kd.R_nil _ _ _ _ _) (Aid.unhide K9).1 (fun x cs h => kraw_flat h) (fun _ hk => hk.elim) ?c1 (Aid.unhide K9).2.2.2.2.1 (Aid.unhide K9).2.2.2.2.1.size ?c2 ?_; (case c1 => intro k hk; show g < k; omega); (case c2 => have := Aid.unhide HPL; simp; omega); intro v9 w1 hR9 hB1 hg1 hat1; rw [List.nil_append] at hR9; obtain ⟨V9, d9, rfl⟩ := Kd.R_slice hR9; have hA1 := ActV.grown (Aid.unhide K9).2.1 hg1 (by simp [Value.ownBlock]); have k9 := hA1.ten.k9; have f9 := hA1.frz 9))
      have hb4 : Below g w1 (w1.setCell ⟨g, 9, none⟩ (.slice V9 ps.length d9)) := (Below.refl _ _).setCell (Nat.le_refl g) _
      have hbg : Below g wy w1 := ⟨hg1.os, hg1.tape, hg1.output, hg1.size, fun k hk => hg1.block k (by omega) (by simp [Value.ownBlock])⟩
      have hG1 := Kd.R_grown (Aid.unhide K9).2.2.1 hg1 (fun k _ => by simp [Value.ownBlock])
      have hS0 : OwnSt w g 0 ⟨y0, y1, y2, y3, y4, ⟨y50, y51, y52⟩, y6, y7⟩ u3 (l.take j) (.slice V4 y4.length d4) (.slice V9 ps.length d9) ps (w1.setCell ⟨g, 9, none⟩ (.slice V9 ps.length d9)) :=
        ⟨hA1.set9, Kd.R_far (p := ⟨g, 9, none⟩) hG1 (fun k hk => Nat.ne_of_gt hk) _, Kd.R_far (p := ⟨g, 9, none⟩) hR9 (fun k hk => Nat.ne_of_gt hk) _, (Aid.unhide K9).2.2.2.2.2, fun i p hi hk => absurd hk (by omega),
          fun i p hi _ => (Aid.unhide B).2.2.2.2.2 p (List.mem_of_getElem? hi), Kd.R_step (Kd.R_step (Aid.unhide K9).2.2.2.1 (fun k hk _ => hbg.block k hk)) (fun k hk _ => hb4.block k hk), hB1.setCell hgs _, hgs⟩
      clear hb4 hbg hG1 hR9 hB1 hg1 hat1 hA1 k9 f9 K9
      generalize w1.setCell ⟨g, 9, none⟩ (.slice V9 ps.length d9) = wz at *
      obtain ⟨n7, hn7⟩ : ∃ n, n = ps.length := ⟨_, rfl⟩
      rw [← hn7] at hS0 b7 ⊢
      obtain ⟨xx, hxx⟩ : ∃ xx : S37, xx = ⟨y0, y1, y2, y3, y4, ⟨y50, y51, y52⟩, y6, y7⟩ := ⟨_, rfl⟩
      rw [← hxx] at hS0
      have XX := Aid.hide (And.intro hxx hn7)
      have hn7' := Eq.symm hn7
      clear hxx hn7
      go_wp2_with (fail)
      obtain ⟨wo, hwo⟩ : ∃ wo, wo = wr := ⟨_, rfl⟩
      clear hwo
      go_loopw [6] (fun i wr => ∃ (k : Nat) (qs : List Raw), i = .int .i64 (k : Int) ∧ k ≤ n7 ∧ Hid (qs.length = n7) ∧ OwnSt w g k xx u3 (l.take j) (.slice V4 y4.length d4) (.slice V9 n7 d9) qs wr) (fun i _ => n7 - (intOf i).toNat)
      case atStart => exact ⟨0, ps, rfl, by omega, hn7', hS0⟩
      case round =>
        clear hS0 hn7'
        obtain ⟨k, qs, rfl, hk, hql, hS⟩ := hrel
        by_cases hlt7 : k < n7
        · obtain ⟨p, hp⟩ : ∃ p, qs[k]? = some p := ⟨qs[k]'(by rw [hql.out]; omega), List.getElem?_eq_getElem _⟩
          obtain ⟨hpl, hpc, hpC⟩ := hS.hT k p hp (Nat.le_refl _)
          obtain ⟨inner, ho⟩ := Kd.R_own hS.hS
          obtain ⟨sb, cur, hV, hblk⟩ := own_block ho (by rw [hql.out]; omega)
          subst hV
          have hC := (Kd.R_reads' hS.hS).2.2
          have hl6 : p.1.f6.length ≤ 1000 := by
            have hx := (Aid.unhide XX).1
            have : p.1 ∈ xx.f7 := by rw [← hS.hP]; exact List.mem_map.2 ⟨p, List.mem_of_getElem? hp, rfl⟩
            rw [hx] at this
            exact (Aid.unhide B).2.1 _ this
          have hcell : wr.cell? ⟨sb, k * 7 + 6, none⟩ = some (encL p.2) := by
            obtain ⟨ad, c, hA, hl, hK, hc⟩ := Kd.C_get hC (z51, (none, 0, 0)) (k : Int) (by omega) (by rw [hql.out]; omega)
            injection hA with hA
            subst hA
            rw [Int.toNat_natCast, List.getD_eq_getElem?_getD, hp] at hK
            have := kraw_open hK
            subst this
            have h2 := hc 6 _ rfl
            rw [Int.toNat_natCast] at h2
            have e : (⟨sb, 0, none⟩ : Addr).add (k * kraw.sz + 6) = ⟨sb, k * 7 + 6, none⟩ := by
              unfold Addr.add; rw [if_neg (by omega), kraw_sz]; simp
            rwa [e] at h2
          have hfz : wr.frozen? ⟨sb, k * 7 + 6, none⟩ = false := by simp [World.frozen?, hblk]
          have k9 := hS.hA.ten.k9
          obtain ⟨px, pA, pn, pc⟩ := p
          simp only at hpl hpc hpC hl6
          simp only [encL] at hcell
          subst hpl
          have hls : sb < wr.heap.size := blk_lt hblk
          have hlg3 := hS.hA.lt
          have C := Aid.hide (And.intro hS (And.intro hp (And.intro hpC hblk)))
          clear hS hp hpC hC ho hblk hpc
          obtain ⟨m6, hm6⟩ : ∃ m, m = px.f6.length := ⟨_, rfl⟩
          rw [← hm6] at hl6 hcell
          have M6 := Aid.hide hm6
          clear hm6
          go_upto_region 11 with (fail)
          go_region_law ((refine Kd.R_append_rows_step (Kd.int .i64) (w0 := w) w.heap.size ?hw (.const (.slice none 0 0)) (.tmp 40) 49 3 (.int .i64 0) 8 rfl Try.underlying49 inf3 rfl (by decide) (by decide) (.slice none 0 0) [] px.f6 pA m6 pc (fun b => g < b) (fun _ => False) rfl rfl (Kd.R_nil _ _ _ _ _) (Kd.C_below (w := w) (by rw [Aid.unhide M6]; exact (Aid.unhide C).2.2.1) (by (repeat first | exact (Aid.unhide C).1.hB | apply below_drew))) (fun x cs h => h) (fun _ hk => hk.elim) ?c1 (by (repeat first | exact (Aid.unhide C).1.hB | apply below_drew)) ?c3 ?c2 ?_; (case hw => simp [Region.wanted]); (case c1 => intro k hk; show g < k; simp at hk; omega); (case c3 => have := (Aid.unhide C).1.hB.size; simpa using this); (case c2 => simp; omega); intro v1 w2 hR1 hB1 hg1 hat1; rw [List.nil_append] at hR1; obtain ⟨V1, d1, rfl⟩ := Kd.R_slice hR1; have hc2 := (Go.World.grownBy.cell_far hg1 ⟨sb, k * 7 + 6, none⟩ hls (by simp [Value.ownBlock])).trans hcell; have hf2 := (Go.World.grownBy.frozen_far hg1 ⟨sb, k * 7 + 6, none⟩ hls (by simp [Value.ownBlock])).trans hfz; have k9 := (Go.World.grownBy.cell_far hg1 ⟨g, 9, none⟩ hlg3 (by simp [Value.ownBlock])).trans k9))
          all_goals
            have hgr : wr.grownBy w2 none := ⟨hg1.os, hg1.tape, hg1.output, hg1.size, hg1.block⟩
            have hnext := OwnSt.put (Aid.unhide C).1 (Aid.unhide C).2.1 (q := (V1, px.f6.length, d1)) hgr hR1
            clear hR1 hB1 hg1 hat1 hgr hc2 hf2
            go_wp2_with (fail)
            go_roundw
            case rel => exact ⟨k + 1, _, by go_num, by omega, (by show _ = _; rw [List.length_set]; exact hql), hnext⟩
            case measure => simp [intOf]; omega
        · obtain rfl : k = n7 := by omega
          have g9 : k51.R 51 wr w.heap.size (fun b => g < b) (.slice V9 k d9) xx.f7 := by
            rw [← hS.hP]
            refine R_of_raw hS.hS (fun p hp => ?_)
            obtain ⟨i, hi, hpi⟩ := List.mem_iff_getElem.1 hp
            have hR := hS.hD i p (by rw [← hpi]; exact List.getElem?_eq_getElem hi) (by have := hql.out; omega)
            obtain ⟨inner, ho⟩ := Kd.R_own hS.hS
            obtain ⟨sb, cur, hV, hblk⟩ := own_block ho (by omega)
            subst hV
            exact Kd.R_mono (Kd.R_types hR hblk (by decide)) (fun b hb => ⟨hb.1, by simp [Value.ownBlock]; exact hb.2⟩)
          have hP := k37_mkM wr w.heap.size (fun b => g < b) xx hS.hG g9
          have hX : xx.f0 = y0 := by rw [(Aid.unhide XX).1]
          obtain ⟨k0, k1, k2, k3, k4, k5, k6, k7, k8, k9⟩ := hS.hA.ten
          have htk : l.take j ++ [xx] = l.take (j + 1) := by rw [(Aid.unhide XX).1, (Aid.unhide B).1]
          have C := Aid.hide (And.intro hS (And.intro hP htk))
          have hlg3 := hS.hA.lt
          have hjl : (l.take j).length ≤ 1000 := by rw [List.length_take]; omega
          clear hS hP htk g9 hX
          go_wp2_with ((at_builtin; refine Kd.R_append k37 (w0 := w) (W := wr) w.heap.size rfl (.tmp 44) (.tmp 46) 22 37 (.agg #[.int .u8 0, .int .i64 0, .int .i64 0, .int .i64 0, .slice none 0 0, .int .i64 0, .int .i64 0, .int .i64 0, .bool false, .slice none 0 0]) 112 rfl Try.underlying22 inf37 rfl (by decide) (by omega) u3 (l.take j) xx [.int .u8 xx.f0, .int .i64 xx.f1, .int .i64 xx.f2, .int .i64 xx.f3, .slice V4 y4.length d4, .int .i64 xx.f5.f0, .int .i64 xx.f5.f1, .int .i64 xx.f5.f2, .bool xx.f6, .slice V9 k d9] (fun _ => True) (fun b => g < b) rfl rfl (Aid.unhide C).2.1 ?c1 ?c2 (Kd.R_mono (Aid.unhide C).1.hO (fun _ _ => trivial)) (Aid.unhide C).1.hB (Aid.unhide C).1.hB.size ?c3 ?_; (case c1 => intro b hb; refine ⟨trivial, fun e => ?_⟩; have := (Aid.unhide C).1.hO.1 b e.symm; simp at hb this; omega); (case c2 => intro b hb; trivial); (case c3 => omega); intro v1 w1 hR1 hB1 hg1 hat1))
          go_roundw
          case rel => exact ⟨j + 1, by go_num, by omega, by rw [← (Aid.unhide C).2.2]; exact hR1, hB1⟩
          case measure => simp [intOf]; omega
    · obtain rfl : j = l.length := by omega
      rw [List.take_length] at hO
      go_wp2_with (fail)
      go_ret
      exact ⟨_, rfl, hO, hB⟩
end Go.Proofs.Ytppgbahiolhgbaa
end
section
set_option linter.unusedVariables false
set_option linter.unusedSimpArgs false
namespace Go.Proofs.Ytppgbahiolhgbaa
open Go.RowKit Go.Proofs.YtppgbahiolhgbaaW.PrintWords Sp
open PScriptReads
def ActR (w : World) (x : S37) (cs : List Value) : Prop :=
  ∃ A4 c4 A9 c9, cs = (actC x A4 c4 A9 c9).toList ∧ k48.C w A4 x.f4.length x.f4 ∧ k51.C w A9 x.f7.length x.f7 ∧ x.f4.length ≤ c4 ∧ x.f7.length ≤ c9 ∧ Uns w A9
def AC (w : World) (A : Option Addr) (n : Nat) (l : List S37) : Prop := ReadsRow (ActR w) 10 w A n l
theorem Uns.below {w W : World} {A : Option Addr} (h : Uns w A) (hb : Below w.heap.size w W) : Uns W A := fun ad hA => by
  obtain ⟨cs, t, h2⟩ := h ad hA
  exact ⟨cs, t, blk_of h2 hb⟩
theorem AC.below {w W : World} {A : Option Addr} {n : Nat} {l : List S37} (h : AC w A n l) (hb : Below w.heap.size w W) : AC W A n l :=
  ReadsRow.imp_ h hb fun x cs ⟨A4, c4, A9, c9, h1, h2, h3, h4, h5, h6⟩ => ⟨A4, c4, A9, c9, h1, Kd.C_below h2 hb, Kd.C_below h3 hb, h4, h5, h6.below hb⟩
theorem ReadsRow.imp0 {α : Type} {R R' : α → List Value → Prop} {size : Nat} {w : World} {A : Option Addr} {n : Nat} {ps : List α} (h : ReadsRow R size w A n ps) (hR : ∀ p c, R p c → R' p c) : ReadsRow R' size w A n ps := by
  obtain ⟨h1, h2, h3⟩ := h
  refine ⟨h1, h2, fun h0 => ?_⟩
  obtain ⟨ad, hA, hc⟩ := h3 h0
  exact ⟨ad, hA, fun j p hj => by obtain ⟨c, q1, q2, q3⟩ := hc j p hj; exact ⟨c, q1, hR p c q2, q3⟩⟩
theorem AC.C {w : World} {A : Option Addr} {n : Nat} {l : List S37} (h : AC w A n l) : k37.C w A n l :=
  ReadsRow.imp0 h fun x cs ⟨A4, c4, A9, c9, h1, h2, h3, h4, h5, h6⟩ => by subst h1; exact k37_mk w x h4 h2 h5 h3
theorem uns_of_R {w : World} {base : Nat} {ok : Nat → Prop} {A : Option Addr} {n c : Nat} {xs : List S51} (h : k51.R 51 w base ok (.slice A n c) xs) : Uns w A := by
  obtain ⟨inner, ho⟩ := Kd.R_own h
  intro ad hA
  rcases ho.2 with ⟨h1, _⟩ | ⟨g, cap, cur, h1, _, h3, _⟩
  · injection h1 with h1; rw [h1] at hA; exact absurd hA (by simp)
  · injection h1 with h1
    rw [h1] at hA
    injection hA with hA
    subst hA
    exact ⟨cur, 51, h3⟩
theorem actR_of_M {w : World} {base : Nat} {ok : Nat → Prop} {x : S37} {cs : List Value} (h : k37.M w base ok x cs) : ActR w x cs := by
  obtain ⟨v4, v9, rfl, h4, h9⟩ := k37_openM h
  obtain ⟨A4, c4, rfl, l4, g4⟩ := Kd.R_reads h4
  obtain ⟨A9, c9, rfl, l9, g9⟩ := Kd.R_reads h9
  exact ⟨A4, c4, A9, c9, rfl, g4, g9, l4, l9, uns_of_R h9⟩
theorem AC_of_R {w : World} {base : Nat} {ok : Nat → Prop} {v : Value} {l : List S37} (h : k37.R 37 w base ok v l) : ∃ A c, v = .slice A l.length c ∧ l.length ≤ c ∧ AC w A l.length l := by
  obtain ⟨A, c, he, hl, hr⟩ := OwnRow.reads h.2
  exact ⟨A, c, he, hl, ReadsRow.imp0 hr fun x cs hx => actR_of_M hx⟩
structure ActAtR (w W : World) (P : Addr) (x : S37) (A4 : Option Addr) (c4 : Nat) (A9 : Option Addr) (c9 : Nat) : Prop where
  e0 : W.cell? P = some (.int .u8 x.f0)
  e1 : W.cell? ⟨P.block, P.off + 1, none⟩ = some (.int .i64 x.f1)
  e2 : W.cell? ⟨P.block, P.off + 2, none⟩ = some (.int .i64 x.f2)
  e3 : W.cell? ⟨P.block, P.off + 3, none⟩ = some (.int .i64 x.f3)
  e4 : W.cell? ⟨P.block, P.off + 4, none⟩ = some (.slice A4 x.f4.length c4)
  e5 : W.cell? ⟨P.block, P.off + 5, none⟩ = some (.int .i64 x.f5.f0)
  e6 : W.cell? ⟨P.block, P.off + 6, none⟩ = some (.int .i64 x.f5.f1)
  e7 : W.cell? ⟨P.block, P.off + 7, none⟩ = some (.int .i64 x.f5.f2)
  e8 : W.cell? ⟨P.block, P.off + 8, none⟩ = some (.bool x.f6)
  e9 : W.cell? ⟨P.block, P.off + 9, none⟩ = some (.slice A9 x.f7.length c9)
theorem AC.get {w : World} {A : Option Addr} {n : Nat} {l : List S37} (h : AC w A n l) (k : Nat) (hk : k < l.length) : ∃ ad A4 c4 A9 c9, A = some ad ∧ ActAtR w w (ad.add (k * 10)) l[k] A4 c4 A9 c9 ∧ k48.C w A4 l[k].f4.length l[k].f4 ∧ k51.C w A9 l[k].f7.length l[k].f7 ∧ Uns w A9 := by
  have hn := h.1
  obtain ⟨ad, c, hA, hl, hK, hc⟩ := ReadsRow.get_ h l[k] (k : Int) (by omega) (by omega)
  rw [Int.toNat_natCast, List.getD_eq_getElem?_getD, List.getElem?_eq_getElem hk] at hK
  rw [Int.toNat_natCast] at hc
  obtain ⟨A4, c4, A9, c9, h1, h2, h3, h4, h5, h6⟩ := hK
  subst h1
  refine ⟨ad, A4, c4, A9, c9, hA, ?_, h2, h3, h6⟩
  have hcf : ∀ j u, j ≠ 0 → (actC l[k] A4 c4 A9 c9).toList[j]? = some u → w.cell? ⟨(ad.add (k * 10)).block, (ad.add (k * 10)).off + j, none⟩ = some u := by
    intro j u hj hu
    rw [← add_field _ _ j (by omega)]
    exact hc j u hu
  exact ⟨hc 0 _ rfl, hcf 1 _ (by omega) rfl, hcf 2 _ (by omega) rfl, hcf 3 _ (by omega) rfl, hcf 4 _ (by omega) rfl, hcf 5 _ (by omega) rfl, hcf 6 _ (by omega) rfl, hcf 7 _ (by omega) rfl, hcf 8 _ (by omega) rfl, hcf 9 _ (by omega) rfl⟩
def SmallA (l : List S37) : Prop := l.length ≤ 100000 ∧ ∀ x ∈ l, x.f4.length ≤ 1000 ∧ x.f7.length ≤ 1000 ∧ (∀ y ∈ x.f4, y.f1.size ≤ 1000000) ∧ ∀ y ∈ x.f7, y.f5.size ≤ 1000000 ∧ y.f6.length ≤ 1000
def encV (l : List S37) : Bytes × Int := if l.all mayAct = true then (if 65536 < (l.flatMap oneB).length then ([], 5) else (l.flatMap oneB, 0)) else ([], 2)
theorem oneB_len {a : S37} (hm : mayAct a = true) : (oneB a).length ≤ 700000 := by
  rw [one_parts hm, List.length_append]
  have := len_flat (f := fun F => partB F a) (m := 200000) (k := 3) (l := partsL a.f0) (fun F _ => partB_len hm F) (partsL_len _)
  simp only [List.length_cons, List.length_nil]; omega
theorem flat_take_le (l : List S37) (k : Nat) : ((l.take k).flatMap oneB).length ≤ (l.flatMap oneB).length := by
  have : l.flatMap oneB = (l.take k).flatMap oneB ++ (l.drop k).flatMap oneB := by rw [← List.flatMap_append, List.take_append_drop]
  rw [this, List.length_append]; omega
set_option maxRecDepth 100000 in
set_option maxHeartbeats 8000000 in
theorem encode10 (A : Option Addr) (c : Nat) (l : List S37) (w : World) (hr : AC w A l.length l) (hsm : SmallA l) :
    Calls Try.prog 10 #[.slice A l.length c] w fun e w' => e = .returned (.tuple #[.string (mk (encV l).1), .int .i64 (encV l).2]) ∧ Below w.heap.size w w' := by
  have hl : l.length ≤ 100000 := hsm.1
  have H := Aid.hide (And.intro hr hsm)
  clear hr hsm
  go_enter Try.func10, Try.ntmps10
  go_wp2_with (fail)
  go_loopw [12] (fun i wr => ∃ k : Nat, i = .int .i64 (k : Int) ∧ k ≤ l.length ∧ Hid ((l.take k).all mayAct = true) ∧ Below w.heap.size w wr) (fun i _ => l.length - (intOf i).toNat)
  case atStart => exact ⟨0, rfl, by omega, by show _ = _; rw [List.take_zero]; rfl, Below.refl _ _⟩
  case round =>
    obtain ⟨k, rfl, hk, hall, hB⟩ := hrel
    by_cases hlt : k < l.length
    · obtain ⟨ad, A4, c4, A9, c9, hA, hE, h4, h9, hu⟩ := ((Aid.unhide H).1.below hB).get k hlt
      obtain ⟨_, hsm⟩ := (Aid.unhide H).2
      obtain ⟨z4, z7, y4, y7⟩ := hsm l[k] (List.getElem_mem hlt)
      have htk : (l.take (k + 1)).all mayAct = ((l.take k).all mayAct && mayAct l[k]) := by rw [List.take_succ_eq_append_getElem hlt, List.all_append]; simp
      have hmem : l[k] ∈ l := List.getElem_mem hlt
      generalize l[k] = x at *
      obtain ⟨e0, e1, e2, e3, e4, e5, e6, e7, e8, e9⟩ := hE
      have C := Aid.hide (fun W (hW : Below wr.heap.size wr W) => check13 x A4 c4 A9 c9 W (Kd.C_below h4 hW) (Kd.C_below h9 hW) (by omega) (by omega) (fun y hy => by have := y4 y hy; omega) (fun y hy => by have := y7 y hy; omega))
      have HA := Aid.hide (And.intro hall.out (And.intro htk hmem))
      clear h4 h9 z4 z7 y4 y7 htk hall hsm hu hmem
      subst hA
      cases hmx : mayAct x with
      | true =>
        go_wp2_with (go_at_call 13; refine (Aid.unhide C _ (by (repeat first | exact Below.refl _ _ | apply below_drew | apply below_alloc))).mono ?_; rintro e1 w1 ⟨rfl, hb1⟩; rw [hmx, show errC true = 0 from rfl])
        go_roundw
        case rel => exact ⟨k + 1, by go_num, by omega, by show _ = _; rw [(Aid.unhide HA).2.1, (Aid.unhide HA).1, hmx]; rfl, hB.trans (Below.mono (B := wr.heap.size) ((by (repeat first | exact Below.refl _ _ | apply below_drew | apply below_alloc | refine below_bt ?_ (by assumption)))) hB.size)⟩
        case measure => simp [intOf]; omega
      | false =>
        go_wp2_with (go_at_call 13; refine (Aid.unhide C _ (by (repeat first | exact Below.refl _ _ | apply below_drew | apply below_alloc))).mono ?_; rintro e1 w1 ⟨rfl, hb1⟩; rw [hmx, show errC false = 2 from rfl])
        go_ret2
        have hno : l.all mayAct = false := by
          rw [Bool.eq_false_iff]
          intro h
          rw [List.all_eq_true] at h
          rw [h x (Aid.unhide HA).2.2] at hmx
          exact absurd hmx (by simp)
        refine ⟨?_, hB.trans (Below.mono (B := wr.heap.size) ((by (repeat first | exact Below.refl _ _ | apply below_drew | apply below_alloc | refine below_bt ?_ (by assumption)))) hB.size)⟩
        unfold encV
        rw [if_neg (by rw [hno]; simp)]
        rfl
    · obtain rfl : k = l.length := by omega
      have hall2 : l.all mayAct = true := by have := hall.out; rwa [List.take_length] at this
      have ALL := Aid.hide hall2
      clear hall hall2
      go_wp2_with (fail)
      go_loopw [7, 24] (fun x i wr => ∃ (k : Nat) (s : ByteArray), i = .int .i64 (k : Int) ∧ k ≤ l.length ∧ x = .string s ∧ Hid (s = mk ((l.take k).flatMap oneB)) ∧ s.size ≤ 65536 ∧ Below w.heap.size w wr) (fun _ i _ => l.length - (intOf i).toNat)
      case atStart => exact ⟨0, _, rfl, by omega, rfl, by show _ = _; rw [List.take_zero]; rfl, by decide, hB⟩
      case round =>
        clear hB hlt hk
        obtain ⟨k, s, rfl, hk, rfl, hs, hz, hB⟩ := hrel
        by_cases hlt : k < l.length
        · obtain ⟨ad, A4, c4, A9, c9, hA, hE, h4, h9, hu⟩ := ((Aid.unhide H).1.below hB).get k hlt
          have htk : (l.take (k + 1)).flatMap oneB = (l.take k).flatMap oneB ++ oneB l[k] := by rw [List.take_succ_eq_append_getElem hlt, List.flatMap_append]; simp
          have hmx : mayAct l[k] = true := List.all_eq_true.mp (Aid.unhide ALL) _ (List.getElem_mem hlt)
          generalize l[k] = x at *
          obtain ⟨e0, e1, e2, e3, e4, e5, e6, e7, e8, e9⟩ := hE
          have hw := fun W (hW : Below wr.heap.size wr W) => written19 x A4 c4 A9 c9 W hmx (Kd.C_below h4 hW) (Kd.C_below h9 hW) (hu.below hW)
          obtain ⟨u, huu⟩ : ∃ u, u = mk (oneB x) := ⟨_, rfl⟩
          rw [← huu] at hw
          have zu : u.size ≤ 700000 := by rw [huu, size_mk]; exact oneB_len hmx
          have hnx : s ++ u = mk ((l.take (k + 1)).flatMap oneB) := by rw [htk, hs.out, huu, mk_app]
          have C := Aid.hide (And.intro hw hnx)
          clear h4 h9 hu htk hmx hw huu hnx hs
          subst hA
          have ha1 : ¬ (9223372036854775807 < s.size + u.size) := by omega
          by_cases hbig : 65536 < s.size + u.size
          · go_wp2_with (go_at_call 19; refine ((Aid.unhide C).1 _ (by (repeat first | exact Below.refl _ _ | apply below_drew | apply below_alloc))).mono ?_; rintro e1 w1 ⟨rfl, hb1⟩)
            go_ret2
            refine ⟨?_, hB.trans (Below.mono (B := wr.heap.size) ((by (repeat first | exact Below.refl _ _ | apply below_drew | apply below_alloc | refine below_bt ?_ (by assumption)))) hB.size)⟩
            unfold encV
            have h1 := flat_take_le l (k + 1)
            have h2 : ((l.take (k + 1)).flatMap oneB).length = s.size + u.size := by rw [← ByteArray.size_append, (Aid.unhide C).2, size_mk]
            rw [if_pos (Aid.unhide ALL), if_pos (by omega)]
            rfl
          · go_wp2_with (go_at_call 19; refine ((Aid.unhide C).1 _ (by (repeat first | exact Below.refl _ _ | apply below_drew | apply below_alloc))).mono ?_; rintro e1 w1 ⟨rfl, hb1⟩)
            go_roundw
            case rel => exact ⟨k + 1, s ++ u, by go_num, by omega, rfl, (Aid.unhide C).2, by rw [ByteArray.size_append]; omega, hB.trans (Below.mono (B := wr.heap.size) ((by (repeat first | exact Below.refl _ _ | apply below_drew | apply below_alloc | refine below_bt ?_ (by assumption)))) hB.size)⟩
            case measure => simp [intOf]; omega
        · obtain rfl : k = l.length := by omega
          go_wp2_with (fail)
          go_ret2
          refine ⟨?_, hB⟩
          have hs2 := hs.out
          rw [List.take_length] at hs2
          unfold encV
          rw [if_pos (Aid.unhide ALL), if_neg (by rw [← size_mk, ← hs2]; omega), ← hs2]
          rfl
end Go.Proofs.Ytppgbahiolhgbaa
end
section
set_option linter.unusedVariables false
set_option linter.unusedSimpArgs false
namespace Go.Proofs.Ytppgbahiolhgbaa
open Go.RowKit Go.Proofs.YtppgbahiolhgbaaW.PrintWords Sp
open PScriptReads
theorem C_get37 {w : World} {A : Option Addr} {n : Nat} {l : List S37} (h : k37.C w A n l) (k : Nat) (hk : k < l.length) : ∃ ad A4 c4 A9 c9, A = some ad ∧ ActAtR w w (ad.add (k * 10)) l[k] A4 c4 A9 c9 ∧ k48.C w A4 l[k].f4.length l[k].f4 ∧ k51.C w A9 l[k].f7.length l[k].f7 := by
  have hn := h.1
  obtain ⟨ad, A4, c4, A9, c9, hA, e0, e1, e2, e3, e4, e5, e6, e7, e8, e9, l4, g4, l9, g9⟩ := at_T37 h (k : Int) (by omega) (by omega)
  have hx : rd_T37 l (k : Int) = l[k] := by
    unfold rd_T37; rw [Int.toNat_natCast, List.getD_eq_getElem?_getD, List.getElem?_eq_getElem hk]; rfl
  rw [hx] at e0 e1 e2 e3 e4 e5 e6 e7 e8 e9 g4 g9
  rw [Int.toNat_natCast] at e0 e1 e2 e3 e4 e5 e6 e7 e8 e9
  exact ⟨ad, A4, c4, A9, c9, hA, ⟨e0, e1, e2, e3, e4, e5, e6, e7, e8, e9⟩, g4, g9⟩
theorem ActAtR.below {w W W1 : World} {P : Addr} {x : S37} {A4 : Option Addr} {c4 : Nat} {A9 : Option Addr} {c9 : Nat} (h : ActAtR w W P x A4 c4 A9 c9) (hb : Below W.heap.size W W1) : ActAtR w W1 P x A4 c4 A9 c9 :=
  have c : ∀ {p : Addr} {v : Value}, W.cell? p = some v → W1.cell? p = some v := fun h => (hb.cell (World.block_lt_of_cell? _ _ h)).trans h
  ⟨c h.e0, c h.e1, c h.e2, c h.e3, c h.e4, c h.e5, c h.e6, c h.e7, c h.e8, c h.e9⟩
set_option maxRecDepth 100000 in
set_option maxHeartbeats 8000000 in
theorem encR11 (A : Option Addr) (c : Nat) (l : List S37) (w : World) (hr : k37.C w A l.length l) (hsm : SmallA l) :
    Calls Try.prog 11 #[.slice A l.length c] w fun e w' => e = .returned (.tuple #[.string (mk (encV l).1), .int .i64 (encV l).2]) ∧ Below w.heap.size w w' := by
  have hl : l.length ≤ 100000 := hsm.1
  have H := Aid.hide (And.intro hr hsm)
  clear hr hsm
  go_enter Try.func11, Try.ntmps11
  go_wp2_with (fail)
  go_loopw [4] (fun i wr => ∃ k : Nat, i = .int .i64 (k : Int) ∧ k ≤ l.length ∧ Hid ((l.take k).all mayAct = true) ∧ Below w.heap.size w wr) (fun i _ => l.length - (intOf i).toNat)
  case atStart => exact ⟨0, rfl, by omega, by show _ = _; rw [List.take_zero]; rfl, Below.refl _ _⟩
  case round =>
    obtain ⟨k, rfl, hk, hall, hB⟩ := hrel
    by_cases hlt : k < l.length
    · obtain ⟨ad, A4, c4, A9, c9, hA, hE, h4, h9⟩ := C_get37 (Kd.C_below (Aid.unhide H).1 hB) k hlt
      obtain ⟨_, hsm⟩ := (Aid.unhide H).2
      obtain ⟨z4, z7, y4, y7⟩ := hsm l[k] (List.getElem_mem hlt)
      have htk : (l.take (k + 1)).all mayAct = ((l.take k).all mayAct && mayAct l[k]) := by rw [List.take_succ_eq_append_getElem hlt, List.all_append]; simp
      have hmem : l[k] ∈ l := List.getElem_mem hlt
      generalize l[k] = x at *
      obtain ⟨e0, e1, e2, e3, e4, e5, e6, e7, e8, e9⟩ := hE
      have C := Aid.hide (fun W (hW : Below wr.heap.size wr W) => may14 x A4 c4 A9 c9 W (Kd.C_below h4 hW) (Kd.C_below h9 hW) (by omega) (by omega) (fun y hy => by have := y4 y hy; omega) (fun y hy => by have := y7 y hy; omega))
      have HA := Aid.hide (And.intro hall.out (And.intro htk hmem))
      clear h4 h9 z4 z7 y4 y7 htk hall hsm hmem
      subst hA
      cases hmx : mayAct x with
      | true =>
        go_wp2_with (go_at_call 14; refine (Aid.unhide C _ (by (repeat first | exact Below.refl _ _ | apply below_drew | apply below_alloc))).mono ?_; rintro e1 w1 ⟨rfl, hb1⟩; rw [hmx])
        go_roundw
        case rel => exact ⟨k + 1, by go_num, by omega, by show _ = _; rw [(Aid.unhide HA).2.1, (Aid.unhide HA).1, hmx]; rfl, hB.trans (Below.mono (B := wr.heap.size) ((by (repeat first | exact Below.refl _ _ | apply below_drew | apply below_alloc | refine below_bt ?_ (by assumption)))) hB.size)⟩
        case measure => simp [intOf]; omega
      | false =>
        go_wp2_with (go_at_call 14; refine (Aid.unhide C _ (by (repeat first | exact Below.refl _ _ | apply below_drew | apply below_alloc))).mono ?_; rintro e1 w1 ⟨rfl, hb1⟩; rw [hmx])
        go_ret2
        have hno : l.all mayAct = false := by
          rw [Bool.eq_false_iff]
          intro h
          rw [List.all_eq_true] at h
          rw [h x (Aid.unhide HA).2.2] at hmx
          exact absurd hmx (by simp)
        refine ⟨?_, hB.trans (Below.mono (B := wr.heap.size) ((by (repeat first | exact Below.refl _ _ | apply below_drew | apply below_alloc | refine below_bt ?_ (by assumption)))) hB.size)⟩
        unfold encV
        rw [if_neg (by rw [hno]; simp)]
        rfl
    · obtain rfl : k = l.length := by omega
      have hall2 : l.all mayAct = true := by have := hall.out; rwa [List.take_length] at this
      have ALL := Aid.hide hall2
      clear hall hall2
      go_wp2_with (fail)
      go_loopw [5, 6] (fun x i wr => ∃ (k : Nat) (s : ByteArray), i = .int .i64 (k : Int) ∧ k ≤ l.length ∧ x = .string s ∧ Hid (s = mk ((l.take k).flatMap oneB)) ∧ s.size ≤ 800000 ∧ Below w.heap.size w wr) (fun _ i _ => l.length - (intOf i).toNat)
      case atStart => exact ⟨0, _, rfl, by omega, rfl, by show _ = _; rw [List.take_zero]; rfl, by decide, hB⟩
      case round =>
        clear hB hlt hk
        obtain ⟨k, s, rfl, hk, rfl, hs, hz, hB⟩ := hrel
        by_cases hlt : k < l.length
        · by_cases hbig : 65536 < s.size
          · have hbg : ¬ (s.size ≤ 65536) := by omega
            go_wp2_with (fail)
            go_ret2
            refine ⟨?_, hB⟩
            unfold encV
            have h1 := flat_take_le l k
            have h2 : ((l.take k).flatMap oneB).length = s.size := by rw [hs.out, size_mk]
            rw [if_pos (Aid.unhide ALL), if_pos (by omega)]
            rfl
          · obtain ⟨ad, A4, c4, A9, c9, hA, hE, h4, h9⟩ := C_get37 (Kd.C_below (Aid.unhide H).1 hB) k hlt
            have htk : (l.take (k + 1)).flatMap oneB = (l.take k).flatMap oneB ++ oneB l[k] := by rw [List.take_succ_eq_append_getElem hlt, List.flatMap_append]; simp
            have hmx : mayAct l[k] = true := List.all_eq_true.mp (Aid.unhide ALL) _ (List.getElem_mem hlt)
            generalize l[k] = x at *
            obtain ⟨e0, e1, e2, e3, e4, e5, e6, e7, e8, e9⟩ := hE
            have hw := fun W (hW : Below wr.heap.size wr W) => one20 x A4 c4 A9 c9 W (Kd.C_below h4 hW) (Kd.C_below h9 hW) hmx
            obtain ⟨u, huu⟩ : ∃ u, u = mk (oneB x) := ⟨_, rfl⟩
            rw [← huu] at hw
            have zu : u.size ≤ 700000 := by rw [huu, size_mk]; exact oneB_len hmx
            have hnx : s ++ u = mk ((l.take (k + 1)).flatMap oneB) := by rw [htk, hs.out, huu, mk_app]
            have C := Aid.hide (And.intro hw hnx)
            clear h4 h9 htk hmx hw huu hnx hs
            subst hA
            have hbg : s.size ≤ 65536 := by omega
            have ha1 : ¬ (9223372036854775807 < s.size + u.size) := by omega
            clear hbig
            go_wp2_with (go_at_call 20; refine ((Aid.unhide C).1 _ (by (repeat first | exact Below.refl _ _ | apply below_drew | apply below_alloc))).mono ?_; rintro e1 w1 ⟨rfl, hb1⟩)
            go_roundw
            case rel => exact ⟨k + 1, s ++ u, by go_num, by omega, rfl, (Aid.unhide C).2, by rw [ByteArray.size_append]; omega, hB.trans (Below.mono (B := wr.heap.size) ((by (repeat first | exact Below.refl _ _ | apply below_drew | apply below_alloc | refine below_bt ?_ (by assumption)))) hB.size)⟩
            case measure => simp [intOf]; omega
        · obtain rfl : k = l.length := by omega
          have hs2 := hs.out
          rw [List.take_length] at hs2
          have HS2 := Aid.hide hs2
          clear hs2 hs
          by_cases hbig : 65536 < s.size
          · have hbg : ¬ (s.size ≤ 65536) := by omega
            go_wp2_with (fail)
            go_ret2
            refine ⟨?_, hB⟩
            unfold encV
            rw [if_pos (Aid.unhide ALL), if_pos (by rw [← size_mk, ← Aid.unhide HS2]; omega)]
            rfl
          · have hbg : s.size ≤ 65536 := by omega
            go_wp2_with (fail)
            go_ret2
            refine ⟨?_, hB⟩
            unfold encV
            rw [if_pos (Aid.unhide ALL), if_neg (by rw [← size_mk, ← Aid.unhide HS2]; omega), ← Aid.unhide HS2]
            rfl
end Go.Proofs.Ytppgbahiolhgbaa
end
section
set_option linter.unusedVariables false
set_option linter.unusedSimpArgs false
namespace Go.Proofs.Ytppgbahiolhgbaa
open Go.RowKit Go.Proofs.YtppgbahiolhgbaaW.PrintWords Sp
open PScriptReads
def thrownN : List PanicEntry := [{ v := .iface 86 (.agg #[]), recovered := false }]
theorem mustN_ok (w : World) : Calls Try.prog 105 #[.bool true] w fun e w' => e = .returned (.tuple #[]) ∧ w = w' := by
  go_enter Try.func105, Try.ntmps105
  go_wp2
  go_end0
  exact ⟨rfl, rfl⟩
theorem mustN_no (w : World) : Calls Try.prog 105 #[.bool false] w fun e w' => e = .panicked thrownN ∧ w = w' := by
  go_enter Try.func105, Try.ntmps105
  go_wp2
  exact ⟨rfl, rfl, rfl⟩
def RdAt (W : World) (r : Nat) (s : ByteArray) : Prop := W.heap[r]? = some (.cells #[.string s] 89 (0, 0))
theorem RdAt.cell {W : World} {r : Nat} {s : ByteArray} (h : RdAt W r s) : W.cell? ⟨r, 0, none⟩ = some (.string s) := (blk_cell h 0).trans rfl
theorem RdAt.lt {W : World} {r : Nat} {s : ByteArray} (h : RdAt W r s) : r < W.heap.size := blk_lt h
theorem RdAt.frz {W : World} {r : Nat} {s : ByteArray} (h : RdAt W r s) : W.frozen? ⟨r, 0, none⟩ = false := by
  unfold RdAt at h
  simp [World.frozen?, h]
theorem RdAt.below {W W1 : World} {r : Nat} {s : ByteArray} (h : RdAt W r s) (hb : Below W.heap.size W W1) : RdAt W1 r s := (hb.block r h.lt).trans h
theorem RdAt.set {W : World} {r : Nat} {s : ByteArray} (h : RdAt W r s) (t : ByteArray) : RdAt (W.setCell ⟨r, 0, none⟩ (.string t)) r t := by
  unfold RdAt at *
  rw [blk_set h]; rfl
theorem RdAt.far {W : World} {r : Nat} {p : Addr} {s : ByteArray} {v : Value} (h : RdAt W r s) (hne : r ≠ p.block) : RdAt (W.setCell p v) r s := (Below.heap_setCell W p v r hne).trans h
structure Took (w : World) (r : Nat) (p : Addr) (v : Value) (t : ByteArray) (w' : World) : Prop where
  os : w'.os = w.os
  tape : w'.tape = w.tape
  output : w'.output = w.output
  size : w'.heap.size = w.heap.size
  far : ∀ k, k ≠ r → k ≠ p.block → w'.heap[k]? = w.heap[k]?
  rd : RdAt w' r t
  at_ : w'.heap[p.block]? = (w.setCell p v).heap[p.block]?
theorem took_a {w : World} {r : Nat} {p : Addr} {v : Value} {s t : ByteArray} (h : RdAt w r s) (hne : p.block ≠ r) : Took w r p v t ((w.setCell p v).setCell ⟨r, 0, none⟩ (.string t)) :=
  ⟨rfl, rfl, rfl, by simp [World.setCell], fun k h1 h2 => (Below.heap_setCell _ ⟨r, 0, none⟩ _ k h1).trans (Below.heap_setCell _ p _ k h2), (h.far (Ne.symm hne)).set t, Below.heap_setCell _ ⟨r, 0, none⟩ _ _ hne⟩
theorem heap_set_eq {W W1 : World} {p : Addr} {v : Value} (h : W.heap[p.block]? = W1.heap[p.block]?) : (W.setCell p v).heap[p.block]? = (W1.setCell p v).heap[p.block]? := by
  simp [World.setCell, Array.getElem?_modify, h]
theorem took_b {w : World} {r : Nat} {p : Addr} {v : Value} {s t : ByteArray} (h : RdAt w r s) (hne : p.block ≠ r) : Took w r p v t ((w.setCell ⟨r, 0, none⟩ (.string t)).setCell p v) :=
  ⟨rfl, rfl, rfl, by simp [World.setCell], fun k h1 h2 => (Below.heap_setCell _ p _ k h2).trans (Below.heap_setCell _ ⟨r, 0, none⟩ _ k h1), (h.set t).far (Ne.symm hne), heap_set_eq (Below.heap_setCell _ ⟨r, 0, none⟩ _ _ hne)⟩
theorem Took.undrew {w : World} {r : Nat} {p : Addr} {v : Value} {t : ByteArray} {w' : World} (h : Took w.drew r p v t w') : Took w r p v t w' := ⟨h.os, h.tape, h.output, h.size, h.far, h.rd, h.at_⟩
def numP (m : Nat) (l : Bytes) : Option (Nat × Bytes) := if (rdNum l).2.2 = 0 ∧ (rdNum l).1 ≤ m then some ((rdNum l).1, l.drop (rdNum l).2.1) else none
def textP (m : Nat) (l : Bytes) : Option (Bytes × Bytes) := if (rdText l m).2.2 = 0 then some ((rdText l m).1, l.drop (rdText l m).2.1) else none
theorem drop_ext' (s : ByteArray) (a : Nat) : L (s.extract a s.size) = (L s).drop a := by
  rw [L_ext, List.take_of_length_le]; rw [List.length_drop, L_len]; omega
theorem ext_mk (s : ByteArray) (a : Nat) : s.extract a s.size = mk ((L s).drop a) := by rw [← drop_ext', mk_L]
set_option maxRecDepth 100000 in
set_option maxHeartbeats 2000000 in
theorem rnum103_ok (r : Nat) (p : Addr) (m v : Nat) (x : Int) (s : ByteArray) (t : Bytes) (w : World) (hr : RdAt w r s) (hp : w.cell? p = some (.int .i64 x)) (hf : w.frozen? p = false) (hne : p.block ≠ r) (hm : m ≤ 2147483647) (h : numP m (L s) = some (v, t)) :
    Calls Try.prog 103 #[.pointer (some ⟨r, 0, none⟩), .pointer (some p), .int .i64 (m : Int)] w fun e w' => e = .returned (.tuple #[]) ∧ Took w r p (.int .i64 (v : Int)) (mk t) w' := by
  have hN := fun w => rn72 s w
  unfold numP at h
  have hk := fun h => rdNum_ok (pair3 (r := rdNum (L s)) (c := 0) h)
  generalize rdNum (L s) = q at *
  obtain ⟨n, k, e⟩ := q
  simp only at h hk
  by_cases hc : e = 0 ∧ n ≤ m
  · rw [if_pos hc] at h
    injection h with h
    injection h with h1 h2
    subst h1
    obtain ⟨rfl, hnm⟩ := hc
    have hks := (hk rfl).1
    rw [L_len] at hks
    have hex : s.extract k s.size = mk t := by rw [ext_mk, h2]
    have hc := hr.cell
    have hfr := hr.frz
    have hlr := hr.lt
    have hlp := World.block_lt_of_cell? _ _ hp
    have hpr : p ≠ ⟨r, 0, none⟩ := fun h => hne (by rw [h])
    have e1 : (((w.drew.setCell p (.int .i64 (n : Int)))).cell? ⟨r, 0, none⟩) = some (.string s) := (World.cell?_setCell_other _ _ _ _ hpr).trans hc
    have e2 : (((w.drew.setCell ⟨r, 0, none⟩ (.string (mk t)))).cell? p) = some (.int .i64 x) := (World.cell?_setCell_other _ _ _ _ hpr.symm).trans hp
    have e3 : ((w.drew.setCell p (.int .i64 (n : Int))).frozen? ⟨r, 0, none⟩) = false := by rw [World.frozen?_setCell]; exact hfr
    have e4 : ((w.drew.setCell ⟨r, 0, none⟩ (.string (mk t))).frozen? p) = false := by rw [World.frozen?_setCell]; exact hf
    have wm : IntKind.u64.wrap (m : Int) = (m : Int) := IntWalk.u64_in _ ⟨by omega, by omega⟩
    have wn : IntKind.i64.wrap (n : Int) = (n : Int) := IntWalk.i64_in _ ⟨by omega, by omega⟩
    have i1 : (n : Int) ≤ (m : Int) := by omega
    have i2 : (k : Int) ≤ (s.size : Int) := by omega
    have i3 : (0 : Int) ≤ (k : Int) := by omega
    have F := Aid.hide (And.intro hN (And.intro hr hne))
    clear hN hk hr hne h2
    go_enter Try.func103, Try.ntmps103
    go_wp2_with (first | (go_at_call 72; refine ((Aid.unhide F).1 _).mono ?_; rintro e1 w1 ⟨rfl, rfl⟩; unfold rnV) | (go_at_call 105; refine (mustN_ok _).mono ?_; rintro e1 w1 ⟨rfl, rfl⟩))
    go_region_with (fail)
    all_goals
      go_end0
      refine ⟨rfl, ?_⟩
      first
        | exact (took_a (w := w.drew) (Aid.unhide F).2.1 (Aid.unhide F).2.2).undrew
        | exact (took_b (w := w.drew) (Aid.unhide F).2.1 (Aid.unhide F).2.2).undrew
  · rw [if_neg hc] at h; simp at h
set_option maxRecDepth 100000 in
set_option maxHeartbeats 2000000 in
theorem rnum103_no (r : Nat) (p : Addr) (m : Nat) (s : ByteArray) (w : World) (hr : RdAt w r s) (hm : m ≤ 2147483647) (h : numP m (L s) = none) :
    Calls Try.prog 103 #[.pointer (some ⟨r, 0, none⟩), .pointer (some p), .int .i64 (m : Int)] w fun e w' => e = .panicked thrownN ∧ w = w' := by
  have hN := fun w => rn72 s w
  unfold numP at h
  generalize rdNum (L s) = q at *
  obtain ⟨n, k, e⟩ := q
  simp only at h
  by_cases hc : e = 0 ∧ n ≤ m
  · rw [if_pos hc] at h; simp at h
  · clear h
    have hcl := hr.cell
    have wm : IntKind.u64.wrap (m : Int) = (m : Int) := IntWalk.u64_in _ ⟨by omega, by omega⟩
    have F := Aid.hide (And.intro hN hr)
    clear hN hr
    by_cases he : e = 0
    · subst he
      have i1 : m < n := by omega
      have i2 : decide (n ≤ m) = false := decide_eq_false (by omega)
      clear hc
      go_enter Try.func103, Try.ntmps103
      go_wp2_with (first | (go_at_call 72; refine ((Aid.unhide F).1 _).mono ?_; rintro e1 w1 ⟨rfl, rfl⟩; unfold rnV) | (go_at_call 105; refine (mustN_no _).mono ?_; rintro e1 w1 ⟨rfl, rfl⟩))
      exact ⟨rfl, rfl, rfl⟩
    · have c0 : ((e : Int) == 0) = false := by simpa using he
      clear hc
      go_enter Try.func103, Try.ntmps103
      go_wp2_with (first | (go_at_call 72; refine ((Aid.unhide F).1 _).mono ?_; rintro e1 w1 ⟨rfl, rfl⟩; unfold rnV) | (go_at_call 105; refine (mustN_no _).mono ?_; rintro e1 w1 ⟨rfl, rfl⟩))
      exact ⟨rfl, rfl, rfl⟩
set_option maxRecDepth 100000 in
set_option maxHeartbeats 2000000 in
theorem rtext104_ok (r : Nat) (p : Addr) (m : Nat) (x : ByteArray) (v : Bytes) (s : ByteArray) (t : Bytes) (w : World) (hr : RdAt w r s) (hp : w.cell? p = some (.string x)) (hf : w.frozen? p = false) (hne : p.block ≠ r) (hm : m ≤ 1000000) (hs : s.size ≤ 4611686018427387904) (h : textP m (L s) = some (v, t)) :
    Calls Try.prog 104 #[.pointer (some ⟨r, 0, none⟩), .pointer (some p), .int .i64 (m : Int)] w fun e w' => e = .returned (.tuple #[]) ∧ Took w r p (.string (mk v)) (mk t) w' := by
  have hN := fun w => rt70 s (m : Int) w (by omega) (by omega) (by omega)
  rw [Int.toNat_natCast] at hN
  unfold textP at h
  have hk := fun h => rdText_len (l := L s) (m := m) h
  generalize rdText (L s) m = q at *
  obtain ⟨u, k, e⟩ := q
  simp only at h hk
  by_cases hc : e = 0
  · rw [if_pos hc] at h
    injection h with h
    injection h with h1 h2
    subst h1
    subst hc
    have hks := (hk rfl).2.2
    rw [L_len] at hks
    have hex : s.extract k s.size = mk t := by rw [ext_mk, h2]
    have hc := hr.cell
    have hfr := hr.frz
    have hlr := hr.lt
    have hlp := World.block_lt_of_cell? _ _ hp
    have hpr : p ≠ ⟨r, 0, none⟩ := fun h => hne (by rw [h])
    have e1 : (((w.drew.setCell p (.string (mk u)))).cell? ⟨r, 0, none⟩) = some (.string s) := (World.cell?_setCell_other _ _ _ _ hpr).trans hc
    have e2 : (((w.drew.setCell ⟨r, 0, none⟩ (.string (mk t)))).cell? p) = some (.string x) := (World.cell?_setCell_other _ _ _ _ hpr.symm).trans hp
    have e3 : ((w.drew.setCell p (.string (mk u))).frozen? ⟨r, 0, none⟩) = false := by rw [World.frozen?_setCell]; exact hfr
    have e4 : ((w.drew.setCell ⟨r, 0, none⟩ (.string (mk t))).frozen? p) = false := by rw [World.frozen?_setCell]; exact hf
    have i2 : (k : Int) ≤ (s.size : Int) := by omega
    have i3 : (0 : Int) ≤ (k : Int) := by omega
    have F := Aid.hide (And.intro hN (And.intro hr hne))
    clear hN hk hr hne h2
    go_enter Try.func104, Try.ntmps104
    go_wp2_with (first | (go_at_call 70; refine ((Aid.unhide F).1 _).mono ?_; rintro e1 w1 ⟨rfl, rfl⟩; unfold rtV) | (go_at_call 105; refine (mustN_ok _).mono ?_; rintro e1 w1 ⟨rfl, rfl⟩))
    go_region_with (fail)
    all_goals
      go_end0
      refine ⟨rfl, ?_⟩
      first
        | exact (took_a (w := w.drew) (Aid.unhide F).2.1 (Aid.unhide F).2.2).undrew
        | exact (took_b (w := w.drew) (Aid.unhide F).2.1 (Aid.unhide F).2.2).undrew
  · rw [if_neg hc] at h; simp at h
set_option maxRecDepth 100000 in
set_option maxHeartbeats 2000000 in
theorem rtext104_no (r : Nat) (p : Addr) (m : Nat) (s : ByteArray) (w : World) (hr : RdAt w r s) (hm : m ≤ 1000000) (hs : s.size ≤ 4611686018427387904) (h : textP m (L s) = none) :
    Calls Try.prog 104 #[.pointer (some ⟨r, 0, none⟩), .pointer (some p), .int .i64 (m : Int)] w fun e w' => e = .panicked thrownN ∧ w = w' := by
  have hN := fun w => rt70 s (m : Int) w (by omega) (by omega) (by omega)
  rw [Int.toNat_natCast] at hN
  unfold textP at h
  generalize rdText (L s) m = q at *
  obtain ⟨u, k, e⟩ := q
  simp only at h
  by_cases hc : e = 0
  · rw [if_pos hc] at h; simp at h
  · clear h
    have hcl := hr.cell
    have F := Aid.hide (And.intro hN hr)
    clear hN hr
    have c0 : ((e : Int) == 0) = false := by simpa using hc
    clear hc
    go_enter Try.func104, Try.ntmps104
    go_wp2_with (first | (go_at_call 70; refine ((Aid.unhide F).1 _).mono ?_; rintro e1 w1 ⟨rfl, rfl⟩; unfold rtV) | (go_at_call 105; refine (mustN_no _).mono ?_; rintro e1 w1 ⟨rfl, rfl⟩))
    exact ⟨rfl, rfl, rfl⟩
end Go.Proofs.Ytppgbahiolhgbaa
end
section
set_option linter.unusedVariables false
set_option linter.unusedSimpArgs false
namespace Go.Proofs.Ytppgbahiolhgbaa
open Go.RowKit Go.Proofs.YtppgbahiolhgbaaW.PrintWords Sp
open PScriptReads
theorem wp_region_tail {P : Program} {id : Nat} {Q : Exit → Act → World → Prop} {a : Act} {w : World} {l : List Oper} (n : Nat) (hm : P.follows .mixedOrders = true) (hB : Region.lexTailB .any l.toArray n = true)
    (h : wpStill P l.toArray w.drew (fun a' => wpList P l.toArray Q (l.drop n) a' w.drew) (l.take n) a) : (Code.region id l.toArray true).wp P Q a w := wp_region_still_tail n hm hB h
structure RSt (w0 : World) (g r i : Nat) (a : S37) (v4 v9 : Value) (s : ByteArray) (W : World) : Prop where
  hA : ActV W g a v4 v9
  hR : RdAt W r s
  hI : W.heap[i]? = some (.cells #[.bool false] 4 (0, 0))
  hG : k48.R 48 W w0.heap.size (fun _ => True) v4 a.f4
  hS : k51.R 51 W w0.heap.size (fun _ => True) v9 a.f7
  hB : Below w0.heap.size w0 W
  lg : w0.heap.size ≤ g
  lr : w0.heap.size ≤ r
  li : w0.heap.size ≤ i
theorem ty_ne {W : World} {b c : Nat} {x y : Array Value} {t u : TypeId} (h : W.heap[b]? = some (.cells x t (0, 0))) (k : W.heap[c]? = some (.cells y u (0, 0))) (hne : t ≠ u) : b ≠ c := by
  rintro rfl
  rw [h] at k
  injection k with k
  injection k with _ k
  exact hne k
section
variable {w0 : World} {g r i : Nat} {a a' : S37} {v4 v9 u : Value} {s t : ByteArray} {W W1 : World}
theorem RSt.gr (h : RSt w0 g r i a v4 v9 s W) : g ≠ r := ty_ne h.hA h.hR (by decide)
theorem RSt.gi (h : RSt w0 g r i a v4 v9 s W) : g ≠ i := ty_ne h.hA h.hI (by decide)
theorem RSt.ir (h : RSt w0 g r i a v4 v9 s W) : i ≠ r := ty_ne h.hI h.hR (by decide)
theorem RSt.below (h : RSt w0 g r i a v4 v9 s W) (hb : Below W.heap.size W W1) : RSt w0 g r i a v4 v9 s W1 :=
  ⟨h.hA.below hb, h.hR.below hb, blk_of h.hI hb, Kd.R_below h.hG hb, Kd.R_below h.hS hb, h.hB.trans (hb.mono h.hB.size), h.lg, h.lr, h.li⟩
theorem RSt.alloc (h : RSt w0 g r i a v4 v9 s W) (o : Obj) : RSt w0 g r i a v4 v9 s (W.alloc o) := h.below (below_alloc (Below.refl _ _) o)
theorem RSt.drew (h : RSt w0 g r i a v4 v9 s W) : RSt w0 g r i a v4 v9 s W.drew := h.below (below_drew (Below.refl _ _))
theorem Took.below {p : Addr} {n : Nat} (h : Took W r p u t W1) (hr : n ≤ r) (hp : n ≤ p.block) : Below n W W1 :=
  ⟨h.os, h.tape, h.output, Nat.le_of_eq h.size.symm, fun k hk => h.far k (by omega) (by omega)⟩
theorem Kd.R_took {α : Type} {d : Kd α} {e : Nat} {base : Nat} {v : Value} {xs : List α} {p : Addr} {x y : Array Value} {tx ty : TypeId} (hR : d.R e W base (fun _ => True) v xs) (h : Took W r p u t W1) (hr : W.heap[r]? = some (.cells x tx (0, 0))) (hp : W.heap[p.block]? = some (.cells y ty (0, 0))) (h1 : ∀ q, q ∈ e :: d.E → q ≠ tx) (h2 : ∀ q, q ∈ e :: d.E → q ≠ ty) : d.R e W1 base (fun _ => True) v xs :=
  Kd.R_mono (Kd.R_step (Kd.R_types (Kd.R_types hR hr h1) hp h2) (fun k hk _ => h.far k hk.1.2 hk.2)) (fun _ _ => trivial)
theorem RSt.took (h : RSt w0 g r i a v4 v9 s W) {o : Nat} (hT : Took W r ⟨g, o, none⟩ u t W1) (ha : (actW a v4 v9).set! o u = actW a' v4 v9) (h4 : a'.f4 = a.f4) (h7 : a'.f7 = a.f7) : RSt w0 g r i a' v4 v9 t W1 := by
  refine ⟨?_, hT.rd, (hT.far i h.ir (Ne.symm h.gi)).trans h.hI, by rw [h4]; exact Kd.R_took h.hG hT h.hR h.hA (by decide) (by decide), by rw [h7]; exact Kd.R_took h.hS hT h.hR h.hA (by decide) (by decide), h.hB.trans (hT.below h.lr h.lg), h.lg, h.lr, h.li⟩
  have := hT.at_
  unfold ActV
  have e : (⟨g, o, none⟩ : Addr).block = g := rfl
  rw [e] at this
  rw [this, blk_set h.hA, ha]
end
def Keep2 (W : World) (g r : Nat) (W1 : World) : Prop := W.heap.size ≤ W1.heap.size ∧ ∀ k, k < W.heap.size → k ≠ g → k ≠ r → W1.heap[k]? = W.heap[k]?
theorem Keep2.refl (W : World) (g r : Nat) : Keep2 W g r W := ⟨Nat.le_refl _, fun _ _ _ _ => rfl⟩
theorem Keep2.below {W W1 W2 : World} {g r : Nat} (h : Keep2 W g r W1) (hb : Below W1.heap.size W1 W2) : Keep2 W g r W2 :=
  ⟨Nat.le_trans h.1 hb.size, fun k hk h1 h2 => (hb.block k (Nat.lt_of_lt_of_le hk h.1)).trans (h.2 k hk h1 h2)⟩
theorem Keep2.took {W W1 W2 : World} {g r o : Nat} {u : Value} {t : ByteArray} (h : Keep2 W g r W1) (hT : Took W1 r ⟨g, o, none⟩ u t W2) : Keep2 W g r W2 :=
  ⟨by rw [hT.size]; exact h.1, fun k hk h1 h2 => (hT.far k h2 h1).trans (h.2 k hk h1 h2)⟩
theorem Keep2.trans {W W1 W2 : World} {g r : Nat} (h : Keep2 W g r W1) (k : Keep2 W1 g r W2) : Keep2 W g r W2 :=
  ⟨Nat.le_trans h.1 k.1, fun b hb h1 h2 => (k.2 b (Nat.lt_of_lt_of_le hb h.1) h1 h2).trans (h.2 b hb h1 h2)⟩
structure DSt (w0 : World) (g i : Nat) (W : World) : Prop where
  hA : ∃ a v4 v9, ActV W g a v4 v9
  hI : W.heap[i]? = some (.cells #[.bool false] 4 (0, 0))
  hB : Below w0.heap.size w0 W
  lg : w0.heap.size ≤ g
  li : w0.heap.size ≤ i
theorem RSt.dead {w0 : World} {g r i : Nat} {a : S37} {v4 v9 : Value} {s : ByteArray} {W : World} (h : RSt w0 g r i a v4 v9 s W) : DSt w0 g i W := ⟨⟨a, v4, v9, h.hA⟩, h.hI, h.hB, h.lg, h.li⟩
structure RFt (w0 : World) (b g r i : Nat) (a : S37) (v4 v9 : Value) (s : ByteArray) (W : World) : Prop where
  S : RSt w0 g r i a v4 v9 s W
  F : FAt W b g 88 r
section
variable {w0 : World} {b g r i : Nat} {a a' : S37} {v4 v9 u : Value} {s t : ByteArray} {W W1 : World}
theorem RFt.br (h : RFt w0 b g r i a v4 v9 s W) : b ≠ r := ty_ne h.F h.S.hR (by decide)
theorem RFt.bg (h : RFt w0 b g r i a v4 v9 s W) : b ≠ g := ty_ne h.F h.S.hA (by decide)
theorem RFt.below (h : RFt w0 b g r i a v4 v9 s W) (hb : Below W.heap.size W W1) : RFt w0 b g r i a v4 v9 s W1 := ⟨h.S.below hb, h.F.below hb⟩
theorem RFt.alloc (h : RFt w0 b g r i a v4 v9 s W) (o : Obj) : RFt w0 b g r i a v4 v9 s (W.alloc o) := h.below (below_alloc (Below.refl _ _) o)
theorem RFt.drew (h : RFt w0 b g r i a v4 v9 s W) : RFt w0 b g r i a v4 v9 s W.drew := h.below (below_drew (Below.refl _ _))
theorem RFt.took (h : RFt w0 b g r i a v4 v9 s W) {o : Nat} (hT : Took W r ⟨g, o, none⟩ u t W1) (ha : (actW a v4 v9).set! o u = actW a' v4 v9) (h4 : a'.f4 = a.f4) (h7 : a'.f7 = a.f7) : RFt w0 b g r i a' v4 v9 t W1 :=
  ⟨h.S.took hT ha h4 h7, (hT.far b h.br h.bg).trans h.F⟩
theorem RSt.boxed (h : RSt w0 g r i a v4 v9 s W) : RFt w0 W.heap.size g r i a v4 v9 s (W.alloc (.cells #[.pointer (some ⟨g, 0, none⟩), .iface 88 (.pointer (some ⟨r, 0, none⟩))] 78)) := ⟨h.alloc _, FAt.new _ _ _ _⟩
end
def RPost (w0 : World) (g r i : Nat) (W : World) (q : Option (S37 × Bytes)) (e : Ending) (w' : World) : Prop :=
  match q with
  | some (a, t) => e = .returned (.tuple #[]) ∧ (∃ v4 v9, RSt w0 g r i a v4 v9 (mk t) w') ∧ Keep2 W g r w'
  | none => e = .panicked thrownN ∧ DSt w0 g i w'
def RPart (f : Nat) (rd : S37 → Bytes → Option (S37 × Bytes)) : Prop := ∀ (w0 : World) (g r i : Nat) (a : S37) (v4 v9 : Value) (s : ByteArray) (W : World),
  s.size ≤ 1000000 → RSt w0 g r i a v4 v9 s W → Calls Try.prog f #[formV g 88 r] W (RPost w0 g r i W (rd a (L s)))
def rdOne (m : Nat) (put : S37 → Int → S37) (a : S37) (l : Bytes) : Option (S37 × Bytes) := (numP m l).map fun q => (put a (q.1 : Int), q.2)
theorem numP_le {m v : Nat} {l t : Bytes} (h : numP m l = some (v, t)) : v ≤ m ∧ t.length ≤ l.length := by
  unfold numP at h
  split at h
  · rename_i hc
    injection h with h
    injection h with h1 h2
    subst h1; subst h2
    exact ⟨hc.2, by rw [List.length_drop]; omega⟩
  · simp at h
set_option maxRecDepth 100000 in
set_option maxHeartbeats 1000000 in
theorem rpart46 : RPart 46 (rdOne 7 (fun a v => { a with f1 := v })) := by
  intro w0 g r i a v4 v9 s w hs hS
  have hp : w.cell? ⟨g, 1, none⟩ = some (.int .i64 a.f1) := hS.hA.ten.k1
  have hlp := hS.hA.lt
  have hm := meth_rnum
  unfold rdOne
  cases h : numP 7 (L s) with
  | none =>
    have hn : ∀ W, RSt w0 g r i a v4 v9 s W → Calls Try.prog 103 #[.pointer (some ⟨r, 0, none⟩), .pointer (some ⟨g, 1, none⟩), .int .i64 7] W _ := fun W k => rnum103_no r ⟨g, 1, none⟩ 7 s W k.hR (by omega) h
    have F := Aid.hide hn
    have HS := Aid.hide hS
    clear hn hS h hs
    go_enter Try.func46, Try.ntmps46
    go_wp2
    refine wp_region_tail 8 (by kernel_rfl) (by kernel_rfl) ?_
    simp only [List.take_succ_cons, List.take_zero, List.drop_succ_cons, List.drop_zero]
    repeat still_step
    refine wpStill_nil ?_
    go_wp2_with (go_at_call 103; refine ((Aid.unhide F) _ (by (repeat first | exact Aid.unhide HS | apply RSt.drew | apply RSt.alloc))).mono ?_; rintro e1 w1 ⟨rfl, rfl⟩)
    exact ⟨rfl, rfl, (RSt.dead (s := s) (by (repeat first | exact Aid.unhide HS | apply RSt.drew | apply RSt.alloc)))⟩
  | some q =>
    obtain ⟨v, t⟩ := q
    have hn : ∀ W, RSt w0 g r i a v4 v9 s W → Calls Try.prog 103 #[.pointer (some ⟨r, 0, none⟩), .pointer (some ⟨g, 1, none⟩), .int .i64 7] W _ := fun W k => rnum103_ok r ⟨g, 1, none⟩ 7 v a.f1 s t W k.hR k.hA.ten.k1 (k.hA.frz 1) k.gr (by omega) h
    have F := Aid.hide hn
    have HS := Aid.hide hS
    clear hn hS h hs
    go_enter Try.func46, Try.ntmps46
    go_wp2
    go_region_with ((go_at_call 103; refine ((Aid.unhide F) _ (by (repeat first | exact Aid.unhide HS | apply RSt.drew | apply RSt.alloc))).mono ?_; rintro e1 w1 ⟨rfl, hT⟩))
    all_goals
      go_end0
      exact ⟨rfl, ⟨v4, v9, RSt.took (a := a) (a' := { a with f1 := (v : Int) }) (s := s) (by (repeat first | exact Aid.unhide HS | apply RSt.drew | apply RSt.alloc)) hT rfl rfl rfl⟩, Keep2.took ((Keep2.refl _ _ _).below (by (repeat first | exact Below.refl _ _ | apply below_drew | apply below_alloc))) hT⟩
set_option maxRecDepth 100000 in
set_option maxHeartbeats 1000000 in
theorem rpart47 : RPart 47 (rdOne 7 (fun a v => { a with f2 := v })) := by
  intro w0 g r i a v4 v9 s w hs hS
  have hp : w.cell? ⟨g, 2, none⟩ = some (.int .i64 a.f2) := hS.hA.ten.k2
  have hlp := hS.hA.lt
  have hm := meth_rnum
  unfold rdOne
  cases h : numP 7 (L s) with
  | none =>
    have hn : ∀ W, RSt w0 g r i a v4 v9 s W → Calls Try.prog 103 #[.pointer (some ⟨r, 0, none⟩), .pointer (some ⟨g, 2, none⟩), .int .i64 7] W _ := fun W k => rnum103_no r ⟨g, 2, none⟩ 7 s W k.hR (by omega) h
    have F := Aid.hide hn
    have HS := Aid.hide hS
    clear hn hS h hs
    go_enter Try.func47, Try.ntmps47
    go_wp2
    refine wp_region_tail 8 (by kernel_rfl) (by kernel_rfl) ?_
    simp only [List.take_succ_cons, List.take_zero, List.drop_succ_cons, List.drop_zero]
    repeat still_step
    refine wpStill_nil ?_
    go_wp2_with (go_at_call 103; refine ((Aid.unhide F) _ (by (repeat first | exact Aid.unhide HS | apply RSt.drew | apply RSt.alloc))).mono ?_; rintro e1 w1 ⟨rfl, rfl⟩)
    exact ⟨rfl, rfl, (RSt.dead (s := s) (by (repeat first | exact Aid.unhide HS | apply RSt.drew | apply RSt.alloc)))⟩
  | some q =>
    obtain ⟨v, t⟩ := q
    have hn : ∀ W, RSt w0 g r i a v4 v9 s W → Calls Try.prog 103 #[.pointer (some ⟨r, 0, none⟩), .pointer (some ⟨g, 2, none⟩), .int .i64 7] W _ := fun W k => rnum103_ok r ⟨g, 2, none⟩ 7 v a.f2 s t W k.hR k.hA.ten.k2 (k.hA.frz 2) k.gr (by omega) h
    have F := Aid.hide hn
    have HS := Aid.hide hS
    clear hn hS h hs
    go_enter Try.func47, Try.ntmps47
    go_wp2
    go_region_with ((go_at_call 103; refine ((Aid.unhide F) _ (by (repeat first | exact Aid.unhide HS | apply RSt.drew | apply RSt.alloc))).mono ?_; rintro e1 w1 ⟨rfl, hT⟩))
    all_goals
      go_end0
      exact ⟨rfl, ⟨v4, v9, RSt.took (a := a) (a' := { a with f2 := (v : Int) }) (s := s) (by (repeat first | exact Aid.unhide HS | apply RSt.drew | apply RSt.alloc)) hT rfl rfl rfl⟩, Keep2.took ((Keep2.refl _ _ _).below (by (repeat first | exact Below.refl _ _ | apply below_drew | apply below_alloc))) hT⟩
set_option maxRecDepth 100000 in
set_option maxHeartbeats 1000000 in
theorem rpart51 : RPart 51 (rdOne 2147483647 (fun a v => { a with f3 := v })) := by
  intro w0 g r i a v4 v9 s w hs hS
  have hp : w.cell? ⟨g, 3, none⟩ = some (.int .i64 a.f3) := hS.hA.ten.k3
  have hlp := hS.hA.lt
  have hm := meth_rnum
  unfold rdOne
  cases h : numP 2147483647 (L s) with
  | none =>
    have hn : ∀ W, RSt w0 g r i a v4 v9 s W → Calls Try.prog 103 #[.pointer (some ⟨r, 0, none⟩), .pointer (some ⟨g, 3, none⟩), .int .i64 2147483647] W _ := fun W k => rnum103_no r ⟨g, 3, none⟩ 2147483647 s W k.hR (by omega) h
    have F := Aid.hide hn
    have HS := Aid.hide hS
    clear hn hS h hs
    go_enter Try.func51, Try.ntmps51
    go_wp2
    refine wp_region_tail 8 (by kernel_rfl) (by kernel_rfl) ?_
    simp only [List.take_succ_cons, List.take_zero, List.drop_succ_cons, List.drop_zero]
    repeat still_step
    refine wpStill_nil ?_
    go_wp2_with (go_at_call 103; refine ((Aid.unhide F) _ (by (repeat first | exact Aid.unhide HS | apply RSt.drew | apply RSt.alloc))).mono ?_; rintro e1 w1 ⟨rfl, rfl⟩)
    exact ⟨rfl, rfl, (RSt.dead (s := s) (by (repeat first | exact Aid.unhide HS | apply RSt.drew | apply RSt.alloc)))⟩
  | some q =>
    obtain ⟨v, t⟩ := q
    have hn : ∀ W, RSt w0 g r i a v4 v9 s W → Calls Try.prog 103 #[.pointer (some ⟨r, 0, none⟩), .pointer (some ⟨g, 3, none⟩), .int .i64 2147483647] W _ := fun W k => rnum103_ok r ⟨g, 3, none⟩ 2147483647 v a.f3 s t W k.hR k.hA.ten.k3 (k.hA.frz 3) k.gr (by omega) h
    have F := Aid.hide hn
    have HS := Aid.hide hS
    clear hn hS h hs
    go_enter Try.func51, Try.ntmps51
    go_wp2
    go_region_with ((go_at_call 103; refine ((Aid.unhide F) _ (by (repeat first | exact Aid.unhide HS | apply RSt.drew | apply RSt.alloc))).mono ?_; rintro e1 w1 ⟨rfl, hT⟩))
    all_goals
      go_end0
      exact ⟨rfl, ⟨v4, v9, RSt.took (a := a) (a' := { a with f3 := (v : Int) }) (s := s) (by (repeat first | exact Aid.unhide HS | apply RSt.drew | apply RSt.alloc)) hT rfl rfl rfl⟩, Keep2.took ((Keep2.refl _ _ _).below (by (repeat first | exact Below.refl _ _ | apply below_drew | apply below_alloc))) hT⟩
def rdTxn (a : S37) (l : Bytes) : Option (S37 × Bytes) :=
  (numP 7 l).bind fun q1 => (numP 255 q1.2).bind fun q2 => (numP 65535 q2.2).bind fun q3 => some ({ a with f5 := ⟨(q1.1 : Int), (q2.1 : Int), (q3.1 : Int)⟩ }, q3.2)
set_option maxRecDepth 100000 in
set_option maxHeartbeats 4000000 in
theorem rpart49 : RPart 49 rdTxn := by
  intro w0 g r i a v4 v9 s w hs hS
  have hm := meth_rnum
  obtain ⟨q0, hq0⟩ : ∃ q, q = rdTxn a (L s) := ⟨_, rfl⟩
  rw [← hq0]
  unfold rdTxn at hq0
  have Q0 := Aid.hide hq0
  clear hq0
  go_enter Try.func49, Try.ntmps49
  go_upto_region 1 with (fail)
  have hX := hS.boxed
  have hK : Keep2 w g r (w.alloc (.cells #[.pointer (some ⟨g, 0, none⟩), .iface 88 (.pointer (some ⟨r, 0, none⟩))] 78)) := (Keep2.refl _ _ _).below (below_alloc (Below.refl _ _) _)
  generalize w.alloc (.cells #[.pointer (some ⟨g, 0, none⟩), .iface 88 (.pointer (some ⟨r, 0, none⟩))] 78) = wx at *
  generalize w.heap.size = b at hX ⊢
  clear hS
  go_upto_region 1 with (fail)
  have f0 := hX.F.c0
  have f1 := hX.F.c1
  cases h1 : numP 7 (L s) with
  | none =>
    have C := Aid.hide (fun W (k : RFt w0 b g r i (a) v4 v9 s W) => rnum103_no r ⟨g, 5, none⟩ 7 s W k.S.hR (by omega) (by rw [show L s = L s from rfl]; exact h1))
    have H := Aid.hide (And.intro hX hK)
    clear hX hK
    refine wp_region_tail 9 (by kernel_rfl) (by kernel_rfl) ?_
    simp only [List.take_succ_cons, List.take_zero, List.drop_succ_cons, List.drop_zero]
    repeat still_step
    refine wpStill_nil ?_
    go_wp2_with (go_at_call 103; refine (Aid.unhide C _ (by (repeat first | exact (Aid.unhide H).1 | apply RFt.drew | apply RFt.alloc))).mono ?_; rintro e1 w1 ⟨rfl, rfl⟩)
    refine ⟨rfl, ?_⟩
    rw [Aid.unhide Q0, h1, Option.bind_none]
    exact ⟨rfl, RSt.dead (RFt.S (by (repeat first | exact (Aid.unhide H).1 | apply RFt.drew | apply RFt.alloc)))⟩
  | some q =>
    obtain ⟨n1, t1⟩ := q
    have C := Aid.hide (fun W (k : RFt w0 b g r i (a) v4 v9 s W) => rnum103_ok r ⟨g, 5, none⟩ 7 n1 _ s t1 W k.S.hR k.S.hA.ten.k5 (k.S.hA.frz 5) k.S.gr (by omega) (by rw [show L s = L s from rfl]; exact h1))
    have H := Aid.hide (And.intro hX hK)
    clear hX hK
    refine wp_region_tail 9 (by kernel_rfl) (by kernel_rfl) ?_
    simp only [List.take_succ_cons, List.take_zero, List.drop_succ_cons, List.drop_zero]
    repeat still_step
    refine wpStill_nil ?_
    go_wp2_with (go_at_call 103; refine (Aid.unhide C _ (by (repeat first | exact (Aid.unhide H).1 | apply RFt.drew | apply RFt.alloc))).mono ?_; rintro e1 w1 ⟨rfl, hT⟩)
    have hX := RFt.took (a := a) (a' := { a with f5 := { a.f5 with f0 := (n1 : Int) } }) (by (repeat first | exact (Aid.unhide H).1 | apply RFt.drew | apply RFt.alloc)) hT rfl rfl rfl
    have hK := Keep2.took ((Aid.unhide H).2.below (by (repeat first | exact Below.refl _ _ | apply below_drew | apply below_alloc))) hT
    clear hT C H f0 f1
    go_upto_region 2 with (fail)
    have f0 := hX.F.c0
    have f1 := hX.F.c1
    cases h2 : numP 255 t1 with
    | none =>
      have C := Aid.hide (fun W (k : RFt w0 b g r i ({ a with f5 := { a.f5 with f0 := (n1 : Int) } }) v4 v9 (mk t1) W) => rnum103_no r ⟨g, 6, none⟩ 255 (mk t1) W k.S.hR (by omega) (by rw [L_mk]; exact h2))
      have H := Aid.hide (And.intro hX hK)
      clear hX hK
      refine wp_region_tail 9 (by kernel_rfl) (by kernel_rfl) ?_
      simp only [List.take_succ_cons, List.take_zero, List.drop_succ_cons, List.drop_zero]
      repeat still_step
      refine wpStill_nil ?_
      go_wp2_with (go_at_call 103; refine (Aid.unhide C _ (by (repeat first | exact (Aid.unhide H).1 | apply RFt.drew | apply RFt.alloc))).mono ?_; rintro e1 w1 ⟨rfl, rfl⟩)
      refine ⟨rfl, ?_⟩
      rw [Aid.unhide Q0, h1, Option.bind_some, h2, Option.bind_none]
      exact ⟨rfl, RSt.dead (RFt.S (by (repeat first | exact (Aid.unhide H).1 | apply RFt.drew | apply RFt.alloc)))⟩
    | some q =>
      obtain ⟨n2, t2⟩ := q
      have C := Aid.hide (fun W (k : RFt w0 b g r i ({ a with f5 := { a.f5 with f0 := (n1 : Int) } }) v4 v9 (mk t1) W) => rnum103_ok r ⟨g, 6, none⟩ 255 n2 _ (mk t1) t2 W k.S.hR k.S.hA.ten.k6 (k.S.hA.frz 6) k.S.gr (by omega) (by rw [L_mk]; exact h2))
      have H := Aid.hide (And.intro hX hK)
      clear hX hK
      refine wp_region_tail 9 (by kernel_rfl) (by kernel_rfl) ?_
      simp only [List.take_succ_cons, List.take_zero, List.drop_succ_cons, List.drop_zero]
      repeat still_step
      refine wpStill_nil ?_
      go_wp2_with (go_at_call 103; refine (Aid.unhide C _ (by (repeat first | exact (Aid.unhide H).1 | apply RFt.drew | apply RFt.alloc))).mono ?_; rintro e1 w1 ⟨rfl, hT⟩)
      have hX := RFt.took (a := { a with f5 := { a.f5 with f0 := (n1 : Int) } }) (a' := { a with f5 := ⟨(n1 : Int), (n2 : Int), a.f5.f2⟩ }) (by (repeat first | exact (Aid.unhide H).1 | apply RFt.drew | apply RFt.alloc)) hT rfl rfl rfl
      have hK := Keep2.took ((Aid.unhide H).2.below (by (repeat first | exact Below.refl _ _ | apply below_drew | apply below_alloc))) hT
      clear hT C H f0 f1
      go_upto_region 3 with (fail)
      have f0 := hX.F.c0
      have f1 := hX.F.c1
      cases h3 : numP 65535 t2 with
      | none =>
        have C := Aid.hide (fun W (k : RFt w0 b g r i ({ a with f5 := ⟨(n1 : Int), (n2 : Int), a.f5.f2⟩ }) v4 v9 (mk t2) W) => rnum103_no r ⟨g, 7, none⟩ 65535 (mk t2) W k.S.hR (by omega) (by rw [L_mk]; exact h3))
        have H := Aid.hide (And.intro hX hK)
        clear hX hK
        refine wp_region_tail 9 (by kernel_rfl) (by kernel_rfl) ?_
        simp only [List.take_succ_cons, List.take_zero, List.drop_succ_cons, List.drop_zero]
        repeat still_step
        refine wpStill_nil ?_
        go_wp2_with (go_at_call 103; refine (Aid.unhide C _ (by (repeat first | exact (Aid.unhide H).1 | apply RFt.drew | apply RFt.alloc))).mono ?_; rintro e1 w1 ⟨rfl, rfl⟩)
        refine ⟨rfl, ?_⟩
        rw [Aid.unhide Q0, h1, Option.bind_some, h2, Option.bind_some, h3, Option.bind_none]
        exact ⟨rfl, RSt.dead (RFt.S (by (repeat first | exact (Aid.unhide H).1 | apply RFt.drew | apply RFt.alloc)))⟩
      | some q =>
        obtain ⟨n3, t3⟩ := q
        have C := Aid.hide (fun W (k : RFt w0 b g r i ({ a with f5 := ⟨(n1 : Int), (n2 : Int), a.f5.f2⟩ }) v4 v9 (mk t2) W) => rnum103_ok r ⟨g, 7, none⟩ 65535 n3 _ (mk t2) t3 W k.S.hR k.S.hA.ten.k7 (k.S.hA.frz 7) k.S.gr (by omega) (by rw [L_mk]; exact h3))
        have H := Aid.hide (And.intro hX hK)
        clear hX hK
        refine wp_region_tail 9 (by kernel_rfl) (by kernel_rfl) ?_
        simp only [List.take_succ_cons, List.take_zero, List.drop_succ_cons, List.drop_zero]
        repeat still_step
        refine wpStill_nil ?_
        go_wp2_with (go_at_call 103; refine (Aid.unhide C _ (by (repeat first | exact (Aid.unhide H).1 | apply RFt.drew | apply RFt.alloc))).mono ?_; rintro e1 w1 ⟨rfl, hT⟩)
        go_end0
        have hX := RFt.took (a := { a with f5 := ⟨(n1 : Int), (n2 : Int), a.f5.f2⟩ }) (a' := { a with f5 := ⟨(n1 : Int), (n2 : Int), (n3 : Int)⟩ }) (by (repeat first | exact (Aid.unhide H).1 | apply RFt.drew | apply RFt.alloc)) hT rfl rfl rfl
        rw [Aid.unhide Q0, h1, Option.bind_some, h2, Option.bind_some, h3, Option.bind_some]
        exact ⟨rfl, ⟨v4, v9, hX.S⟩, Keep2.took ((Aid.unhide H).2.below (by (repeat first | exact Below.refl _ _ | apply below_drew | apply below_alloc))) hT⟩
end Go.Proofs.Ytppgbahiolhgbaa
end
section
set_option linter.unusedVariables false
set_option linter.unusedSimpArgs false
namespace Go.Proofs.Ytppgbahiolhgbaa
open Go.RowKit Go.Proofs.YtppgbahiolhgbaaW.PrintWords Sp
open PScriptReads
theorem took_grown {W W1 W2 : World} {r : Nat} {p : Addr} {u : Value} {t : ByteArray} (h : W.grownBy W1 (some r)) (hT : Took W1 r p u t W2) (hp : W.heap.size ≤ p.block) : W.grownBy W2 (some r) :=
  ⟨hT.os.trans h.os, hT.tape.trans h.tape, hT.output.trans h.output, by rw [hT.size]; exact h.size, fun k hk hne => (hT.far k (fun e => hne (by rw [e])) (by omega)).trans (h.block k hk hne)⟩
theorem took_cell {W W1 : World} {r q : Nat} {n : Value} {u : Value} {t : ByteArray} (h : W.heap[q]? = some (.cells #[n] 3 (0, 0))) (hT : Took W r ⟨q, 0, none⟩ u t W1) : W1.heap[q]? = some (.cells #[u] 3 (0, 0)) := by
  have := hT.at_
  have e : (⟨q, 0, none⟩ : Addr).block = q := rfl
  rw [e] at this
  rw [this, blk_set h]; rfl
theorem Kd.R_grownr {α : Type} {d : Kd α} {e : Nat} {base : Nat} {v : Value} {xs : List α} {W W1 : World} {r : Nat} {x : Array Value} {tx : TypeId} (hR : d.R e W base (fun _ => True) v xs) (hg : W.grownBy W1 (some r)) (hr : W.heap[r]? = some (.cells x tx (0, 0))) (h1 : ∀ q, q ∈ e :: d.E → q ≠ tx) : d.R e W1 base (fun _ => True) v xs :=
  Kd.R_mono (Kd.R_grown (Kd.R_types hR hr h1) hg (fun k hk e => by injection e with e; exact hk.2 e)) (fun _ _ => trivial)
section
variable {w0 : World} {b g r i : Nat} {a a' : S37} {v4 v9 u : Value} {s t : ByteArray} {W W1 : World}
theorem RSt.step (h : RSt w0 g r i a v4 v9 s W) (hr : RdAt W1 r t) (hg : W.grownBy W1 (some r)) : RSt w0 g r i a v4 v9 t W1 :=
  ⟨h.hA.grown hg (fun e => by injection e with e; exact h.gr e), hr, blk_grown h.hI hg (fun e => by injection e with e; exact h.ir e), Kd.R_grownr h.hG hg h.hR (by decide), Kd.R_grownr h.hS hg h.hR (by decide), h.hB.grown hg h.hB.size (by intro k e; injection e with e; subst e; exact h.lr), h.lg, h.lr, h.li⟩
theorem RFt.step (h : RFt w0 b g r i a v4 v9 s W) (hr : RdAt W1 r t) (hg : W.grownBy W1 (some r)) : RFt w0 b g r i a v4 v9 t W1 :=
  ⟨h.S.step hr hg, blk_grown h.F hg (fun e => by injection e with e; exact h.br e)⟩
theorem RSt.put (h : RSt w0 g r i a v4 v9 s W) {o : Nat} (ha : (actW a v4 v9).set! o u = actW a' v4 v9) (h4 : a'.f4 = a.f4) (h7 : a'.f7 = a.f7) : RSt w0 g r i a' v4 v9 s (W.setCell ⟨g, o, none⟩ u) :=
  ⟨by unfold ActV; rw [blk_set h.hA, ha], h.hR.far (Ne.symm h.gr), blk_far h.hI (Ne.symm h.gi), by rw [h4]; exact Kd.R_set h.hG h.hA (by decide) _ _, by rw [h7]; exact Kd.R_set h.hS h.hA (by decide) _ _, h.hB.setCell h.lg _, h.lg, h.lr, h.li⟩
theorem Keep2.grown (h : Keep2 W g r W1) {W2 : World} (hg : W1.grownBy W2 (some r)) : Keep2 W g r W2 :=
  ⟨Nat.le_trans h.1 hg.size, fun k hk h1 h2 => (hg.block k (Nat.lt_of_lt_of_le hk h.1) (fun e => by injection e with e; exact h2 e)).trans (h.2 k hk h1 h2)⟩
theorem Keep2.put (h : Keep2 W g r W1) {o : Nat} : Keep2 W g r (W1.setCell ⟨g, o, none⟩ u) :=
  ⟨by simp [World.setCell]; exact h.1, fun k hk h1 h2 => (Below.heap_setCell W1 ⟨g, o, none⟩ u k h1).trans (h.2 k hk h1 h2)⟩
end
def rdYes (a : S37) (l : Bytes) : Option (S37 × Bytes) := (numP 1 l).map fun q => ({ a with f6 := decide (q.1 = 1) }, q.2)
set_option maxRecDepth 100000 in
set_option maxHeartbeats 4000000 in
theorem rpart50 : RPart 50 rdYes := by
  intro w0 g r i a v4 v9 s w hs hS
  have hm := meth_rnum
  obtain ⟨q0, hq0⟩ : ∃ q, q = rdYes a (L s) := ⟨_, rfl⟩
  rw [← hq0]
  unfold rdYes at hq0
  have Q0 := Aid.hide hq0
  clear hq0
  obtain ⟨y, hy⟩ : ∃ y, y = a.f6 := ⟨_, rfl⟩
  have Y := Aid.hide hy
  go_enter Try.func50, Try.ntmps50
  go_upto_region 1 with (fail)
  have hX := hS.boxed
  have hK : Keep2 w g r (w.alloc (.cells #[.pointer (some ⟨g, 0, none⟩), .iface 88 (.pointer (some ⟨r, 0, none⟩))] 78)) := (Keep2.refl _ _ _).below (below_alloc (Below.refl _ _) _)
  generalize w.alloc (.cells #[.pointer (some ⟨g, 0, none⟩), .iface 88 (.pointer (some ⟨r, 0, none⟩))] 78) = wx at *
  generalize w.heap.size = b at hX ⊢
  clear hS
  go_upto_region 2 with (fail)
  have hN : (wx.alloc (.cells #[.int .i64 0] 3)).heap[wx.heap.size]? = some (.cells #[.int .i64 0] 3 (0, 0)) := blk_new rfl
  have hG : wx.grownBy (wx.alloc (.cells #[.int .i64 0] 3)) (some r) := World.grownBy_alloc _ _ _
  have hX1 := hX.alloc (.cells #[.int .i64 0] 3)
  have hqs : wx.heap.size ≤ wx.heap.size := Nat.le_refl _
  have hqr : wx.heap.size ≠ r := by have := hX.S.hR.lt; omega
  have hqg : wx.heap.size ≠ g := by have := hX.S.hA.lt; omega
  have hqb : wx.heap.size ≠ b := by have := hX.F.lt; omega
  generalize wx.alloc (.cells #[.int .i64 0] 3) = wy at *
  obtain ⟨q, hq⟩ : ∃ q, q = wx.heap.size := ⟨_, rfl⟩
  rw [← hq] at hN hqr hqg hqb ⊢
  have hqs : wx.heap.size ≤ q := by omega
  clear hq
  have k8 := hX1.S.hA.ten.k8
  rw [← hy] at k8
  clear hy
  have f0 := hX1.F.c0
  have f1 := hX1.F.c1
  have n0 : wy.cell? ⟨q, 0, none⟩ = some (.int .i64 0) := (blk_cell hN 0).trans rfl
  have nz : wy.frozen? ⟨q, 0, none⟩ = false := by simp [World.frozen?, hN]
  have hlq : q < wy.heap.size := blk_lt hN
  have hlg := hX1.S.hA.lt
  have hlb := hX1.F.lt
  have hlr := hX1.S.hR.lt
  -- the number's cell when it is read
  have key : ∀ (n : Int) (wz : World), wz.heap[q]? = some (.cells #[.int .i64 n] 3 (0, 0)) → wx.grownBy wz (some r) → RFt w0 b g r i a v4 v9 s wz →
      Calls Try.prog 103 #[.pointer (some ⟨r, 0, none⟩), .pointer (some ⟨q, 0, none⟩), .int .i64 1] wz fun e w' => match numP 1 (L s) with | some (v, t) => e = .returned (.tuple #[]) ∧ w'.heap[q]? = some (.cells #[.int .i64 (v : Int)] 3 (0, 0)) ∧ RFt w0 b g r i a v4 v9 (mk t) w' ∧ Keep2 w g r w' | none => e = .panicked thrownN ∧ DSt w0 g i w' := by
    intro n wz h1 h2 h3
    cases h : numP 1 (L s) with
    | none => exact (rnum103_no r ⟨q, 0, none⟩ 1 s wz h3.S.hR (by omega) h).mono fun _ _ ⟨k1, k2⟩ => ⟨k1, by subst k2; exact h3.S.dead⟩
    | some z =>
      obtain ⟨v, t⟩ := z
      exact (rnum103_ok r ⟨q, 0, none⟩ 1 v n s t wz h3.S.hR ((blk_cell h1 0).trans rfl) (by simp [World.frozen?, h1]) hqr (by omega) h).mono fun _ _ ⟨k1, hT⟩ =>
        ⟨k1, took_cell h1 hT, hX.step hT.rd (took_grown h2 hT hqs), hK.grown (took_grown h2 hT hqs)⟩
  have key2 : ∀ n wz, wz = wy.setCell ⟨q, 0, none⟩ (.int .i64 n) → wz.heap[q]? = some (.cells #[.int .i64 n] 3 (0, 0)) ∧ wx.grownBy wz (some r) ∧ RFt w0 b g r i a v4 v9 s wz := by
    intro n wz e
    subst e
    have h1 : (wy.setCell ⟨q, 0, none⟩ (.int .i64 n)).heap[q]? = some (.cells #[.int .i64 n] 3 (0, 0)) := by rw [blk_set hN]; rfl
    have h2 : wx.grownBy (wy.setCell ⟨q, 0, none⟩ (.int .i64 n)) (some r) := Aid.only_setCell hG (Or.inr hqs) _
    exact ⟨h1, h2, hX.step (hX1.S.hR.far (Ne.symm hqr)) h2⟩
  have K := Aid.hide (And.intro key (And.intro key2 (And.intro hN (And.intro hG hX1))))
  clear key key2 hN hG hX1 hX hK
  cases hn : numP 1 (L s) with
  | none =>
    rw [hn] at K
    cases y with
    | false =>
      have C := Aid.hide ((Aid.unhide K).1 0 wy (Aid.unhide K).2.2.1 (Aid.unhide K).2.2.2.1 (Aid.unhide K).2.2.2.2)
      clear K
      go_wp2_with (go_at_call 103; refine (Aid.unhide C).mono ?_; rintro e1 w1 ⟨rfl, hD⟩)
      refine ⟨rfl, ?_⟩
      rw [Aid.unhide Q0, hn]
      exact ⟨rfl, hD⟩
    | true =>
      have h2 := (Aid.unhide K).2.1 1 _ rfl
      have C := Aid.hide ((Aid.unhide K).1 1 _ h2.1 h2.2.1 h2.2.2)
      clear K h2
      go_wp2_with (go_at_call 103; refine (Aid.unhide C).mono ?_; rintro e1 w1 ⟨rfl, hD⟩)
      refine ⟨rfl, ?_⟩
      rw [Aid.unhide Q0, hn]
      exact ⟨rfl, hD⟩
  | some z =>
    obtain ⟨v, t⟩ := z
    rw [hn] at K
    have hv := (numP_le hn).1
    have hb : ((v : Int) == 1) = decide (v = 1) := by rw [Bool.eq_iff_iff]; simp; omega
    have HB := Aid.hide hb
    clear hb
    cases y with
    | false =>
      have C := Aid.hide ((Aid.unhide K).1 0 wy (Aid.unhide K).2.2.1 (Aid.unhide K).2.2.2.1 (Aid.unhide K).2.2.2.2)
      clear K
      go_wp2_with (go_at_call 103; refine (Aid.unhide C).mono ?_; rintro e1 w1 ⟨rfl, hN, hX, hK⟩; have f0 := hX.F.c0; have f1 := hX.F.c1; have n0 : w1.cell? ⟨q, 0, none⟩ = some (.int .i64 (v : Int)) := (blk_cell hN 0).trans rfl; have k8 := hX.S.hA.ten.k8; have fz := hX.S.hA.frz 8)
      go_end0
      rw [Aid.unhide Q0, hn]
      refine ⟨rfl, ⟨v4, v9, ?_⟩, hK.put⟩
      rw [Aid.unhide HB]
      exact RSt.put (a' := { a with f6 := decide (v = 1) }) hX.S rfl rfl rfl
    | true =>
      have h2 := (Aid.unhide K).2.1 1 _ rfl
      have C := Aid.hide ((Aid.unhide K).1 1 _ h2.1 h2.2.1 h2.2.2)
      clear K h2
      go_wp2_with (go_at_call 103; refine (Aid.unhide C).mono ?_; rintro e1 w1 ⟨rfl, hN, hX, hK⟩; have f0 := hX.F.c0; have f1 := hX.F.c1; have n0 : w1.cell? ⟨q, 0, none⟩ = some (.int .i64 (v : Int)) := (blk_cell hN 0).trans rfl; have k8 := hX.S.hA.ten.k8; have fz := hX.S.hA.frz 8)
      go_end0
      rw [Aid.unhide Q0, hn]
      refine ⟨rfl, ⟨v4, v9, ?_⟩, hK.put⟩
      rw [Aid.unhide HB]
      exact RSt.put (a' := { a with f6 := decide (v = 1) }) hX.S rfl rfl rfl
end Go.Proofs.Ytppgbahiolhgbaa
end
section
set_option linter.unusedVariables false
set_option linter.unusedSimpArgs false
namespace Go.Proofs.Ytppgbahiolhgbaa
open Go.RowKit Go.Proofs.YtppgbahiolhgbaaW.PrintWords Sp
open PScriptReads
theorem R_made {α : Type} (d : Kd α) (e : Nat) {W : World} {base : Nat} {z : Value} {z0 : α} (n : Nat) (hz : z.cells.size = d.sz) (hs0 : 0 < d.sz) (hzero : ∀ W ok, d.M W base ok z0 z.cells.toList) (hb : base ≤ W.heap.size) (hm : n ≤ 1000000) :
    d.R e (W.alloc (.cells (madeCells z.cells (n * d.sz)) e)) base (fun _ => True) (.slice (some ⟨W.heap.size, 0, none⟩) n n) (List.replicate n z0) := by
  refine ⟨fun _ _ => trivial, (madeCells z.cells (n * d.sz)).toList, ?_, ?_⟩
  · rw [List.length_replicate]
    exact World.ownsRow_lit W _ n hb (by simp only [maxLen]; omega) (size_madeCells _ _)
  · exact Kd.reps_made hz hs0 (hzero _ _) n
theorem mk48 (n : Nat) (hn : n ≤ 1000) (W : World) : (Instr.makeSlice 32 (.int .i64 (n : Int)) (.int .i64 (n : Int))).run Try.prog W = .ok (.slice (some ⟨W.heap.size, 0, none⟩) n n) (W.alloc (.cells (madeCells (Value.agg #[.int .i64 0, .string ⟨#[]⟩]).cells (n * k48.sz)) 48)) := by
  obtain ⟨i0, hi, hzz⟩ := Option.map_eq_some_iff.1 inf48
  simp only [Prod.mk.injEq] at hzz
  obtain ⟨hz0, hz1, hz2⟩ := hzz
  have h := run_make (P := Try.prog) W 32 48 i0 _ Try.underlying32 hi hz0 .i64 .i64 (n : Int) (n : Int) (by omega) (by omega) (by rw [hz2]; omega) (by omega)
  rw [hz1] at h
  simp only [Int.toNat_natCast] at h
  exact h
theorem mk51 (n : Nat) (hn : n ≤ 1000) (W : World) : (Instr.makeSlice 35 (.int .i64 (n : Int)) (.int .i64 (n : Int))).run Try.prog W = .ok (.slice (some ⟨W.heap.size, 0, none⟩) n n) (W.alloc (.cells (madeCells (Value.agg #[.int .u8 0, .int .i64 0, .int .i64 0, .int .i64 0, .int .i64 0, .string ⟨#[]⟩, .slice none 0 0]).cells (n * kraw.sz)) 51)) := by
  obtain ⟨i0, hi, hzz⟩ := Option.map_eq_some_iff.1 inf51
  simp only [Prod.mk.injEq] at hzz
  obtain ⟨hz0, hz1, hz2⟩ := hzz
  have h := run_make (P := Try.prog) W 35 51 i0 _ Try.underlying35 hi hz0 .i64 .i64 (n : Int) (n : Int) (by omega) (by omega) (by rw [hz2]; omega) (by omega)
  rw [hz1] at h
  simp only [Int.toNat_natCast] at h
  exact h
theorem mkr3 (n : Nat) (hn : n ≤ 1000) (W : World) : (Instr.makeSlice 49 (.int .i64 (n : Int)) (.int .i64 (n : Int))).run Try.prog W = .ok (.slice (some ⟨W.heap.size, 0, none⟩) n n) (W.alloc (.cells (madeCells (Value.int .i64 0).cells (n * (Kd.int .i64).sz)) 3)) := by
  obtain ⟨i0, hi, hzz⟩ := Option.map_eq_some_iff.1 inf3
  simp only [Prod.mk.injEq] at hzz
  obtain ⟨hz0, hz1, hz2⟩ := hzz
  have h := run_make (P := Try.prog) W 49 3 i0 _ Try.underlying49 hi hz0 .i64 .i64 (n : Int) (n : Int) (by omega) (by omega) (by rw [hz2]; omega) (by omega)
  rw [hz1] at h
  simp only [Int.toNat_natCast] at h
  exact h
def NewRow {α : Type} (d : Kd α) (e : Nat) (W w' : World) (n : Nat) (z0 : α) (b : Nat) : Prop :=
  W.heap.size ≤ b ∧ d.R e w' W.heap.size (fun _ => True) (.slice (some ⟨b, 0, none⟩) n n) (List.replicate n z0)
set_option maxRecDepth 100000 in
set_option maxHeartbeats 2000000 in
theorem room64 (c g T r : Nat) (n : Nat) (a : S37) (v4 v9 : Value) (w : World) (hn : n ≤ 1000) (hF : FAt w c g T r) (hA : ActV w g a v4 v9) :
    Calls Try.prog 64 #[.int .i64 (n : Int), .pointer (some ⟨c, 0, none⟩)] w fun e w' => e = .returned (.tuple #[]) ∧ ∃ b, NewRow k48 48 w w' n ⟨0, ⟨#[]⟩⟩ b ∧ ActV w' g a (.slice (some ⟨b, 0, none⟩) n n) v9 ∧ w.grownBy w' (some g) := by
  have hmk := mk48 n hn
  have f0 := hF.c0
  have k4 := hA.ten.k4
  have z4 := hA.frz 4
  have hlf := hF.lt
  have hlg := hA.lt
  have H := Aid.hide (And.intro hF hA)
  clear hF hA
  generalize hcs : (madeCells (Value.agg #[.int .i64 0, .string ⟨#[]⟩]).cells (n * k48.sz)) = cs at hmk
  have HC := Aid.hide hcs
  clear hcs
  go_enter Try.func64, Try.ntmps64
  go_region_with (fail)
  all_goals
    go_end0
    have hz : (w.setCell ⟨g, 4, none⟩ (.slice (some ⟨w.heap.size, 0, none⟩) n n)).heap.size = w.heap.size := by simp [World.setCell]
    have hA1 := ((Aid.unhide H).2.set4 (u := .slice (some ⟨w.heap.size, 0, none⟩) n n)).below (below_drew (below_alloc (Below.refl _ _) (.cells cs 48)))
    have hR := R_made k48 48 (W := w.setCell ⟨g, 4, none⟩ (.slice (some ⟨w.heap.size, 0, none⟩) n n)) (base := w.heap.size) (z := .agg #[.int .i64 0, .string ⟨#[]⟩]) (z0 := ⟨0, ⟨#[]⟩⟩) n rfl (by decide) (fun W ok => k48_mkM W _ ok ⟨0, ⟨#[]⟩⟩) (by omega) (by omega)
    rw [Aid.unhide HC, hz] at hR
    exact ⟨rfl, _, ⟨Nat.le_refl _, Kd.R_below hR (below_drew (Below.refl _ _))⟩, hA1, Aid.only_drew (Aid.only_alloc (Aid.only_setCell (World.grownBy.refl _ _) (Or.inl rfl) _) _)⟩
set_option maxRecDepth 100000 in
set_option maxHeartbeats 2000000 in
theorem room65 (c g T r : Nat) (n : Nat) (a : S37) (v4 v9 : Value) (w : World) (hn : n ≤ 1000) (hF : FAt w c g T r) (hA : ActV w g a v4 v9) :
    Calls Try.prog 65 #[.int .i64 (n : Int), .pointer (some ⟨c, 0, none⟩)] w fun e w' => e = .returned (.tuple #[]) ∧ ∃ b, NewRow kraw 51 w w' n (z51, (none, 0, 0)) b ∧ ActV w' g a v4 (.slice (some ⟨b, 0, none⟩) n n) ∧ w.grownBy w' (some g) := by
  have hmk := mk51 n hn
  have f0 := hF.c0
  have k9 := hA.ten.k9
  have z9 := hA.frz 9
  have hlf := hF.lt
  have hlg := hA.lt
  have H := Aid.hide (And.intro hF hA)
  clear hF hA
  generalize hcs : (madeCells (Value.agg #[.int .u8 0, .int .i64 0, .int .i64 0, .int .i64 0, .int .i64 0, .string ⟨#[]⟩, .slice none 0 0]).cells (n * kraw.sz)) = cs at hmk
  have HC := Aid.hide hcs
  clear hcs
  go_enter Try.func65, Try.ntmps65
  go_region_with (fail)
  all_goals
    go_end0
    have hz : (w.setCell ⟨g, 9, none⟩ (.slice (some ⟨w.heap.size, 0, none⟩) n n)).heap.size = w.heap.size := by simp [World.setCell]
    have hA1 := ((Aid.unhide H).2.set9 (u := .slice (some ⟨w.heap.size, 0, none⟩) n n)).below (below_drew (below_alloc (Below.refl _ _) (.cells cs 51)))
    have hR := R_made kraw 51 (W := w.setCell ⟨g, 9, none⟩ (.slice (some ⟨w.heap.size, 0, none⟩) n n)) (base := w.heap.size) (z := .agg #[.int .u8 0, .int .i64 0, .int .i64 0, .int .i64 0, .int .i64 0, .string ⟨#[]⟩, .slice none 0 0]) (z0 := (z51, (none, 0, 0))) n rfl (by decide) (fun W ok => kraw_mkM W _ ok (z51, (none, 0, 0))) (by omega) (by omega)
    rw [Aid.unhide HC, hz] at hR
    exact ⟨rfl, _, ⟨Nat.le_refl _, Kd.R_below hR (below_drew (Below.refl _ _))⟩, hA1, Aid.only_drew (Aid.only_alloc (Aid.only_setCell (World.grownBy.refl _ _) (Or.inl rfl) _) _)⟩
set_option maxRecDepth 100000 in
set_option maxHeartbeats 2000000 in
theorem room66 (h : Nat) (P : Addr) (n : Nat) (x : Value) (w : World) (hn : n ≤ 1000) (hP : Blk w h #[.pointer (some P)] 110) (hx : w.cell? ⟨P.block, P.off + 6, none⟩ = some x) (hf : w.frozen? ⟨P.block, P.off + 6, none⟩ = false) :
    Calls Try.prog 66 #[.int .i64 (n : Int), .pointer (some ⟨h, 0, none⟩)] w fun e w' => e = .returned (.tuple #[]) ∧ ∃ b, NewRow (Kd.int .i64) 3 w w' n 0 b ∧ w'.heap[P.block]? = (w.setCell ⟨P.block, P.off + 6, none⟩ (.slice (some ⟨b, 0, none⟩) n n)).heap[P.block]? ∧ w.grownBy w' (some P.block) := by
  have hmk := mkr3 n hn
  have p0 : w.cell? ⟨h, 0, none⟩ = some (.pointer (some P)) := hP.cell 0
  have hlh : h < w.heap.size := blk_lt hP
  have hlp : P.block < w.heap.size := World.block_lt_of_cell? _ ⟨P.block, P.off + 6, none⟩ hx
  have H := Aid.hide hP
  clear hP
  generalize hcs : (madeCells (Value.int .i64 0).cells (n * (Kd.int .i64).sz)) = cs at hmk
  have HC := Aid.hide hcs
  clear hcs
  go_enter Try.func66, Try.ntmps66
  go_region_with (fail)
  all_goals
    go_end0
    have hz : (w.setCell ⟨P.block, P.off + 6, none⟩ (.slice (some ⟨w.heap.size, 0, none⟩) n n)).heap.size = w.heap.size := by simp [World.setCell]
    have hR := R_made (Kd.int .i64) 3 (W := w.setCell ⟨P.block, P.off + 6, none⟩ (.slice (some ⟨w.heap.size, 0, none⟩) n n)) (base := w.heap.size) (z := .int .i64 0) (z0 := (0 : Int)) n rfl (by decide) (fun W ok => rfl) (by omega) (by omega)
    rw [Aid.unhide HC, hz] at hR
    exact ⟨rfl, _, ⟨Nat.le_refl _, Kd.R_below hR (below_drew (Below.refl _ _))⟩, Below.heap_alloc _ _ _ (by rw [hz]; exact hlp), Aid.only_drew (Aid.only_alloc (Aid.only_setCell (World.grownBy.refl _ _) (Or.inl rfl) _) _)⟩
end Go.Proofs.Ytppgbahiolhgbaa
end
section
set_option linter.unusedVariables false
set_option linter.unusedSimpArgs false
namespace Go.Proofs.Ytppgbahiolhgbaa
open Go.RowKit Go.Proofs.YtppgbahiolhgbaaW.PrintWords Sp
open PScriptReads
theorem isReader (a : Addr) (W : World) : (Instr.typeAssert (.iface 88 (.pointer (some a))) 76 88 true).run Try.prog W = .ok (.tuple #[.pointer (some a), .bool true]) W := by kernel_rfl
structure Ask (w : World) (q b g r : Nat) (n0 : Int) (s : ByteArray) (W : World) : Prop where
  N : W.heap[q]? = some (.cells #[.int .i64 n0] 3 (0, 0))
  F : FAt W b g 88 r
  R : RdAt W r s
  G : w.grownBy W (some r)
  hq : w.heap.size ≤ q
theorem ask_new (w : World) (g r : Nat) (n0 : Int) (s : ByteArray) (hR : RdAt w r s) : Ask w (w.heap.size + 1) w.heap.size g r n0 s ((w.alloc (.cells #[.pointer (some ⟨g, 0, none⟩), .iface 88 (.pointer (some ⟨r, 0, none⟩))] 78)).alloc (.cells #[.int .i64 n0] 3)) :=
  ⟨blk_new (by simp), (FAt.new _ _ _ _).below (below_alloc (Below.refl _ _) _), (hR.below (below_alloc (Below.refl _ _) _)).below (below_alloc (Below.refl _ _) _), Aid.only_alloc (World.grownBy_alloc _ _ _) _, by omega⟩
set_option maxRecDepth 100000 in
set_option maxHeartbeats 2000000 in
theorem rrows63_no (g r : Nat) (n0 : Int) (m : Nat) (s : ByteArray) (fv : Value) (w : World) (hR : RdAt w r s) (hm : m ≤ 2147483647) (h : numP m (L s) = none) :
    Calls Try.prog 63 #[formV g 88 r, .int .i64 n0, .int .i64 (m : Int), fv] w fun e w' => e = .panicked thrownN ∧ Below w.heap.size w w' := by
  have hmt := meth_rnum
  have hN := ask_new w g r n0 s hR
  have hb : Below w.heap.size w ((w.alloc (.cells #[.pointer (some ⟨g, 0, none⟩), .iface 88 (.pointer (some ⟨r, 0, none⟩))] 78)).alloc (.cells #[.int .i64 n0] 3)) := below_alloc (below_alloc (Below.refl _ _) _) _
  have H := Aid.hide h
  clear h
  go_enter Try.func63, Try.ntmps63
  go_upto_region 1 with (fail)
  generalize (w.alloc (.cells #[.pointer (some ⟨g, 0, none⟩), .iface 88 (.pointer (some ⟨r, 0, none⟩))] 78)).alloc (.cells #[.int .i64 n0] 3) = wx at *
  generalize w.heap.size + 1 = q at *
  generalize hbx : w.heap.size = b at hN ⊢
  have HBX := Aid.hide hbx
  clear hbx
  have f1 := hN.F.c1
  have C := Aid.hide (rnum103_no r ⟨q, 0, none⟩ m s wx hN.R hm (Aid.unhide H))
  go_wp2_with (go_at_call 103; refine (Aid.unhide C).mono ?_; rintro e1 w1 ⟨rfl, rfl⟩)
  exact ⟨rfl, rfl, Aid.unhide HBX ▸ hb⟩
def Q63 (w : World) (r : Nat) (v : Nat) (t : Bytes) (Q : World → World → Prop) (e : Ending) (w' : World) : Prop :=
  e = .returned (.int .i64 (v : Int)) ∧ ∃ W1, w.grownBy W1 (some r) ∧ RdAt W1 r (mk t) ∧ Q W1 w'
set_option maxRecDepth 100000 in
set_option maxHeartbeats 2000000 in
theorem rrows63 (F : Nat) (hF : F = 64 ∨ F = 65 ∨ F = 66) (c g r : Nat) (n0 : Int) (m v : Nat) (s : ByteArray) (t : Bytes) (w : World) (hR : RdAt w r s) (hm : m ≤ 2147483647) (h : numP m (L s) = some (v, t)) (Q : World → World → Prop)
    (hf : ∀ W1, w.grownBy W1 (some r) → RdAt W1 r (mk t) → Calls Try.prog F #[.int .i64 (v : Int), .pointer (some ⟨c, 0, none⟩)] W1 fun e w' => e = .returned (.tuple #[]) ∧ Q W1 w' ∧ ∃ x, x < w.heap.size ∧ W1.grownBy w' (some x)) :
    Calls Try.prog 63 #[formV g 88 r, .int .i64 n0, .int .i64 (m : Int), .func (.func F) #[] #[.pointer (some ⟨c, 0, none⟩)]] w (Q63 w r v t Q) := by
  have hmt := meth_rnum
  have hta := isReader
  have hN := ask_new w g r n0 s hR
  have H := Aid.hide (And.intro h hf)
  have hsz : r < w.heap.size := hR.lt
  clear h hf
  obtain rfl | rfl | rfl := hF
  all_goals
    go_enter Try.func63, Try.ntmps63
    go_upto_region 1 with (fail)
    generalize (w.alloc (.cells #[.pointer (some ⟨g, 0, none⟩), .iface 88 (.pointer (some ⟨r, 0, none⟩))] 78)).alloc (.cells #[.int .i64 n0] 3) = wx at *
    generalize w.heap.size + 1 = q at *
    generalize hbx : w.heap.size = b at hN ⊢
    have hwb : w.heap.size ≤ b := by omega
    clear hbx
    have f1 := hN.F.c1
    have n1 := hN.N
    have hqr : q ≠ r := ty_ne hN.N hN.R (by decide)
    have C := Aid.hide (rnum103_ok r ⟨q, 0, none⟩ m v n0 s t wx hN.R ((blk_cell hN.N 0).trans rfl) (by simp [World.frozen?, n1]) hqr hm (Aid.unhide H).1)
    have HN := Aid.hide hN
    have hbr : b ≠ r := ty_ne hN.F hN.R (by decide)
    have hbq : b ≠ q := ty_ne hN.F hN.N (by decide)
    have hqs : w.heap.size ≤ q := hN.hq
    clear n1 hN
    go_upto_region 2 with (go_at_call 103; refine (Aid.unhide C).mono ?_; rintro e1 w1 ⟨rfl, hT⟩)
    have hG := took_grown (Aid.unhide HN).G hT hqs
    have hF1 : FAt w1 b g 88 r := (hT.far b hbr hbq).trans (Aid.unhide HN).F
    have hQ1 := took_cell (Aid.unhide HN).N hT
    have hRd := hT.rd
    have f1 := hF1.c1
    have n1 : w1.cell? ⟨q, 0, none⟩ = some (.int .i64 (v : Int)) := (blk_cell hQ1 0).trans rfl
    have D := Aid.hide ((Aid.unhide H).2 w1 hG hRd)
    have HG := Aid.hide (And.intro hG (And.intro hRd hQ1))
    clear hG hF1 hQ1 hRd hT C HN
    go_wp2_with (first | (go_at_call 64; (refine (Aid.unhide D).mono ?_; rintro e1 w2 ⟨rfl, hq, x, hx, hgx⟩; have n1 : w2.cell? ⟨q, 0, none⟩ = some (.int .i64 (v : Int)) := (blk_cell (blk_grown (Aid.unhide HG).2.2 hgx (by intro e; injection e with e; omega)) 0).trans rfl)) | (go_at_call 65; (refine (Aid.unhide D).mono ?_; rintro e1 w2 ⟨rfl, hq, x, hx, hgx⟩; have n1 : w2.cell? ⟨q, 0, none⟩ = some (.int .i64 (v : Int)) := (blk_cell (blk_grown (Aid.unhide HG).2.2 hgx (by intro e; injection e with e; omega)) 0).trans rfl)) | (go_at_call 66; (refine (Aid.unhide D).mono ?_; rintro e1 w2 ⟨rfl, hq, x, hx, hgx⟩; have n1 : w2.cell? ⟨q, 0, none⟩ = some (.int .i64 (v : Int)) := (blk_cell (blk_grown (Aid.unhide HG).2.2 hgx (by intro e; injection e with e; omega)) 0).trans rfl)))
    go_ret
    exact ⟨rfl, w1, (Aid.unhide HG).1, (Aid.unhide HG).2.1, hq⟩
end Go.Proofs.Ytppgbahiolhgbaa
end
