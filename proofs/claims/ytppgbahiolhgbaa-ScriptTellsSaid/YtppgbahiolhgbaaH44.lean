/- Contracts and plain laws over the seat, laid together (group 44 of what the claim needs). -/
import Derived.Test.YtppgbahiolhgbaaH43
import Derived.Test.YtppgbahiolhgbaaH39
import Derived.Test.YtppgbahiolhgbaaH37
import Derived.Deep.RegionHeld3
set_option linter.unusedVariables false
set_option linter.unusedSimpArgs false
namespace Go.Proofs.Ytppgbahiolhgbaa
open Go.RowKit Go.Proofs.YtppgbahiolhgbaaW.PrintWords Sp
open PScriptReads
theorem idle42 (p q : Addr) (w : World) : CallsD Try.prog 42 #[.pointer (some p), .pointer (some q)] .returning w fun e u' w' => e = .returned (.tuple #[]) ∧ u' = .returning ∧ w' = w := by
  refine callsD_of_wpS Try.func42 rfl fun c₀ cs hu => ?_
  apply wpS_seq
  apply wpS_region
  simp [wpOpsS, go_sem, recoverD, hu, Try.ntmps42, Exit.thenS]
  have hnq : ∀ W : World, (binOp .neq 20 .nilIface .nilIface).run Try.prog W = .ok (.bool false) W := fun _ => by kernel_rfl
  refine wpS_of_wp ?_
  have hfr : (#[.pointer (some p), .pointer (some q)] ++ ((Array.replicate 15 undef).setIfInBounds 3 Value.nilIface).setIfInBounds 0 Value.nilIface : Array Value) = #[.pointer (some p), .pointer (some q), .nilIface, undef, undef, .nilIface, undef, undef, undef, undef, undef, undef, undef, undef, undef, undef, undef] := by rfl
  rw [hfr]
  clear hfr
  go_wp2
  cases c₀
  simp_all [bodyPostS, results, Try.results42]
theorem PartsAt.keep {W W1 : World} {g T r : Nat} {v : Value} {l : List Nat} {s : ByteArray} {a : S37} {v4 v9 : Value} (h : PartsAt W g T r v l) (hA : ActV W g a v4 v9) (hR : RdAt W r s) (hk : Keep2 W g r W1) : PartsAt W1 g T r v l := by
  rcases h with h | ⟨b, h1, h2⟩
  · exact .inl h
  · exact .inr ⟨b, h1, (hk.2 b (blk_lt h2) (ty_ne h2 hA (by decide)) (ty_ne h2 hR (by decide))).trans h2⟩
theorem rparts (h52 : RPart 52 rdSteps) (F : Nat) (h : F = 46 ∨ F = 47 ∨ F = 48 ∨ F = 49 ∨ F = 50 ∨ F = 51 ∨ F = 52) : RPart F (rdF F) := by
  obtain rfl | rfl | rfl | rfl | rfl | rfl | rfl := h
  · exact rpart46
  · exact rpart47
  · exact rpart48
  · exact rpart49
  · exact rpart50
  · exact rpart51
  · exact h52
def OnePost (w : World) (q : Option (S37 × Bytes)) (e : Ending) (w' : World) : Prop :=
  match q with
  | some (a, t) => ∃ v4 v9, e = .returned (.tuple #[.agg (actW a v4 v9), .string (mk t), .bool (mayAct a)]) ∧ k48.R 48 w' w.heap.size (fun _ => True) v4 a.f4 ∧ k51.R 51 w' w.heap.size (fun _ => True) v9 a.f7 ∧ Below w.heap.size w w'
  | none => e = .returned (.tuple #[.agg (actW act0 (.slice none 0 0) (.slice none 0 0)), .string ⟨#[]⟩, .bool false]) ∧ Below w.heap.size w w'
def isv (i : Nat) (W : World) : Value := (W.cell? ⟨i, 0, none⟩).getD undef
structure EndS (w : World) (g r i : Nat) (a : S37) (v4 v9 : Value) (s : ByteArray) (b : Bool) (W : World) : Prop where
  hA : ActV W g a v4 v9
  hR : RdAt W r s
  hI : W.heap[i]? = some (.cells #[.bool b] 4 (0, 0))
  hG : k48.R 48 W w.heap.size (fun _ => True) v4 a.f4
  hS : k51.R 51 W w.heap.size (fun _ => True) v9 a.f7
  hB : Below w.heap.size w W
  li : w.heap.size ≤ i
section
variable {w : World} {g r i : Nat} {a : S37} {v4 v9 : Value} {s : ByteArray} {b : Bool} {W W1 : World}
theorem EndS.below (h : EndS w g r i a v4 v9 s b W) (hb : Below W.heap.size W W1) : EndS w g r i a v4 v9 s b W1 :=
  ⟨h.hA.below hb, h.hR.below hb, blk_of h.hI hb, Kd.R_below h.hG hb, Kd.R_below h.hS hb, h.hB.trans (hb.mono h.hB.size), h.li⟩
theorem EndS.put (h : EndS w g r i a v4 v9 s b W) (b' : Bool) : EndS w g r i a v4 v9 s b' (W.setCell ⟨i, 0, none⟩ (.bool b')) :=
  ⟨blk_far h.hA (ty_ne h.hA h.hI (by decide)), h.hR.far (ty_ne h.hR h.hI (by decide)), by rw [blk_set h.hI]; rfl, Kd.R_set h.hG h.hI (by decide) _ _, Kd.R_set h.hS h.hI (by decide) _ _, h.hB.setCell h.li _, h.li⟩
theorem EndS.same (h : EndS w g r i a v4 v9 s b W) : EndS w g r i a v4 v9 s b ((((((((((W.setCell ⟨g, 0, none⟩ (.int .u8 a.f0)).setCell ⟨g, 1, none⟩ (.int .i64 a.f1)).setCell ⟨g, 2, none⟩ (.int .i64 a.f2)).setCell ⟨g, 3, none⟩ (.int .i64 a.f3)).setCell ⟨g, 4, none⟩ v4).setCell ⟨g, 5, none⟩ (.int .i64 a.f5.f0)).setCell ⟨g, 6, none⟩ (.int .i64 a.f5.f1)).setCell ⟨g, 7, none⟩ (.int .i64 a.f5.f2)).setCell ⟨g, 8, none⟩ (.bool a.f6)).setCell ⟨g, 9, none⟩ v9) := by
  have st : ∀ {W : World} {o : Nat} {v : Value}, EndS w g r i a v4 v9 s b W → W.cell? ⟨g, o, none⟩ = some v → EndS w g r i a v4 v9 s b (W.setCell ⟨g, o, none⟩ v) := fun h hc => h.below (below_same hc)
  have h1 := st h h.hA.ten.k0
  have h2 := st h1 h1.hA.ten.k1
  have h3 := st h2 h2.hA.ten.k2
  have h4 := st h3 h3.hA.ten.k3
  have h5 := st h4 h4.hA.ten.k4
  have h6 := st h5 h5.hA.ten.k5
  have h7 := st h6 h6.hA.ten.k6
  have h8 := st h7 h7.hA.ten.k7
  have h9 := st h8 h8.hA.ten.k8
  exact st h9 h9.hA.ten.k9
theorem EndS.all (h : ∃ b, EndS w g r i a v4 v9 s b W) : (∃ b, EndS w g r i a v4 v9 s b W) ∧ W.cell? ⟨g, 0, none⟩ = some (.int .u8 a.f0) ∧ W.cell? ⟨g, 1, none⟩ = some (.int .i64 a.f1) ∧ W.cell? ⟨g, 2, none⟩ = some (.int .i64 a.f2) ∧ W.cell? ⟨g, 3, none⟩ = some (.int .i64 a.f3) ∧ W.cell? ⟨g, 4, none⟩ = some v4 ∧ W.cell? ⟨g, 5, none⟩ = some (.int .i64 a.f5.f0) ∧ W.cell? ⟨g, 6, none⟩ = some (.int .i64 a.f5.f1) ∧ W.cell? ⟨g, 7, none⟩ = some (.int .i64 a.f5.f2) ∧ W.cell? ⟨g, 8, none⟩ = some (.bool a.f6) ∧ W.cell? ⟨g, 9, none⟩ = some v9 ∧ W.cell? ⟨r, 0, none⟩ = some (.string s) ∧ W.cell? ⟨i, 0, none⟩ = some (isv i W) ∧ W.frozen? ⟨i, 0, none⟩ = false ∧ (∀ o, W.frozen? ⟨g, o, none⟩ = false) := by
  obtain ⟨b, h'⟩ := h
  obtain ⟨k0, k1, k2, k3, k4, k5, k6, k7, k8, k9⟩ := h'.hA.ten
  have i0 : W.cell? ⟨i, 0, none⟩ = some (.bool b) := (blk_cell h'.hI 0).trans rfl
  refine ⟨⟨b, h'⟩, k0, k1, k2, k3, k4, k5, k6, k7, k8, k9, h'.hR.cell, ?_, ?_, h'.hA.frz⟩
  · unfold isv; rw [i0]; rfl
  · have h := h'.hI; simp [World.frozen?, h]
end
set_option maxRecDepth 100000 in
set_option maxHeartbeats 8000000 in
theorem one33 (h52 : RPart 52 rdSteps) (s : ByteArray) (w : World) (hs : s.size ≤ 1000000) (h0 : 0 < s.size) : Calls Try.prog 33 #[.string s] w (OnePost w (rdAct (L s))) := by
  obtain ⟨c, l, hL⟩ : ∃ c l, L s = c :: l := by
    cases h : L s with
    | nil => have := L_len s; rw [h] at this; simp at this; omega
    | cons c l => exact ⟨c, l, rfl⟩
  obtain ⟨c1, hsz, hb0⟩ := at0 hL
  have hu := u8_lt c
  have hext : s.extract 1 s.size = mk l := by
    apply L_inj
    rw [L_mk, L_ext, hL, hsz]; simp
  obtain ⟨q0, hq0⟩ : ∃ q, q = rdAct (L s) := ⟨_, rfl⟩
  rw [← hq0]
  rw [hL, rdAct] at hq0
  have hmf : ∀ (fn : Fn) (first cap : Array Value) (w : World), (Instr.makeFunc fn first cap).run Try.prog w = .ok (.func fn first cap) w := fun _ _ _ _ => rfl
  have hix : ∀ W, (Instr.index 9 (.string s) (.int .i64 0)).run Try.prog W = .ok (.int .u8 (c.toNat : Int)) W := fun W => by rw [← hb0]; exact ix9 s .i64 0 (by omega) (by omega) W
  have p2 : (1 ≤ s.size) = True := eq_true (by omega)
  have p3 : (1 ≤ (s.size : Int)) = True := eq_true (by omega)
  have Q0 := Aid.hide (And.intro hq0 (And.intro hext (And.intro hL hsz)))
  obtain ⟨d, hd⟩ : ∃ d : Int, d = (c.toNat : Int) := ⟨_, rfl⟩
  rw [← hd] at hix
  have D := Aid.hide hd
  have hd0 : 0 ≤ d ∧ d ≤ 255 := by omega
  clear hq0 hL c1 hb0 hu hd hsz
  go_enter_defers Try.func33, Try.ntmps33
  go_upto_region 4 with (fail)
  have hS : RSt w w.heap.size (w.heap.size + 1 + 1) (w.heap.size + 1) ⟨d, 0, 0, 0, [], ⟨0, 0, 0⟩, false, []⟩ (.slice none 0 0) (.slice none 0 0) (mk l) (((w.alloc (.cells #[.int .u8 d, .int .i64 0, .int .i64 0, .int .i64 0, .slice none 0 0, .int .i64 0, .int .i64 0, .int .i64 0, .bool false, .slice none 0 0] 37)).alloc (.cells #[.bool false] 4)).alloc (.cells #[.string (mk l)] 89)) :=
    ⟨blk_alloc (blk_alloc (blk_new rfl)), blk_new (by simp), blk_alloc (blk_new (by simp)), Kd.R_nil _ _ _ _ _, Kd.R_nil _ _ _ _ _, below_alloc (below_alloc (below_alloc (Below.refl _ _) _) _) _, Nat.le_refl _, by omega, by omega⟩
  generalize ((w.alloc (.cells #[.int .u8 d, .int .i64 0, .int .i64 0, .int .i64 0, .slice none 0 0, .int .i64 0, .int .i64 0, .int .i64 0, .bool false, .slice none 0 0] 37)).alloc (.cells #[.bool false] 4)).alloc (.cells #[.string (mk l)] 89) = wx at *
  generalize w.heap.size + 1 + 1 = r at *
  generalize w.heap.size + 1 = i at *
  generalize w.heap.size = g at hS ⊢
  have k0 := hS.hA.ten.k0
  simp only at k0
  have C := Aid.hide (parts35 g 88 r d wx hd0 k0)
  obtain ⟨pl, hpl⟩ : ∃ pl, pl = partsL d := ⟨_, rfl⟩
  have PL := Aid.hide hpl
  have hzl : l.length ≤ 1000000 := by have := L_len s; rw [(Aid.unhide Q0).2.2.1] at this; simp at this; omega
  clear hpl
  go_wp2_with (go_at_call 35; refine (Aid.unhide C).mono ?_; rintro e1 w2 ⟨v, rfl, hP, hb⟩; rw [← Aid.unhide PL] at hP; obtain ⟨A, rfl, _⟩ := hP.get)
  clear C k0
  have hlen : pl.length ≤ 3 := by rw [Aid.unhide PL]; exact partsL_len _
  go_loopw [21] (fun ii wr => ∃ (k : Nat) (a : S37) (v4 v9 : Value) (t : Bytes), ii = .int .i64 (k : Int) ∧ k ≤ pl.length ∧ Hid (q0 = rdParts (pl.drop k) a t) ∧ t.length ≤ 1000000 ∧ Hid (Sm a) ∧ RSt w g r i a v4 v9 (mk t) wr ∧ PartsAt wr g 88 r (.slice A pl.length pl.length) pl) (fun ii _ => pl.length - (intOf ii).toNat)
  case atStart => exact ⟨0, _, _, _, l, rfl, by omega, by show _ = _; rw [List.drop_zero, (Aid.unhide Q0).1, Aid.unhide PL, Aid.unhide D], hzl, ⟨by simp, by simp, by simp, by simp⟩, hS.below hb, hP⟩
  case round =>
    clear hS hP hb
    obtain ⟨k, a, v4, v9, t, rfl, hk, hq, hzt, hsm, hS, hP⟩ := hrel
    by_cases hlt : k < pl.length
    · obtain ⟨A', hA', hget⟩ := hP.get
      injection hA' with hA'
      subst hA'
      obtain ⟨b, hAb, hcell⟩ := hget k hlt
      subst hAb
      have hF := partsL_mem (d := d) (F := pl[k]) (by rw [← Aid.unhide PL]; exact List.getElem_mem hlt)
      have hC := rparts h52 pl[k] hF w g r i a v4 v9 (mk t) wr (by rw [size_mk]; omega) hS
      rw [L_mk] at hC
      have hq2 := hq.out
      rw [List.drop_eq_getElem_cons hlt, rdParts] at hq2
      generalize pl[k] = F at *
      cases hr : rdF F a t with
      | none =>
        rw [hr] at hC hq2
        rw [Option.bind_none] at hq2
        have C := Aid.hide (And.intro hC hq2)
        clear hC hq2 hget hS hP hq hsm hr
        obtain rfl | rfl | rfl | rfl | rfl | rfl | rfl := hF
        · go_wp2_with (go_at_call 46; refine (Aid.unhide C).1.mono ?_; rintro e1 w2 ⟨rfl, hD⟩)
          refine leaves_cons (f := 42) (args := #[.pointer (some ⟨g, 0, none⟩), .pointer (some ⟨i, 0, none⟩)]) (by simp) (by simp [go_sem]) ?_
          refine (catch42 w g i [] w2 hD).mono ?_
          rintro e u' w'' ⟨rfl, rfl, hA, hI, hB⟩
          obtain ⟨k0, k1, k2, k3, k4, k5, k6, k7, k8, k9⟩ := hA.ten
          have i0 : w''.cell? ⟨i, 0, none⟩ = some (.bool false) := (blk_cell hI 0).trans rfl
          simp [Leaves, settle, results, Try.results33, go_sem, k0, k1, k2, k3, k4, k5, k6, k7, k8, k9, i0, act0]
          rw [(Aid.unhide C).2]
          exact ⟨rfl, hB⟩
        · go_wp2_with (go_at_call 47; refine (Aid.unhide C).1.mono ?_; rintro e1 w2 ⟨rfl, hD⟩)
          refine leaves_cons (f := 42) (args := #[.pointer (some ⟨g, 0, none⟩), .pointer (some ⟨i, 0, none⟩)]) (by simp) (by simp [go_sem]) ?_
          refine (catch42 w g i [] w2 hD).mono ?_
          rintro e u' w'' ⟨rfl, rfl, hA, hI, hB⟩
          obtain ⟨k0, k1, k2, k3, k4, k5, k6, k7, k8, k9⟩ := hA.ten
          have i0 : w''.cell? ⟨i, 0, none⟩ = some (.bool false) := (blk_cell hI 0).trans rfl
          simp [Leaves, settle, results, Try.results33, go_sem, k0, k1, k2, k3, k4, k5, k6, k7, k8, k9, i0, act0]
          rw [(Aid.unhide C).2]
          exact ⟨rfl, hB⟩
        · go_wp2_with (go_at_call 48; refine (Aid.unhide C).1.mono ?_; rintro e1 w2 ⟨rfl, hD⟩)
          refine leaves_cons (f := 42) (args := #[.pointer (some ⟨g, 0, none⟩), .pointer (some ⟨i, 0, none⟩)]) (by simp) (by simp [go_sem]) ?_
          refine (catch42 w g i [] w2 hD).mono ?_
          rintro e u' w'' ⟨rfl, rfl, hA, hI, hB⟩
          obtain ⟨k0, k1, k2, k3, k4, k5, k6, k7, k8, k9⟩ := hA.ten
          have i0 : w''.cell? ⟨i, 0, none⟩ = some (.bool false) := (blk_cell hI 0).trans rfl
          simp [Leaves, settle, results, Try.results33, go_sem, k0, k1, k2, k3, k4, k5, k6, k7, k8, k9, i0, act0]
          rw [(Aid.unhide C).2]
          exact ⟨rfl, hB⟩
        · go_wp2_with (go_at_call 49; refine (Aid.unhide C).1.mono ?_; rintro e1 w2 ⟨rfl, hD⟩)
          refine leaves_cons (f := 42) (args := #[.pointer (some ⟨g, 0, none⟩), .pointer (some ⟨i, 0, none⟩)]) (by simp) (by simp [go_sem]) ?_
          refine (catch42 w g i [] w2 hD).mono ?_
          rintro e u' w'' ⟨rfl, rfl, hA, hI, hB⟩
          obtain ⟨k0, k1, k2, k3, k4, k5, k6, k7, k8, k9⟩ := hA.ten
          have i0 : w''.cell? ⟨i, 0, none⟩ = some (.bool false) := (blk_cell hI 0).trans rfl
          simp [Leaves, settle, results, Try.results33, go_sem, k0, k1, k2, k3, k4, k5, k6, k7, k8, k9, i0, act0]
          rw [(Aid.unhide C).2]
          exact ⟨rfl, hB⟩
        · go_wp2_with (go_at_call 50; refine (Aid.unhide C).1.mono ?_; rintro e1 w2 ⟨rfl, hD⟩)
          refine leaves_cons (f := 42) (args := #[.pointer (some ⟨g, 0, none⟩), .pointer (some ⟨i, 0, none⟩)]) (by simp) (by simp [go_sem]) ?_
          refine (catch42 w g i [] w2 hD).mono ?_
          rintro e u' w'' ⟨rfl, rfl, hA, hI, hB⟩
          obtain ⟨k0, k1, k2, k3, k4, k5, k6, k7, k8, k9⟩ := hA.ten
          have i0 : w''.cell? ⟨i, 0, none⟩ = some (.bool false) := (blk_cell hI 0).trans rfl
          simp [Leaves, settle, results, Try.results33, go_sem, k0, k1, k2, k3, k4, k5, k6, k7, k8, k9, i0, act0]
          rw [(Aid.unhide C).2]
          exact ⟨rfl, hB⟩
        · go_wp2_with (go_at_call 51; refine (Aid.unhide C).1.mono ?_; rintro e1 w2 ⟨rfl, hD⟩)
          refine leaves_cons (f := 42) (args := #[.pointer (some ⟨g, 0, none⟩), .pointer (some ⟨i, 0, none⟩)]) (by simp) (by simp [go_sem]) ?_
          refine (catch42 w g i [] w2 hD).mono ?_
          rintro e u' w'' ⟨rfl, rfl, hA, hI, hB⟩
          obtain ⟨k0, k1, k2, k3, k4, k5, k6, k7, k8, k9⟩ := hA.ten
          have i0 : w''.cell? ⟨i, 0, none⟩ = some (.bool false) := (blk_cell hI 0).trans rfl
          simp [Leaves, settle, results, Try.results33, go_sem, k0, k1, k2, k3, k4, k5, k6, k7, k8, k9, i0, act0]
          rw [(Aid.unhide C).2]
          exact ⟨rfl, hB⟩
        · go_wp2_with (go_at_call 52; refine (Aid.unhide C).1.mono ?_; rintro e1 w2 ⟨rfl, hD⟩)
          refine leaves_cons (f := 42) (args := #[.pointer (some ⟨g, 0, none⟩), .pointer (some ⟨i, 0, none⟩)]) (by simp) (by simp [go_sem]) ?_
          refine (catch42 w g i [] w2 hD).mono ?_
          rintro e u' w'' ⟨rfl, rfl, hA, hI, hB⟩
          obtain ⟨k0, k1, k2, k3, k4, k5, k6, k7, k8, k9⟩ := hA.ten
          have i0 : w''.cell? ⟨i, 0, none⟩ = some (.bool false) := (blk_cell hI 0).trans rfl
          simp [Leaves, settle, results, Try.results33, go_sem, k0, k1, k2, k3, k4, k5, k6, k7, k8, k9, i0, act0]
          rw [(Aid.unhide C).2]
          exact ⟨rfl, hB⟩
      | some z =>
        obtain ⟨a', t'⟩ := z
        rw [hr] at hC hq2
        rw [Option.bind_some] at hq2
        obtain ⟨s1, s2, _⟩ := rdF_small hsm.out hr
        have C := Aid.hide (And.intro hC hq2)
        clear hC hq2 hget hq hsm hr
        obtain rfl | rfl | rfl | rfl | rfl | rfl | rfl := hF
        · go_wp2_with (go_at_call 46; refine (Aid.unhide C).1.mono ?_; rintro e1 w2 ⟨rfl, ⟨u4, u9, hS2⟩, hK2⟩)
          go_roundw
          case rel => exact ⟨k + 1, a', u4, u9, t', by go_num, by omega, (Aid.unhide C).2, by omega, s1, hS2, hP.keep hS.hA hS.hR hK2⟩
          case measure => simp [intOf]; omega
        · go_wp2_with (go_at_call 47; refine (Aid.unhide C).1.mono ?_; rintro e1 w2 ⟨rfl, ⟨u4, u9, hS2⟩, hK2⟩)
          go_roundw
          case rel => exact ⟨k + 1, a', u4, u9, t', by go_num, by omega, (Aid.unhide C).2, by omega, s1, hS2, hP.keep hS.hA hS.hR hK2⟩
          case measure => simp [intOf]; omega
        · go_wp2_with (go_at_call 48; refine (Aid.unhide C).1.mono ?_; rintro e1 w2 ⟨rfl, ⟨u4, u9, hS2⟩, hK2⟩)
          go_roundw
          case rel => exact ⟨k + 1, a', u4, u9, t', by go_num, by omega, (Aid.unhide C).2, by omega, s1, hS2, hP.keep hS.hA hS.hR hK2⟩
          case measure => simp [intOf]; omega
        · go_wp2_with (go_at_call 49; refine (Aid.unhide C).1.mono ?_; rintro e1 w2 ⟨rfl, ⟨u4, u9, hS2⟩, hK2⟩)
          go_roundw
          case rel => exact ⟨k + 1, a', u4, u9, t', by go_num, by omega, (Aid.unhide C).2, by omega, s1, hS2, hP.keep hS.hA hS.hR hK2⟩
          case measure => simp [intOf]; omega
        · go_wp2_with (go_at_call 50; refine (Aid.unhide C).1.mono ?_; rintro e1 w2 ⟨rfl, ⟨u4, u9, hS2⟩, hK2⟩)
          go_roundw
          case rel => exact ⟨k + 1, a', u4, u9, t', by go_num, by omega, (Aid.unhide C).2, by omega, s1, hS2, hP.keep hS.hA hS.hR hK2⟩
          case measure => simp [intOf]; omega
        · go_wp2_with (go_at_call 51; refine (Aid.unhide C).1.mono ?_; rintro e1 w2 ⟨rfl, ⟨u4, u9, hS2⟩, hK2⟩)
          go_roundw
          case rel => exact ⟨k + 1, a', u4, u9, t', by go_num, by omega, (Aid.unhide C).2, by omega, s1, hS2, hP.keep hS.hA hS.hR hK2⟩
          case measure => simp [intOf]; omega
        · go_wp2_with (go_at_call 52; refine (Aid.unhide C).1.mono ?_; rintro e1 w2 ⟨rfl, ⟨u4, u9, hS2⟩, hK2⟩)
          go_roundw
          case rel => exact ⟨k + 1, a', u4, u9, t', by go_num, by omega, (Aid.unhide C).2, by omega, s1, hS2, hP.keep hS.hA hS.hR hK2⟩
          case measure => simp [intOf]; omega
    · obtain rfl : k = pl.length := by omega
      have hq2 := hq.out
      rw [List.drop_length, rdParts] at hq2
      obtain ⟨z4, z7, y4, y7⟩ := hsm.out
      obtain ⟨A4, c4, rfl, l4, g4⟩ := Kd.R_reads hS.hG
      obtain ⟨A9, c9, rfl, l9, g9⟩ := Kd.R_reads hS.hS
      have hC := fun W (hW : Below wr.heap.size wr W) => check13 a A4 c4 A9 c9 W (Kd.C_below g4 hW) (Kd.C_below g9 hW) (by omega) (by omega) (fun y hy => by have := y4 y hy; omega) (fun y hy => by have := y7 y hy; omega)
      obtain ⟨mb, hmb⟩ : ∃ mb, mb = mayAct a := ⟨_, rfl⟩
      rw [← hmb] at hC
      have hme : ((errC mb : Int) == 0) = mb := by cases mb <;> rfl
      obtain ⟨ec, hec⟩ : ∃ ec, ec = errC mb := ⟨_, rfl⟩
      rw [← hec] at hC hme
      obtain ⟨k0, k1, k2, k3, k4, k5, k6, k7, k8, k9⟩ := hS.hA.ten
      have r0 := hS.hR.cell
      have i0 : wr.cell? ⟨i, 0, none⟩ = some (.bool false) := (blk_cell hS.hI 0).trans rfl
      have iz : wr.frozen? ⟨i, 0, none⟩ = false := by have h := hS.hI; simp [World.frozen?, h]
      have fz := hS.hA.frz
      have hlg := hS.hA.lt
      have hlr := hS.hR.lt
      have hli : i < wr.heap.size := blk_lt hS.hI
      have H := Aid.hide (And.intro hC (And.intro hq2 (And.intro hmb (And.intro hec (And.intro hS (And.intro g4 g9))))))
      have HE := Aid.hide (⟨hS.hA, hS.hR, hS.hI, hS.hG, hS.hS, hS.hB, hS.li⟩ : EndS w g r i a (.slice A4 a.f4.length c4) (.slice A9 a.f7.length c9) (mk t) false wr)
      clear hC hq2 hmb hec hS g4 g9 hP hq hsm z4 z7 y4 y7 l4 l9 hlt k0 k1 k2 k3 k4 k5 k6 k7 k8 k9 r0 i0 iz fz
      go_upto_region 9 with (fail)
      go_cut [3] from 8 to 35 (fun x wx => x = .string (mk t) ∧ ActV wx g a (.slice A4 a.f4.length c4) (.slice A9 a.f7.length c9) ∧ wx.heap[i]? = some (.cells #[.bool mb] 4 (0, 0)) ∧ k48.R 48 wx w.heap.size (fun _ => True) (.slice A4 a.f4.length c4) a.f4 ∧ k51.R 51 wx w.heap.size (fun _ => True) (.slice A9 a.f7.length c9) a.f7 ∧ Below w.heap.size w wx)
      case first =>
        go_region_held3 (fun w' => (∃ b, EndS w g r i a (.slice A4 a.f4.length c4) (.slice A9 a.f7.length c9) (mk t) b w') ∧ w'.cell? ⟨g, 0, none⟩ = some (.int .u8 a.f0) ∧ w'.cell? ⟨g, 1, none⟩ = some (.int .i64 a.f1) ∧ w'.cell? ⟨g, 2, none⟩ = some (.int .i64 a.f2) ∧ w'.cell? ⟨g, 3, none⟩ = some (.int .i64 a.f3) ∧ w'.cell? ⟨g, 4, none⟩ = some (.slice A4 a.f4.length c4) ∧ w'.cell? ⟨g, 5, none⟩ = some (.int .i64 a.f5.f0) ∧ w'.cell? ⟨g, 6, none⟩ = some (.int .i64 a.f5.f1) ∧ w'.cell? ⟨g, 7, none⟩ = some (.int .i64 a.f5.f2) ∧ w'.cell? ⟨g, 8, none⟩ = some (.bool a.f6) ∧ w'.cell? ⟨g, 9, none⟩ = some (.slice A9 a.f7.length c9) ∧ w'.cell? ⟨r, 0, none⟩ = some (.string (mk t)) ∧ w'.cell? ⟨i, 0, none⟩ = some (isv i w') ∧ w'.frozen? ⟨i, 0, none⟩ = false ∧ (∀ o, w'.frozen? ⟨g, o, none⟩ = false))
          ((refine EndS.all ?_; first | (with_reducible exact ⟨mb, EndS.put (EndS.same (EndS.below (W := wr) (Aid.unhide HE) (by (repeat first | exact Below.refl _ _ | apply below_drew | apply below_alloc | refine below_bt ?_ (by assumption))))) mb⟩) | (with_reducible exact ⟨false, EndS.same (EndS.below (W := wr) (Aid.unhide HE) (by (repeat first | exact Below.refl _ _ | apply below_drew | apply below_alloc | refine below_bt ?_ (by assumption))))⟩) | (with_reducible exact ⟨mb, EndS.put (EndS.below (W := wr) (Aid.unhide HE) (by (repeat first | exact Below.refl _ _ | apply below_drew | apply below_alloc | refine below_bt ?_ (by assumption)))) mb⟩) | (with_reducible exact ⟨false, (EndS.below (W := wr) (Aid.unhide HE) (by (repeat first | exact Below.refl _ _ | apply below_drew | apply below_alloc | refine below_bt ?_ (by assumption))))⟩) | trace_state))
          (first | (go_at_call 13; refine ((Aid.unhide H).1 _ (by (repeat first | exact Below.refl _ _ | apply below_drew | apply below_alloc))).mono ?_; rintro e1 w2 ⟨rfl, hb2⟩))
        all_goals
          have hE : EndS w g r i a (.slice A4 a.f4.length c4) (.slice A9 a.f7.length c9) (mk t) false w2 := EndS.below (W := wr) (Aid.unhide HE) (by (repeat first | exact Below.refl _ _ | apply below_drew | apply below_alloc | refine below_bt ?_ (by assumption)))
          have hE2 := EndS.put (EndS.same hE) mb
          clear hE
          go_wp2_with (fail)
          go_meet
          exact ⟨rfl, hE2.hA, hE2.hI, hE2.hG, hE2.hS, hE2.hB⟩
      case rest =>
        obtain ⟨rfl, hA, hI, hG, hT, hB⟩ := hcut
        go_wp2_with (fail)
        refine leaves_cons (f := 42) (args := #[.pointer (some ⟨g, 0, none⟩), .pointer (some ⟨i, 0, none⟩)]) (by simp) (by simp [go_sem]) ?_
        refine (idle42 ⟨g, 0, none⟩ ⟨i, 0, none⟩ _).mono ?_
        rintro e u' w'' ⟨rfl, rfl, rfl⟩
        obtain ⟨k0, k1, k2, k3, k4, k5, k6, k7, k8, k9⟩ := hA.ten
        have i0 := (blk_cell hI 0).trans rfl
        simp [Leaves, settle, results, Try.results33, go_sem, k0, k1, k2, k3, k4, k5, k6, k7, k8, k9, i0]
        rw [(Aid.unhide H).2.1, (Aid.unhide H).2.2.1]
        exact ⟨_, _, rfl, hG, hT, hB⟩
end Go.Proofs.Ytppgbahiolhgbaa
