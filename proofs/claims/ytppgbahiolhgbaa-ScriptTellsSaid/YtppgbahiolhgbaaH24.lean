/- Contracts and plain laws over the seat, laid together (group 24 of what the claim needs). -/
import Derived.Test.YtppgbahiolhgbaaH16
import Derived.Test.YtppgbahiolhgbaaH20
import Derived.Test.YtppgbahiolhgbaaH21
import Derived.Test.YtppgbahiolhgbaaH23
namespace Go.Proofs.Ytppgbahiolhgbaa.PScriptReads
open Go.RowKit Go.Proofs.YtppgbahiolhgbaaW.PrintWords Go.Proofs.YtppgbahiolhgbaaW.PrintLast Go.Proofs.YtppgbahiolhgbaaW.PrintMore
set_option linter.unusedVariables false
set_option linter.unusedSimpArgs false
def script_org.f (a0 : Int) : Option (Bool) := if a0 ≥ 0 then (some (decide (a0 < 8))) else (some false)
set_option maxHeartbeats 8000000 in
set_option maxRecDepth 100000 in
theorem script_org.calls (a0 : Int) (r : Bool) (w : World) (h : script_org.f a0 = some r) :
  Calls Try.prog 23 #[.int .i64 a0] w fun e w' => e = .returned (.bool r) ∧ Drawn0 w w' := by
 have H : (if a0 ≥ 0 then (some (decide (a0 < 8))) else (some false)) = some r := h
 clear h
 by_cases c2 : a0 ≥ 0
 ·
  rw [if_pos c2] at H
  have c2b0 : decide (0 ≤ a0) = true := decide_eq_true c2
  clear c2
  obtain rfl := Option.some.inj H
  go_enter Try.func23, Try.ntmps23
  go_wp2
  go_ret
  exact ⟨by first | rfl | (simp; done) | (simp [*]; done), by repeat (first | exact Drawn0.refl _ | apply Drawn0.step)⟩
 ·
  rw [if_neg c2] at H
  have c2b0 : decide (0 ≤ a0) = false := decide_eq_false c2
  clear c2
  obtain rfl := Option.some.inj H
  go_enter Try.func23, Try.ntmps23
  go_wp2
  go_ret
  exact ⟨by first | rfl | (simp; done) | (simp [*]; done), by repeat (first | exact Drawn0.refl _ | apply Drawn0.step)⟩
def script_num.l0 : Nat → List Int → Int → Int → Option (Bool)
 | 0, _, _, _ => none
 | k + 1, x5, x6, x7 => if x7 < x6 then (if 0 ≤ x7 then (if x7 < (x5.length : Int) then (if (rd x5 x7) < 0 then (some false) else (if (rd x5 x7) > 2147483647 then (some false) else (script_num.l0 k x5 x6 (wrap64 (x7 + 1))))) else (none)) else (none)) else (some true)
def script_num.f (k : Nat) (l0 : List Int) : Option (Bool) := script_num.l0 k l0 (l0.length : Int) 0
theorem script_num.mono_l : ∀ k, (∀ y0 y1 y2, LeO (script_num.l0 k y0 y1 y2) (script_num.l0 (k + 1) y0 y1 y2))
 | 0 => fun _ _ _ r h => by simp [script_num.l0] at h
 | k + 1 => by
  have ih0 := script_num.mono_l k
  ·
   intro y0 y1 y2
   unfold script_num.l0
   repeat' first
   | (with_reducible exact ih0 _ _ _)
   | (with_reducible exact LeO.refl _)
   | (with_reducible exact LeO.none _)
   | (with_reducible refine LeO.ite ?_ ?_)
   | (with_reducible refine LeO.bind ?_ (fun _ => ?_))
   | exact ih0 _ _ _
   | exact LeO.none _
   | refine LeO.ite ?_ ?_
   | refine LeO.bind ?_ (fun _ => ?_)
theorem script_num.mono : ∀ a0 k, LeO (script_num.f k a0) (script_num.f (k + 1) a0) := by
 intro a0 k
 have ih0 := script_num.mono_l k
 unfold script_num.f
 repeat' first
   | (with_reducible exact ih0 _ _ _)
   | (with_reducible exact LeO.refl _)
   | (with_reducible exact LeO.none _)
   | (with_reducible refine LeO.ite ?_ ?_)
   | (with_reducible refine LeO.bind ?_ (fun _ => ?_))
   | exact ih0 _ _ _
   | exact LeO.none _
   | refine LeO.ite ?_ ?_
   | refine LeO.bind ?_ (fun _ => ?_)
set_option maxHeartbeats 8000000 in
set_option maxRecDepth 100000 in
theorem script_num.calls (k : Nat) (A0 : Option Addr) (c0 : Nat) (l0 : List Int) (r : Bool) (w : World) (hr0 : Kd.C (Kd.int .i64) w A0 l0.length l0) (hc0 : l0.length ≤ c0) (h : script_num.f k l0 = some r) :
  Calls Try.prog 24 #[.slice A0 l0.length c0] w fun e w' => e = .returned (.bool r) ∧ Drawn0 w w' := by
 have HR0 := Aside0.mk hr0
 have HC0 := Aside0.mk hc0
 clear hr0 hc0
 have H : (script_num.l0 k l0 (l0.length : Int) 0) = some r := h
 clear h
 have H' := Aside0.mk H
 clear H
 go_enter Try.func24, Try.ntmps24
 go_wp2
 go_loopg [7] k (fun kq v7 w' => ∃ (x7_1 : Int), v7 = .int .i64 x7_1 ∧ Aside0 (script_num.l0 kq l0 (l0.length : Int) x7_1 = some r) ∧ Aside0 (kq ≤ k) ∧ Drawn0 w w')
 case atStart => exact ⟨(0), (by first | rfl | (simp; done) | (simp [*]; done)), H', ⟨Nat.le_refl _⟩, by repeat (first | exact Drawn0.refl _ | apply Drawn0.step)⟩
 case round =>
  clear H'
  obtain ⟨x7_1, rfl, HA, HK1, ⟨m1, rfl⟩⟩ := hrel
  cases gk with
  | zero => exact absurd HA.out (by simp [script_num.l0])
  | succ k1 =>
   have H := HA.out
   clear HA
   simp only [script_num.l0] at H
   by_cases c2 : x7_1 < (l0.length : Int)
   ·
    rw [if_pos c2] at H
    have c2b0 : decide (x7_1 < (l0.length : Int)) = true := decide_eq_true c2
    clear c2
    by_cases c3 : 0 ≤ x7_1
    ·
     rw [if_pos c3] at H
     have c3b0 : decide (0 ≤ x7_1) = true := decide_eq_true c3
     clear c3
     by_cases c4 : x7_1 < (l0.length : Int)
     ·
      rw [if_pos c4] at H
      have c4b0 : decide (x7_1 < (l0.length : Int)) = true := decide_eq_true c4
      clear c4
      by_cases c5 : (rd l0 x7_1) < 0
      ·
       rw [if_pos c5] at H
       have c5b0 : decide ((rd l0 x7_1) < 0) = true := decide_eq_true c5
       clear c5
       obtain rfl := Option.some.inj H
       have p102 : 0 ≤ (x7_1 : Int) := of_decide_eq_true (by first | (with_reducible assumption) | assumption)
       have q102 : x7_1 < (l0.length : Int) := of_decide_eq_true (by first | (with_reducible assumption) | assumption)
       obtain ⟨ad102, e102, hx102_0⟩ := Kd.at_int HR0.out x7_1 p102 q102
       cases e102
       replace p102 := eq_true p102
       replace q102 := eq_true q102
       go_wp2
       go_ret
       exact ⟨by first | rfl | (simp; done) | (simp [*]; done), by repeat (first | exact Drawn0.refl _ | apply Drawn0.step)⟩
      ·
       rw [if_neg c5] at H
       have c5b0 : decide ((rd l0 x7_1) < 0) = false := decide_eq_false c5
       clear c5
       by_cases c6 : (rd l0 x7_1) > 2147483647
       ·
        rw [if_pos c6] at H
        have c6b0 : decide (2147483647 < (rd l0 x7_1)) = true := decide_eq_true c6
        clear c6
        obtain rfl := Option.some.inj H
        have p102 : 0 ≤ (x7_1 : Int) := of_decide_eq_true (by first | (with_reducible assumption) | assumption)
        have q102 : x7_1 < (l0.length : Int) := of_decide_eq_true (by first | (with_reducible assumption) | assumption)
        obtain ⟨ad102, e102, hx102_0⟩ := Kd.at_int HR0.out x7_1 p102 q102
        cases e102
        replace p102 := eq_true p102
        replace q102 := eq_true q102
        go_wp2
        go_ret
        exact ⟨by first | rfl | (simp; done) | (simp [*]; done), by repeat (first | exact Drawn0.refl _ | apply Drawn0.step)⟩
       ·
        rw [if_neg c6] at H
        have c6b0 : decide (2147483647 < (rd l0 x7_1)) = false := decide_eq_false c6
        clear c6
        have H' := Aside0.mk H
        clear H
        have p102 : 0 ≤ (x7_1 : Int) := of_decide_eq_true (by first | (with_reducible assumption) | assumption)
        have q102 : x7_1 < (l0.length : Int) := of_decide_eq_true (by first | (with_reducible assumption) | assumption)
        obtain ⟨ad102, e102, hx102_0⟩ := Kd.at_int HR0.out x7_1 p102 q102
        cases e102
        replace p102 := eq_true p102
        replace q102 := eq_true q102
        go_wp2
        go_roundg k1
        case measure => have := HK1.out; omega
        case rel => exact ⟨(wrap64 (x7_1 + 1)), (by first | rfl | (simp; done) | (simp [*]; done)), H', ⟨by have := HK1.out; omega⟩, by repeat (first | exact Drawn0.refl _ | apply Drawn0.step)⟩
     ·
      rw [if_neg c4] at H
      exact absurd H (by simp)
    ·
     rw [if_neg c3] at H
     exact absurd H (by simp)
   ·
    rw [if_neg c2] at H
    have c2b0 : decide (x7_1 < (l0.length : Int)) = false := decide_eq_false c2
    clear c2
    obtain rfl := Option.some.inj H
    go_wp2
    go_ret
    exact ⟨by first | rfl | (simp; done) | (simp [*]; done), by repeat (first | exact Drawn0.refl _ | apply Drawn0.step)⟩
def wire_org.f (a0 : Int) : Option (Bool) := if a0 ≥ 0 then (some (decide (a0 < 8))) else (some false)
set_option maxHeartbeats 8000000 in
set_option maxRecDepth 100000 in
theorem wire_org.calls (a0 : Int) (r : Bool) (w : World) (h : wire_org.f a0 = some r) :
  Calls Try.prog 39 #[.int .i64 a0] w fun e w' => e = .returned (.bool r) ∧ Drawn0 w w' := by
 have H : (if a0 ≥ 0 then (some (decide (a0 < 8))) else (some false)) = some r := h
 clear h
 by_cases c2 : a0 ≥ 0
 ·
  rw [if_pos c2] at H
  have c2b0 : decide (0 ≤ a0) = true := decide_eq_true c2
  clear c2
  obtain rfl := Option.some.inj H
  go_enter Try.func39, Try.ntmps39
  go_wp2
  go_ret
  exact ⟨by first | rfl | (simp; done) | (simp [*]; done), by repeat (first | exact Drawn0.refl _ | apply Drawn0.step)⟩
 ·
  rw [if_neg c2] at H
  have c2b0 : decide (0 ≤ a0) = false := decide_eq_false c2
  clear c2
  obtain rfl := Option.some.inj H
  go_enter Try.func39, Try.ntmps39
  go_wp2
  go_ret
  exact ⟨by first | rfl | (simp; done) | (simp [*]; done), by repeat (first | exact Drawn0.refl _ | apply Drawn0.step)⟩
def wire_MayTxn.f (a0_0 : Int) (a0_1 : Int) (a0_2 : Int) : Option (Bool) := (wire_org.f a0_0).bind fun t104 => (if t104 = true then (if a0_1 ≥ 1 then (if a0_1 ≤ 255 then (if a0_2 ≥ 1 then (some (decide (a0_2 ≤ 65535))) else (some false)) else (some false)) else (some false)) else (some false))
set_option maxHeartbeats 8000000 in
set_option maxRecDepth 100000 in
theorem wire_MayTxn.calls (a0_0 : Int) (a0_1 : Int) (a0_2 : Int) (r : Bool) (w : World) (h : wire_MayTxn.f a0_0 a0_1 a0_2 = some r) :
  Calls Try.prog 25 #[.agg #[.int .i64 a0_0, .int .i64 a0_1, .int .i64 a0_2]] w fun e w' => e = .returned (.bool r) ∧ Below w.heap.size w w' := by
 have hu34 := Try.underlying34
 have HB := Aside0.mk (Below.refl w.heap.size w)
 have H : ((wire_org.f a0_0).bind fun t104 => (if t104 = true then (if a0_1 ≥ 1 then (if a0_1 ≤ 255 then (if a0_2 ≥ 1 then (some (decide (a0_2 ≤ 65535))) else (some false)) else (some false)) else (some false)) else (some false))) = some r := h
 clear h
 replace H := Option.bind_eq_some_iff.mp H
 obtain ⟨t104, A20, H⟩ := H
 replace H : (if t104 = true then (if a0_1 ≥ 1 then (if a0_1 ≤ 255 then (if a0_2 ≥ 1 then (some (decide (a0_2 ≤ 65535))) else (some false)) else (some false)) else (some false)) else (some false)) = some r := H
 have A2 := Aside0.mk A20
 clear A20
 by_cases c3 : t104 = true
 ·
  subst c3
  have H1 : (if a0_1 ≥ 1 then (if a0_1 ≤ 255 then (if a0_2 ≥ 1 then (some (decide (a0_2 ≤ 65535))) else (some false)) else (some false)) else (some false)) = some r := by rw [if_pos rfl] at H; exact H
  clear H
  have H := H1
  clear H1
  by_cases c4 : a0_1 ≥ 1
  ·
   rw [if_pos c4] at H
   have c4b0 : decide (1 ≤ a0_1) = true := decide_eq_true c4
   clear c4
   by_cases c5 : a0_1 ≤ 255
   ·
    rw [if_pos c5] at H
    have c5b0 : decide (a0_1 ≤ 255) = true := decide_eq_true c5
    clear c5
    by_cases c6 : a0_2 ≥ 1
    ·
     rw [if_pos c6] at H
     have c6b0 : decide (1 ≤ a0_2) = true := decide_eq_true c6
     clear c6
     obtain rfl := Option.some.inj H
     go_enter Try.func25, Try.ntmps25
     go_wp2_with (first | ((with_reducible refine gate_dst (N := 1) rfl ?_); refine box_event ?hg (N := 1) ?hd (cs := #[.int .i64 a0_0, .int .i64 a0_1, .int .i64 a0_2]) (t := 34) ?hr ?_; (case hd => rfl); (case hg => rfl); (case hr => first | (go_simp; done) | (go_simp; rfl)); intro gb103 hg w7 hbox hb; have n0_ := Aside0.mk (below_step (by repeat (first | (with_reducible first | exact HB.out | apply below_alloc | apply pw_below_drewN | apply below_drew1) | exact HB.out)) hb); have n1_ := Aside0.mk (hbox); have n2_ := Aside0.mk ((by rw [hg]; exact (below_size (by repeat (first | (with_reducible first | exact HB.out | apply below_alloc | apply pw_below_drewN | apply below_drew1) | exact HB.out))) : w.heap.size ≤ gb103)); have n3_ := Aside0.mk ((by rw [hg]; exact (below_size (by repeat (first | (with_reducible first | exact HB.out | apply below_alloc | apply pw_below_drewN | apply below_drew1) | exact HB.out))) : w.heap.size ≤ gb103)); clear HB; have HB := n0_; have BK103 := n1_; have GW103 := n2_; have GE103 := n3_; clear n0_ n1_ n2_ n3_; clear hb hbox hg; have hcz8_0 : w7.cell? ⟨gb103, 0, none⟩ = some (.int .i64 a0_0) := (blk_cell BK103.out 0).trans rfl; have hcz8_1 : w7.cell? ⟨gb103, 1, none⟩ = some (.int .i64 a0_1) := (blk_cell BK103.out 1).trans rfl; have hcz8_2 : w7.cell? ⟨gb103, 2, none⟩ = some (.int .i64 a0_2) := (blk_cell BK103.out 2).trans rfl; have hfz8_0 := blk_frozen BK103.out 0; have hfz8_1 := blk_frozen BK103.out 1; have hfz8_2 := blk_frozen BK103.out 2) | ((with_reducible refine gate_callee (f := 39) rfl ?_); refine goesL_ (some 5) rfl rfl Try.func39 (by kernel_rfl) rfl #[.int .i64 a0_0] rfl (by (try simp only [List.map_toArray, List.map_cons, List.map_nil]); first | done | rfl | (simp only [List.length_drop, List.length_take]; rfl)) ?_; (with_reducible refine (wire_org.calls a0_0 true _ A2.out).mono ?_); rintro e w' ⟨rfl, ⟨nd, rfl⟩⟩; refine ⟨_, rfl, ?_⟩))
     go_ret
     exact ⟨by first | rfl | (simp [errW_none, errW_some] <;> rfl) | (simp [*, errW_none, errW_some] <;> rfl), by repeat (first | (with_reducible first | exact HB.out | apply below_alloc | apply pw_below_drewN | apply below_drew1 | refine below_set ?_ GE103.out) | exact HB.out)⟩
    ·
     rw [if_neg c6] at H
     have c6b0 : decide (1 ≤ a0_2) = false := decide_eq_false c6
     clear c6
     obtain rfl := Option.some.inj H
     go_enter Try.func25, Try.ntmps25
     go_wp2_with (first | ((with_reducible refine gate_dst (N := 1) rfl ?_); refine box_event ?hg (N := 1) ?hd (cs := #[.int .i64 a0_0, .int .i64 a0_1, .int .i64 a0_2]) (t := 34) ?hr ?_; (case hd => rfl); (case hg => rfl); (case hr => first | (go_simp; done) | (go_simp; rfl)); intro gb103 hg w9 hbox hb; have n0_ := Aside0.mk (below_step (by repeat (first | (with_reducible first | exact HB.out | apply below_alloc | apply pw_below_drewN | apply below_drew1) | exact HB.out)) hb); have n1_ := Aside0.mk (hbox); have n2_ := Aside0.mk ((by rw [hg]; exact (below_size (by repeat (first | (with_reducible first | exact HB.out | apply below_alloc | apply pw_below_drewN | apply below_drew1) | exact HB.out))) : w.heap.size ≤ gb103)); have n3_ := Aside0.mk ((by rw [hg]; exact (below_size (by repeat (first | (with_reducible first | exact HB.out | apply below_alloc | apply pw_below_drewN | apply below_drew1) | exact HB.out))) : w.heap.size ≤ gb103)); clear HB; have HB := n0_; have BK103 := n1_; have GW103 := n2_; have GE103 := n3_; clear n0_ n1_ n2_ n3_; clear hb hbox hg; have hcz10_0 : w9.cell? ⟨gb103, 0, none⟩ = some (.int .i64 a0_0) := (blk_cell BK103.out 0).trans rfl; have hcz10_1 : w9.cell? ⟨gb103, 1, none⟩ = some (.int .i64 a0_1) := (blk_cell BK103.out 1).trans rfl; have hcz10_2 : w9.cell? ⟨gb103, 2, none⟩ = some (.int .i64 a0_2) := (blk_cell BK103.out 2).trans rfl; have hfz10_0 := blk_frozen BK103.out 0; have hfz10_1 := blk_frozen BK103.out 1; have hfz10_2 := blk_frozen BK103.out 2) | ((with_reducible refine gate_callee (f := 39) rfl ?_); refine goesL_ (some 5) rfl rfl Try.func39 (by kernel_rfl) rfl #[.int .i64 a0_0] rfl (by (try simp only [List.map_toArray, List.map_cons, List.map_nil]); first | done | rfl | (simp only [List.length_drop, List.length_take]; rfl)) ?_; (with_reducible refine (wire_org.calls a0_0 true _ A2.out).mono ?_); rintro e w' ⟨rfl, ⟨nd, rfl⟩⟩; refine ⟨_, rfl, ?_⟩))
     go_ret
     exact ⟨by first | rfl | (simp [errW_none, errW_some] <;> rfl) | (simp [*, errW_none, errW_some] <;> rfl), by repeat (first | (with_reducible first | exact HB.out | apply below_alloc | apply pw_below_drewN | apply below_drew1 | refine below_set ?_ GE103.out) | exact HB.out)⟩
   ·
    rw [if_neg c5] at H
    have c5b0 : decide (a0_1 ≤ 255) = false := decide_eq_false c5
    clear c5
    obtain rfl := Option.some.inj H
    go_enter Try.func25, Try.ntmps25
    go_wp2_with (first | ((with_reducible refine gate_dst (N := 1) rfl ?_); refine box_event ?hg (N := 1) ?hd (cs := #[.int .i64 a0_0, .int .i64 a0_1, .int .i64 a0_2]) (t := 34) ?hr ?_; (case hd => rfl); (case hg => rfl); (case hr => first | (go_simp; done) | (go_simp; rfl)); intro gb103 hg w11 hbox hb; have n0_ := Aside0.mk (below_step (by repeat (first | (with_reducible first | exact HB.out | apply below_alloc | apply pw_below_drewN | apply below_drew1) | exact HB.out)) hb); have n1_ := Aside0.mk (hbox); have n2_ := Aside0.mk ((by rw [hg]; exact (below_size (by repeat (first | (with_reducible first | exact HB.out | apply below_alloc | apply pw_below_drewN | apply below_drew1) | exact HB.out))) : w.heap.size ≤ gb103)); have n3_ := Aside0.mk ((by rw [hg]; exact (below_size (by repeat (first | (with_reducible first | exact HB.out | apply below_alloc | apply pw_below_drewN | apply below_drew1) | exact HB.out))) : w.heap.size ≤ gb103)); clear HB; have HB := n0_; have BK103 := n1_; have GW103 := n2_; have GE103 := n3_; clear n0_ n1_ n2_ n3_; clear hb hbox hg; have hcz12_0 : w11.cell? ⟨gb103, 0, none⟩ = some (.int .i64 a0_0) := (blk_cell BK103.out 0).trans rfl; have hcz12_1 : w11.cell? ⟨gb103, 1, none⟩ = some (.int .i64 a0_1) := (blk_cell BK103.out 1).trans rfl; have hcz12_2 : w11.cell? ⟨gb103, 2, none⟩ = some (.int .i64 a0_2) := (blk_cell BK103.out 2).trans rfl; have hfz12_0 := blk_frozen BK103.out 0; have hfz12_1 := blk_frozen BK103.out 1; have hfz12_2 := blk_frozen BK103.out 2) | ((with_reducible refine gate_callee (f := 39) rfl ?_); refine goesL_ (some 5) rfl rfl Try.func39 (by kernel_rfl) rfl #[.int .i64 a0_0] rfl (by (try simp only [List.map_toArray, List.map_cons, List.map_nil]); first | done | rfl | (simp only [List.length_drop, List.length_take]; rfl)) ?_; (with_reducible refine (wire_org.calls a0_0 true _ A2.out).mono ?_); rintro e w' ⟨rfl, ⟨nd, rfl⟩⟩; refine ⟨_, rfl, ?_⟩))
    go_ret
    exact ⟨by first | rfl | (simp [errW_none, errW_some] <;> rfl) | (simp [*, errW_none, errW_some] <;> rfl), by repeat (first | (with_reducible first | exact HB.out | apply below_alloc | apply pw_below_drewN | apply below_drew1 | refine below_set ?_ GE103.out) | exact HB.out)⟩
  ·
   rw [if_neg c4] at H
   have c4b0 : decide (1 ≤ a0_1) = false := decide_eq_false c4
   clear c4
   obtain rfl := Option.some.inj H
   go_enter Try.func25, Try.ntmps25
   go_wp2_with (first | ((with_reducible refine gate_dst (N := 1) rfl ?_); refine box_event ?hg (N := 1) ?hd (cs := #[.int .i64 a0_0, .int .i64 a0_1, .int .i64 a0_2]) (t := 34) ?hr ?_; (case hd => rfl); (case hg => rfl); (case hr => first | (go_simp; done) | (go_simp; rfl)); intro gb103 hg w13 hbox hb; have n0_ := Aside0.mk (below_step (by repeat (first | (with_reducible first | exact HB.out | apply below_alloc | apply pw_below_drewN | apply below_drew1) | exact HB.out)) hb); have n1_ := Aside0.mk (hbox); have n2_ := Aside0.mk ((by rw [hg]; exact (below_size (by repeat (first | (with_reducible first | exact HB.out | apply below_alloc | apply pw_below_drewN | apply below_drew1) | exact HB.out))) : w.heap.size ≤ gb103)); have n3_ := Aside0.mk ((by rw [hg]; exact (below_size (by repeat (first | (with_reducible first | exact HB.out | apply below_alloc | apply pw_below_drewN | apply below_drew1) | exact HB.out))) : w.heap.size ≤ gb103)); clear HB; have HB := n0_; have BK103 := n1_; have GW103 := n2_; have GE103 := n3_; clear n0_ n1_ n2_ n3_; clear hb hbox hg; have hcz14_0 : w13.cell? ⟨gb103, 0, none⟩ = some (.int .i64 a0_0) := (blk_cell BK103.out 0).trans rfl; have hcz14_1 : w13.cell? ⟨gb103, 1, none⟩ = some (.int .i64 a0_1) := (blk_cell BK103.out 1).trans rfl; have hcz14_2 : w13.cell? ⟨gb103, 2, none⟩ = some (.int .i64 a0_2) := (blk_cell BK103.out 2).trans rfl; have hfz14_0 := blk_frozen BK103.out 0; have hfz14_1 := blk_frozen BK103.out 1; have hfz14_2 := blk_frozen BK103.out 2) | ((with_reducible refine gate_callee (f := 39) rfl ?_); refine goesL_ (some 5) rfl rfl Try.func39 (by kernel_rfl) rfl #[.int .i64 a0_0] rfl (by (try simp only [List.map_toArray, List.map_cons, List.map_nil]); first | done | rfl | (simp only [List.length_drop, List.length_take]; rfl)) ?_; (with_reducible refine (wire_org.calls a0_0 true _ A2.out).mono ?_); rintro e w' ⟨rfl, ⟨nd, rfl⟩⟩; refine ⟨_, rfl, ?_⟩))
   go_ret
   exact ⟨by first | rfl | (simp [errW_none, errW_some] <;> rfl) | (simp [*, errW_none, errW_some] <;> rfl), by repeat (first | (with_reducible first | exact HB.out | apply below_alloc | apply pw_below_drewN | apply below_drew1 | refine below_set ?_ GE103.out) | exact HB.out)⟩
 ·
  replace c3 := Bool.eq_false_iff.mpr c3
  subst c3
  have H1 : (some false) = some r := by rw [if_neg (show ¬ (false = true) by decide)] at H; exact H
  clear H
  have H := H1
  clear H1
  obtain rfl := Option.some.inj H
  go_enter Try.func25, Try.ntmps25
  go_wp2_with (first | ((with_reducible refine gate_dst (N := 1) rfl ?_); refine box_event ?hg (N := 1) ?hd (cs := #[.int .i64 a0_0, .int .i64 a0_1, .int .i64 a0_2]) (t := 34) ?hr ?_; (case hd => rfl); (case hg => rfl); (case hr => first | (go_simp; done) | (go_simp; rfl)); intro gb103 hg w15 hbox hb; have n0_ := Aside0.mk (below_step (by repeat (first | (with_reducible first | exact HB.out | apply below_alloc | apply pw_below_drewN | apply below_drew1) | exact HB.out)) hb); have n1_ := Aside0.mk (hbox); have n2_ := Aside0.mk ((by rw [hg]; exact (below_size (by repeat (first | (with_reducible first | exact HB.out | apply below_alloc | apply pw_below_drewN | apply below_drew1) | exact HB.out))) : w.heap.size ≤ gb103)); have n3_ := Aside0.mk ((by rw [hg]; exact (below_size (by repeat (first | (with_reducible first | exact HB.out | apply below_alloc | apply pw_below_drewN | apply below_drew1) | exact HB.out))) : w.heap.size ≤ gb103)); clear HB; have HB := n0_; have BK103 := n1_; have GW103 := n2_; have GE103 := n3_; clear n0_ n1_ n2_ n3_; clear hb hbox hg; have hcz16_0 : w15.cell? ⟨gb103, 0, none⟩ = some (.int .i64 a0_0) := (blk_cell BK103.out 0).trans rfl; have hcz16_1 : w15.cell? ⟨gb103, 1, none⟩ = some (.int .i64 a0_1) := (blk_cell BK103.out 1).trans rfl; have hcz16_2 : w15.cell? ⟨gb103, 2, none⟩ = some (.int .i64 a0_2) := (blk_cell BK103.out 2).trans rfl; have hfz16_0 := blk_frozen BK103.out 0; have hfz16_1 := blk_frozen BK103.out 1; have hfz16_2 := blk_frozen BK103.out 2) | ((with_reducible refine gate_callee (f := 39) rfl ?_); refine goesL_ (some 5) rfl rfl Try.func39 (by kernel_rfl) rfl #[.int .i64 a0_0] rfl (by (try simp only [List.map_toArray, List.map_cons, List.map_nil]); first | done | rfl | (simp only [List.length_drop, List.length_take]; rfl)) ?_; (with_reducible refine (wire_org.calls a0_0 false _ A2.out).mono ?_); rintro e w' ⟨rfl, ⟨nd, rfl⟩⟩; refine ⟨_, rfl, ?_⟩))
  go_ret
  exact ⟨by first | rfl | (simp [errW_none, errW_some] <;> rfl) | (simp [*, errW_none, errW_some] <;> rfl), by repeat (first | (with_reducible first | exact HB.out | apply below_alloc | apply pw_below_drewN | apply below_drew1 | refine below_set ?_ GE103.out) | exact HB.out)⟩
def chirographref32_nums.l0 : Nat → List Int → ByteArray → Int → Option (ByteArray)
 | 0, _, _, _ => none
 | k + 1, x0, x3, x4 => if x4 < (x0.length : Int) then (if 0 ≤ x4 then ((chirographref01_Num.f k (IntKind.u64.wrap (rd x0 x4))).bind fun t113 => (if x3.size + t113.size ≤ 9223372036854775807 then (chirographref32_nums.l0 k x0 (x3 ++ t113) (wrap64 (x4 + 1))) else (none))) else (none)) else (some x3)
def chirographref32_nums.f (k : Nat) (l0 : List Int) : Option (ByteArray) := chirographref32_nums.l0 k l0 (⟨#[]⟩ : ByteArray) 0
theorem chirographref32_nums.mono_l : ∀ k, (∀ y0 y1 y2, LeO (chirographref32_nums.l0 k y0 y1 y2) (chirographref32_nums.l0 (k + 1) y0 y1 y2))
 | 0 => fun _ _ _ r h => by simp [chirographref32_nums.l0] at h
 | k + 1 => by
  have ih0 := chirographref32_nums.mono_l k
  ·
   intro y0 y1 y2
   unfold chirographref32_nums.l0
   repeat' first
   | (with_reducible exact ih0 _ _ _)
   | (with_reducible exact chirographref01_Num.mono _ _)
   | (with_reducible exact LeO.refl _)
   | (with_reducible exact LeO.none _)
   | (with_reducible refine LeO.ite ?_ ?_)
   | (with_reducible refine LeO.bind ?_ (fun _ => ?_))
   | exact ih0 _ _ _
   | exact chirographref01_Num.mono _ _
   | exact LeO.none _
   | refine LeO.ite ?_ ?_
   | refine LeO.bind ?_ (fun _ => ?_)
theorem chirographref32_nums.mono : ∀ a0 k, LeO (chirographref32_nums.f k a0) (chirographref32_nums.f (k + 1) a0) := by
 intro a0 k
 have ih0 := chirographref32_nums.mono_l k
 unfold chirographref32_nums.f
 repeat' first
   | (with_reducible exact ih0 _ _ _)
   | (with_reducible exact chirographref01_Num.mono _ _)
   | (with_reducible exact LeO.refl _)
   | (with_reducible exact LeO.none _)
   | (with_reducible refine LeO.ite ?_ ?_)
   | (with_reducible refine LeO.bind ?_ (fun _ => ?_))
   | exact ih0 _ _ _
   | exact chirographref01_Num.mono _ _
   | exact LeO.none _
   | refine LeO.ite ?_ ?_
   | refine LeO.bind ?_ (fun _ => ?_)
set_option maxHeartbeats 8000000 in
set_option maxRecDepth 100000 in
theorem chirographref32_nums.calls (k : Nat) (A0 : Option Addr) (c0 : Nat) (l0 : List Int) (r : ByteArray) (w : World) (hr0 : Kd.C (Kd.int .i64) w A0 l0.length l0) (hc0 : l0.length ≤ c0) (h : chirographref32_nums.f k l0 = some r) :
  Calls Try.prog 36 #[.slice A0 l0.length c0] w fun e w' => e = .returned (.string r) ∧ Below w.heap.size w w' := by
 have HR0 := Aside0.mk hr0
 have HC0 := Aside0.mk hc0
 clear hr0 hc0
 have HB := Aside0.mk (Below.refl w.heap.size w)
 have H : (chirographref32_nums.l0 k l0 (⟨#[]⟩ : ByteArray) 0) = some r := h
 clear h
 have H' := Aside0.mk H
 clear H
 go_enter Try.func36, Try.ntmps36
 go_wp2
 go_loopg [3, 4] k (fun kq v3 v4 w' => ∃ (x3_1 : ByteArray) (x4_1 : Int), v3 = .string x3_1 ∧ v4 = .int .i64 x4_1 ∧ Aside0 (chirographref32_nums.l0 kq l0 x3_1 x4_1 = some r) ∧ Aside0 (kq ≤ k) ∧ Aside0 (Below w.heap.size w w'))
 case atStart => exact ⟨((⟨#[]⟩ : ByteArray)), (0), (by first | rfl | (simp; done) | (simp [*]; done)), (by first | rfl | (simp; done) | (simp [*]; done)), H', ⟨Nat.le_refl _⟩, ⟨by repeat (first | (with_reducible first | exact HB.out | apply below_alloc | apply pw_below_drewN | apply below_drew1) | exact HB.out)⟩⟩
 case round =>
  clear H'
  obtain ⟨x3_1, x4_1, rfl, rfl, HA, HK1, HB⟩ := hrel
  cases gk with
  | zero => exact absurd HA.out (by simp [chirographref32_nums.l0])
  | succ k1 =>
   have H := HA.out
   clear HA
   simp only [chirographref32_nums.l0] at H
   by_cases c2 : x4_1 < (l0.length : Int)
   ·
    rw [if_pos c2] at H
    have c2b0 : decide (x4_1 < (l0.length : Int)) = true := decide_eq_true c2
    clear c2
    by_cases c3 : 0 ≤ x4_1
    ·
     rw [if_pos c3] at H
     have c3b0 : decide (0 ≤ x4_1) = true := decide_eq_true c3
     clear c3
     replace H := Option.bind_eq_some_iff.mp H
     obtain ⟨t113, A40, H⟩ := H
     replace H : (if x3_1.size + t113.size ≤ 9223372036854775807 then (chirographref32_nums.l0 k1 l0 (x3_1 ++ t113) (wrap64 (x4_1 + 1))) else (none)) = some r := H
     have A4 := Aside0.mk A40
     clear A40
     by_cases c5 : x3_1.size + t113.size ≤ 9223372036854775807
     ·
      rw [if_pos c5] at H
      have c5b0 := eq_true c5
      have c5b1 : decide (x3_1.size + t113.size ≤ 9223372036854775807) = true := decide_eq_true c5
      try have c5b2 : (9223372036854775807 < x3_1.size + t113.size) = False := eq_false (Nat.not_lt.2 c5)
      have H' := Aside0.mk H
      clear H
      have p112 : 0 ≤ (x4_1 : Int) := of_decide_eq_true (by first | (with_reducible assumption) | assumption)
      have q112 : x4_1 < (l0.length : Int) := of_decide_eq_true (by first | (with_reducible assumption) | assumption)
      obtain ⟨ad112, e112, hx112_0⟩ := Kd.at_int HR0.out x4_1 p112 q112
      cases e112
      replace hx112_0 := (HB.out.cell (World.block_lt_of_cell? w _ hx112_0)).trans hx112_0
      replace p112 := eq_true p112
      replace q112 := eq_true q112
      go_wp2_with (first | ((with_reducible refine gate_callee (f := 53) rfl ?_); refine goesL_ (some 17) rfl rfl Try.func53 (by kernel_rfl) rfl #[.int .u64 (IntKind.u64.wrap (rd l0 x4_1))] rfl (by (try simp only [List.map_toArray, List.map_cons, List.map_nil]); first | done | rfl | (simp only [List.length_drop, List.length_take]; rfl)) ?_; (with_reducible refine (chirographref01_Num.calls k1 (IntKind.u64.wrap (rd l0 x4_1)) t113 _ A4.out).mono ?_); rintro e w6 ⟨rfl, hb⟩; refine ⟨_, rfl, ?_⟩; have n0_ := Aside0.mk (below_step (by repeat (first | (with_reducible first | exact HB.out | apply below_alloc | apply pw_below_drewN | apply below_drew1) | exact HB.out)) hb); clear HB; have HB := n0_; clear n0_; (try clear hb); (try clear hb2); (try clear hk); (try clear hi)))
      go_roundg k1
      case measure => have := HK1.out; omega
      case rel => exact ⟨(x3_1 ++ t113), (wrap64 (x4_1 + 1)), (by first | rfl | (simp; done) | (simp [*]; done)), (by first | rfl | (simp; done) | (simp [*]; done)), H', ⟨by have := HK1.out; omega⟩, ⟨by repeat (first | (with_reducible first | exact HB.out | apply below_alloc | apply pw_below_drewN | apply below_drew1) | exact HB.out)⟩⟩
     ·
      rw [if_neg c5] at H
      exact absurd H (by simp)
    ·
     rw [if_neg c3] at H
     exact absurd H (by simp)
   ·
    rw [if_neg c2] at H
    have c2b0 : decide (x4_1 < (l0.length : Int)) = false := decide_eq_false c2
    clear c2
    obtain rfl := Option.some.inj H
    go_wp2
    go_ret
    exact ⟨by first | rfl | (simp [errW_none, errW_some] <;> rfl) | (simp [*, errW_none, errW_some] <;> rfl), by repeat (first | (with_reducible first | exact HB.out | apply below_alloc | apply pw_below_drewN | apply below_drew1) | exact HB.out)⟩
mutual
def chirographlaw32_Long.l0 : Nat → List (S37) → Int → Int → Option (Bool)
 | 0, _, _, _ => none
 | k + 1, x0, x3, x4 => if x4 < (x0.length : Int) then (if 0 ≤ x4 then (if (((rd_T37 x0 x4).f4).length : Int) > 20 then (chirographlaw32_Long.j1 k x0 x3 x4 true) else (chirographlaw32_Long.j1 k x0 x3 x4 (decide ((((rd_T37 x0 x4).f7).length : Int) > 100)))) else (none)) else (some (decide (x3 > 32768)))
def chirographlaw32_Long.j1 : Nat → List (S37) → Int → Int → Bool → Option (Bool)
 | 0, _, _, _, _ => none
 | k + 1, x0, x3, x4, x31 => if x31 = true then (some true) else (chirographlaw32_Long.l1 k x0 x3 x4 0)
def chirographlaw32_Long.l1 : Nat → List (S37) → Int → Int → Int → Option (Bool)
 | 0, _, _, _, _ => none
 | k + 1, x0, x3, x4, x5 => if 0 ≤ x4 then (if x4 < (x0.length : Int) then (if x5 < (((rd_T37 x0 x4).f4).length : Int) then (if 0 ≤ x5 then (if (((rd_T48 ((rd_T37 x0 x4).f4) x5).f1).size : Int) > 8192 then (some true) else (chirographlaw32_Long.l1 k x0 (wrap64 (x3 + (((rd_T48 ((rd_T37 x0 x4).f4) x5).f1).size : Int))) x4 (wrap64 (x5 + 1)))) else (none)) else (chirographlaw32_Long.l2 k x0 x3 x4 0)) else (none)) else (none)
def chirographlaw32_Long.l2 : Nat → List (S37) → Int → Int → Int → Option (Bool)
 | 0, _, _, _, _ => none
 | k + 1, x0, x3, x4, x6 => if 0 ≤ x4 then (if x4 < (x0.length : Int) then (if x6 < (((rd_T37 x0 x4).f7).length : Int) then (if 0 ≤ x6 then (if (((rd_T51 ((rd_T37 x0 x4).f7) x6).f5).size : Int) > 4096 then (some true) else (if (((rd_T51 ((rd_T37 x0 x4).f7) x6).f6).length : Int) > 100 then (some true) else (chirographlaw32_Long.l2 k x0 (wrap64 (x3 + (((rd_T51 ((rd_T37 x0 x4).f7) x6).f5).size : Int))) x4 (wrap64 (x6 + 1))))) else (none)) else (chirographlaw32_Long.l0 k x0 x3 (wrap64 (x4 + 1)))) else (none)) else (none)
end
def chirographlaw32_Long.f (k : Nat) (l0 : List (S37)) : Option (Bool) := if (l0.length : Int) > 60 then (some true) else (chirographlaw32_Long.l0 k l0 0 0)
theorem chirographlaw32_Long.mono_l : ∀ k, (∀ y0 y1 y2, LeO (chirographlaw32_Long.l0 k y0 y1 y2) (chirographlaw32_Long.l0 (k + 1) y0 y1 y2)) ∧ (∀ y0 y1 y2 y3, LeO (chirographlaw32_Long.j1 k y0 y1 y2 y3) (chirographlaw32_Long.j1 (k + 1) y0 y1 y2 y3)) ∧ (∀ y0 y1 y2 y3, LeO (chirographlaw32_Long.l1 k y0 y1 y2 y3) (chirographlaw32_Long.l1 (k + 1) y0 y1 y2 y3)) ∧ (∀ y0 y1 y2 y3, LeO (chirographlaw32_Long.l2 k y0 y1 y2 y3) (chirographlaw32_Long.l2 (k + 1) y0 y1 y2 y3))
 | 0 => ⟨fun _ _ _ r h => by simp [chirographlaw32_Long.l0] at h, fun _ _ _ _ r h => by simp [chirographlaw32_Long.j1] at h, fun _ _ _ _ r h => by simp [chirographlaw32_Long.l1] at h, fun _ _ _ _ r h => by simp [chirographlaw32_Long.l2] at h⟩
 | k + 1 => by
  obtain ⟨ih0, ih1, ih2, ih3⟩ := chirographlaw32_Long.mono_l k
  refine ⟨?_, ?_, ?_, ?_⟩
  ·
   intro y0 y1 y2
   unfold chirographlaw32_Long.l0
   repeat' first
   | (with_reducible exact ih0 _ _ _)
   | (with_reducible exact ih1 _ _ _ _)
   | (with_reducible exact ih2 _ _ _ _)
   | (with_reducible exact ih3 _ _ _ _)
   | (with_reducible exact LeO.refl _)
   | (with_reducible exact LeO.none _)
   | (with_reducible refine LeO.ite ?_ ?_)
   | (with_reducible refine LeO.bind ?_ (fun _ => ?_))
   | exact ih0 _ _ _
   | exact ih1 _ _ _ _
   | exact ih2 _ _ _ _
   | exact ih3 _ _ _ _
   | exact LeO.none _
   | refine LeO.ite ?_ ?_
   | refine LeO.bind ?_ (fun _ => ?_)
  ·
   intro y0 y1 y2 y3
   unfold chirographlaw32_Long.j1
   repeat' first
   | (with_reducible exact ih0 _ _ _)
   | (with_reducible exact ih1 _ _ _ _)
   | (with_reducible exact ih2 _ _ _ _)
   | (with_reducible exact ih3 _ _ _ _)
   | (with_reducible exact LeO.refl _)
   | (with_reducible exact LeO.none _)
   | (with_reducible refine LeO.ite ?_ ?_)
   | (with_reducible refine LeO.bind ?_ (fun _ => ?_))
   | exact ih0 _ _ _
   | exact ih1 _ _ _ _
   | exact ih2 _ _ _ _
   | exact ih3 _ _ _ _
   | exact LeO.none _
   | refine LeO.ite ?_ ?_
   | refine LeO.bind ?_ (fun _ => ?_)
  ·
   intro y0 y1 y2 y3
   unfold chirographlaw32_Long.l1
   repeat' first
   | (with_reducible exact ih0 _ _ _)
   | (with_reducible exact ih1 _ _ _ _)
   | (with_reducible exact ih2 _ _ _ _)
   | (with_reducible exact ih3 _ _ _ _)
   | (with_reducible exact LeO.refl _)
   | (with_reducible exact LeO.none _)
   | (with_reducible refine LeO.ite ?_ ?_)
   | (with_reducible refine LeO.bind ?_ (fun _ => ?_))
   | exact ih0 _ _ _
   | exact ih1 _ _ _ _
   | exact ih2 _ _ _ _
   | exact ih3 _ _ _ _
   | exact LeO.none _
   | refine LeO.ite ?_ ?_
   | refine LeO.bind ?_ (fun _ => ?_)
  ·
   intro y0 y1 y2 y3
   unfold chirographlaw32_Long.l2
   repeat' first
   | (with_reducible exact ih0 _ _ _)
   | (with_reducible exact ih1 _ _ _ _)
   | (with_reducible exact ih2 _ _ _ _)
   | (with_reducible exact ih3 _ _ _ _)
   | (with_reducible exact LeO.refl _)
   | (with_reducible exact LeO.none _)
   | (with_reducible refine LeO.ite ?_ ?_)
   | (with_reducible refine LeO.bind ?_ (fun _ => ?_))
   | exact ih0 _ _ _
   | exact ih1 _ _ _ _
   | exact ih2 _ _ _ _
   | exact ih3 _ _ _ _
   | exact LeO.none _
   | refine LeO.ite ?_ ?_
   | refine LeO.bind ?_ (fun _ => ?_)
theorem chirographlaw32_Long.mono : ∀ a0 k, LeO (chirographlaw32_Long.f k a0) (chirographlaw32_Long.f (k + 1) a0) := by
 intro a0 k
 obtain ⟨ih0, ih1, ih2, ih3⟩ := chirographlaw32_Long.mono_l k
 unfold chirographlaw32_Long.f
 repeat' first
   | (with_reducible exact ih0 _ _ _)
   | (with_reducible exact ih1 _ _ _ _)
   | (with_reducible exact ih2 _ _ _ _)
   | (with_reducible exact ih3 _ _ _ _)
   | (with_reducible exact LeO.refl _)
   | (with_reducible exact LeO.none _)
   | (with_reducible refine LeO.ite ?_ ?_)
   | (with_reducible refine LeO.bind ?_ (fun _ => ?_))
   | exact ih0 _ _ _
   | exact ih1 _ _ _ _
   | exact ih2 _ _ _ _
   | exact ih3 _ _ _ _
   | exact LeO.none _
   | refine LeO.ite ?_ ?_
   | refine LeO.bind ?_ (fun _ => ?_)
set_option maxHeartbeats 8000000 in
set_option maxRecDepth 100000 in
theorem chirographlaw32_Long.calls (k : Nat) (A0 : Option Addr) (c0 : Nat) (l0 : List (S37)) (r : Bool) (w : World) (hr0 : Kd.C k37 w A0 l0.length l0) (hc0 : l0.length ≤ c0) (h : chirographlaw32_Long.f k l0 = some r) :
  Calls Try.prog 7 #[.slice A0 l0.length c0] w fun e w' => e = .returned (.bool r) ∧ Drawn0 w w' := by
 have HR0 := Aside0.mk hr0
 have HC0 := Aside0.mk hc0
 clear hr0 hc0
 have H : (if (l0.length : Int) > 60 then (some true) else (chirographlaw32_Long.l0 k l0 0 0)) = some r := h
 clear h
 by_cases c2 : (l0.length : Int) > 60
 ·
  rw [if_pos c2] at H
  have c2b0 : decide (60 < (l0.length : Int)) = true := decide_eq_true c2
  have c2b1 : decide (60 < l0.length) = true := decide_eq_true (by omega)
  clear c2
  obtain rfl := Option.some.inj H
  go_enter Try.func7, Try.ntmps7
  go_wp2
  go_ret
  exact ⟨by first | rfl | (simp; done) | (simp [*]; done), by repeat (first | exact Drawn0.refl _ | apply Drawn0.step)⟩
 ·
  rw [if_neg c2] at H
  have c2b0 : decide (60 < (l0.length : Int)) = false := decide_eq_false c2
  have c2b1 : decide (60 < l0.length) = false := decide_eq_false (by omega)
  clear c2
  have H' := Aside0.mk H
  clear H
  go_enter Try.func7, Try.ntmps7
  go_wp2
  go_loopg [3, 4] k (fun kq v3 v4 w' => ∃ (x3_1 : Int) (x4_1 : Int), v3 = .int .i64 x3_1 ∧ v4 = .int .i64 x4_1 ∧ Aside0 (chirographlaw32_Long.l0 kq l0 x3_1 x4_1 = some r) ∧ Aside0 (kq ≤ k) ∧ Drawn0 w w')
  case atStart => exact ⟨(0), (0), (by first | rfl | (simp; done) | (simp [*]; done)), (by first | rfl | (simp; done) | (simp [*]; done)), H', ⟨Nat.le_refl _⟩, by repeat (first | exact Drawn0.refl _ | apply Drawn0.step)⟩
  case round =>
   clear H'
   try clear c2
   try clear c2b0
   try clear c2b1
   try clear p2
   obtain ⟨x3_1, x4_1, rfl, rfl, HA, HK1, ⟨m1, rfl⟩⟩ := hrel
   cases gk with
   | zero => exact absurd HA.out (by simp [chirographlaw32_Long.l0])
   | succ k1 =>
    have H := HA.out
    clear HA
    simp only [chirographlaw32_Long.l0] at H
    by_cases c3 : x4_1 < (l0.length : Int)
    ·
     rw [if_pos c3] at H
     have c3b0 : decide (x4_1 < (l0.length : Int)) = true := decide_eq_true c3
     clear c3
     have HC4 := Aside0.mk H
     clear H
     go_upto_region 7 with (fail)
     go_cut [31] (fun v31 wc => ∃ (kq : Nat) (x31_3 : Bool), v31 = .bool x31_3 ∧ Aside0 (chirographlaw32_Long.j1 kq l0 x3_1 x4_1 x31_3 = some r) ∧ Aside0 (kq ≤ k1) ∧ Drawn0 w wc)
     case first =>
      have H := HC4.out
      clear HC4
      by_cases c5 : 0 ≤ x4_1
      ·
       rw [if_pos c5] at H
       have c5b0 : decide (0 ≤ x4_1) = true := decide_eq_true c5
       clear c5
       (first | rw [c5b0] | (simp only [i64_w, i32_w]; rw [c5b0]) | skip)
       by_cases c6 : (((rd_T37 l0 x4_1).f4).length : Int) > 20
       ·
        rw [if_pos c6] at H
        have c6b0 : decide (20 < (((rd_T37 l0 x4_1).f4).length : Int)) = true := decide_eq_true c6
        have c6b1 : decide (20 < ((rd_T37 l0 x4_1).f4).length) = true := decide_eq_true (by omega)
        clear c6
        have H' := Aside0.mk H
        clear H
        have p101 : 0 ≤ (x4_1 : Int) := of_decide_eq_true (by first | (with_reducible assumption) | assumption)
        have q101 : x4_1 < (l0.length : Int) := of_decide_eq_true (by first | (with_reducible assumption) | assumption)
        obtain ⟨ad101, A101_4, c101_4, A101_9, c101_9, e101, hx101_0, hx101_1, hx101_2, hx101_3, hx101_4, hx101_5, hx101_6, hx101_7, hx101_8, hx101_9, hl101_4, hi101_4, hl101_9, hi101_9⟩ := at_T37 HR0.out x4_1 p101 q101
        cases e101
        have HR101_4 := Aside0.mk hi101_4
        have HC101_4 := Aside0.mk hl101_4
        clear hi101_4 hl101_4
        have HR101_9 := Aside0.mk hi101_9
        have HC101_9 := Aside0.mk hl101_9
        clear hi101_9 hl101_9
        replace p101 := eq_true p101
        replace q101 := eq_true q101
        go_wp2
        go_meet
        case rel => exact ⟨_, (true), (by first | rfl | (simp; done) | (simp [*]; done)), H', ⟨by have := HK1.out; first | omega | exact Nat.le_refl _⟩, by repeat (first | exact Drawn0.refl _ | apply Drawn0.step)⟩
       ·
        rw [if_neg c6] at H
        have c6b0 : decide (20 < (((rd_T37 l0 x4_1).f4).length : Int)) = false := decide_eq_false c6
        have c6b1 : decide (20 < ((rd_T37 l0 x4_1).f4).length) = false := decide_eq_false (by omega)
        clear c6
        have H' := Aside0.mk H
        clear H
        have p101 : 0 ≤ (x4_1 : Int) := of_decide_eq_true (by first | (with_reducible assumption) | assumption)
        have q101 : x4_1 < (l0.length : Int) := of_decide_eq_true (by first | (with_reducible assumption) | assumption)
        obtain ⟨ad101, A101_4, c101_4, A101_9, c101_9, e101, hx101_0, hx101_1, hx101_2, hx101_3, hx101_4, hx101_5, hx101_6, hx101_7, hx101_8, hx101_9, hl101_4, hi101_4, hl101_9, hi101_9⟩ := at_T37 HR0.out x4_1 p101 q101
        cases e101
        have HR101_4 := Aside0.mk hi101_4
        have HC101_4 := Aside0.mk hl101_4
        clear hi101_4 hl101_4
        have HR101_9 := Aside0.mk hi101_9
        have HC101_9 := Aside0.mk hl101_9
        clear hi101_9 hl101_9
        replace p101 := eq_true p101
        replace q101 := eq_true q101
        have p102 : 0 ≤ (x4_1 : Int) := of_decide_eq_true (by first | (with_reducible assumption) | assumption)
        have q102 : x4_1 < (l0.length : Int) := of_decide_eq_true (by first | (with_reducible assumption) | assumption)
        obtain ⟨ad102, A102_4, c102_4, A102_9, c102_9, e102, hx102_0, hx102_1, hx102_2, hx102_3, hx102_4, hx102_5, hx102_6, hx102_7, hx102_8, hx102_9, hl102_4, hi102_4, hl102_9, hi102_9⟩ := at_T37 HR0.out x4_1 p102 q102
        obtain rfl : ad101 = ad102 := (by injection e102)
        have HR102_4 := Aside0.mk hi102_4
        have HC102_4 := Aside0.mk hl102_4
        clear hi102_4 hl102_4
        have HR102_9 := Aside0.mk hi102_9
        have HC102_9 := Aside0.mk hl102_9
        clear hi102_9 hl102_9
        replace p102 := eq_true p102
        replace q102 := eq_true q102
        have ea_ := Option.some.inj (hx101_4.symm.trans hx102_4)
        injection ea_ with ea_ en_ ec_
        subst ea_
        subst ec_
        clear en_
        have ea_ := Option.some.inj (hx101_9.symm.trans hx102_9)
        injection ea_ with ea_ en_ ec_
        subst ea_
        subst ec_
        clear en_
        go_wp2
        go_meet
        case rel => exact ⟨_, (decide ((((rd_T37 l0 x4_1).f7).length : Int) > 100)), (by first | rfl | (simp; done) | (simp [*]; done)), H', ⟨by have := HK1.out; first | omega | exact Nat.le_refl _⟩, by repeat (first | exact Drawn0.refl _ | apply Drawn0.step)⟩
      ·
       rw [if_neg c5] at H
       exact absurd H (by simp)
     case rest =>
      clear HC4
      try clear c1
      try clear p1
      try clear q1
      try clear hx1
      try clear c2
      try clear c2b0
      try clear c2b1
      try clear p2
      try clear c3
      try clear c3b0
      try clear c5
      try clear c5b0
      try clear c6
      try clear c6b0
      try clear c6b1
      try clear hx101_0
      try clear hx101_1
      try clear hx101_2
      try clear hx101_3
      try clear hx101_4
      try clear hx101_5
      try clear hx101_6
      try clear hx101_7
      try clear hx101_8
      try clear hx101_9
      try clear hx102_0
      try clear hx102_1
      try clear hx102_2
      try clear hx102_3
      try clear hx102_4
      try clear hx102_5
      try clear hx102_6
      try clear hx102_7
      try clear hx102_8
      try clear hx102_9
      try clear p101
      try clear p102
      try clear p2
      try clear q101
      try clear q102
      obtain ⟨kq, x31_3, rfl, HA, HJ3, ⟨mc3, rfl⟩⟩ := hcut
      cases kq with
      | zero => exact absurd HA.out (by simp [chirographlaw32_Long.j1])
      | succ kj3 =>
       have H := HA.out
       clear HA
       simp only [chirographlaw32_Long.j1] at H
       by_cases c7 : x31_3 = true
       ·
        subst c7
        have H1 : (some true) = some r := by rw [if_pos rfl] at H; exact H
        clear H
        have H := H1
        clear H1
        obtain rfl := Option.some.inj H
        go_wp2
        go_ret
        exact ⟨by first | rfl | (simp; done) | (simp [*]; done), by repeat (first | exact Drawn0.refl _ | apply Drawn0.step)⟩
       ·
        replace c7 := Bool.eq_false_iff.mpr c7
        subst c7
        have H1 : (chirographlaw32_Long.l1 kj3 l0 x3_1 x4_1 0) = some r := by rw [if_neg (show ¬ (false = true) by decide)] at H; exact H
        clear H
        have H := H1
        clear H1
        have H' := Aside0.mk H
        clear H
        go_wp2
        go_loopg [3, 5] kj3 (fun kq v3 v5 w' => ∃ (x3_3 : Int) (x5_3 : Int), v3 = .int .i64 x3_3 ∧ v5 = .int .i64 x5_3 ∧ Aside0 (chirographlaw32_Long.l1 kq l0 x3_3 x4_1 x5_3 = some r) ∧ Aside0 (kq ≤ kj3) ∧ Drawn0 w w')
        case atStart => exact ⟨(x3_1), (0), (by first | rfl | (simp; done) | (simp [*]; done)), (by first | rfl | (simp; done) | (simp [*]; done)), H', ⟨Nat.le_refl _⟩, by repeat (first | exact Drawn0.refl _ | apply Drawn0.step)⟩
        case round =>
         clear H'
         try clear c1
         try clear p1
         try clear q1
         try clear hx1
         try clear c2
         try clear c2b0
         try clear c2b1
         try clear p2
         try clear c3
         try clear c3b0
         try clear c5
         try clear c5b0
         try clear c6
         try clear c6b0
         try clear c6b1
         try clear c7
         try clear hx101_0
         try clear hx101_1
         try clear hx101_2
         try clear hx101_3
         try clear hx101_4
         try clear hx101_5
         try clear hx101_6
         try clear hx101_7
         try clear hx101_8
         try clear hx101_9
         try clear hx102_0
         try clear hx102_1
         try clear hx102_2
         try clear hx102_3
         try clear hx102_4
         try clear hx102_5
         try clear hx102_6
         try clear hx102_7
         try clear hx102_8
         try clear hx102_9
         try clear p1
         try clear p101
         try clear p102
         try clear p2
         try clear q1
         try clear q101
         try clear q102
         obtain ⟨x3_3, x5_3, rfl, rfl, HA, HK3, ⟨m3, rfl⟩⟩ := hrel
         cases gk with
         | zero => exact absurd HA.out (by simp [chirographlaw32_Long.l1])
         | succ k3 =>
          have H := HA.out
          clear HA
          simp only [chirographlaw32_Long.l1] at H
          by_cases c8 : 0 ≤ x4_1
          ·
           rw [if_pos c8] at H
           have c8b0 : decide (0 ≤ x4_1) = true := decide_eq_true c8
           clear c8
           by_cases c9 : x4_1 < (l0.length : Int)
           ·
            rw [if_pos c9] at H
            have c9b0 : decide (x4_1 < (l0.length : Int)) = true := decide_eq_true c9
            clear c9
            by_cases c10 : x5_3 < (((rd_T37 l0 x4_1).f4).length : Int)
            ·
             rw [if_pos c10] at H
             have c10b0 : decide (x5_3 < (((rd_T37 l0 x4_1).f4).length : Int)) = true := decide_eq_true c10
             clear c10
             by_cases c11 : 0 ≤ x5_3
             ·
              rw [if_pos c11] at H
              have c11b0 : decide (0 ≤ x5_3) = true := decide_eq_true c11
              clear c11
              by_cases c12 : (((rd_T48 ((rd_T37 l0 x4_1).f4) x5_3).f1).size : Int) > 8192
              ·
               rw [if_pos c12] at H
               have c12b0 : decide (8192 < (((rd_T48 ((rd_T37 l0 x4_1).f4) x5_3).f1).size : Int)) = true := decide_eq_true c12
               have c12b1 : decide (8192 < ((rd_T48 ((rd_T37 l0 x4_1).f4) x5_3).f1).size) = true := decide_eq_true (by omega)
               clear c12
               obtain rfl := Option.some.inj H
               have p103 : 0 ≤ (x4_1 : Int) := of_decide_eq_true (by first | (with_reducible assumption) | assumption)
               have q103 : x4_1 < (l0.length : Int) := of_decide_eq_true (by first | (with_reducible assumption) | assumption)
               obtain ⟨ad103, A103_4, c103_4, A103_9, c103_9, e103, hx103_0, hx103_1, hx103_2, hx103_3, hx103_4, hx103_5, hx103_6, hx103_7, hx103_8, hx103_9, hl103_4, hi103_4, hl103_9, hi103_9⟩ := at_T37 HR0.out x4_1 p103 q103
               cases e103
               have HR103_4 := Aside0.mk hi103_4
               have HC103_4 := Aside0.mk hl103_4
               clear hi103_4 hl103_4
               have HR103_9 := Aside0.mk hi103_9
               have HC103_9 := Aside0.mk hl103_9
               clear hi103_9 hl103_9
               replace p103 := eq_true p103
               replace q103 := eq_true q103
               have p104 : 0 ≤ (x4_1 : Int) := of_decide_eq_true (by first | (with_reducible assumption) | assumption)
               have q104 : x4_1 < (l0.length : Int) := of_decide_eq_true (by first | (with_reducible assumption) | assumption)
               obtain ⟨ad104, A104_4, c104_4, A104_9, c104_9, e104, hx104_0, hx104_1, hx104_2, hx104_3, hx104_4, hx104_5, hx104_6, hx104_7, hx104_8, hx104_9, hl104_4, hi104_4, hl104_9, hi104_9⟩ := at_T37 HR0.out x4_1 p104 q104
               obtain rfl : ad103 = ad104 := (by injection e104)
               have HR104_4 := Aside0.mk hi104_4
               have HC104_4 := Aside0.mk hl104_4
               clear hi104_4 hl104_4
               have HR104_9 := Aside0.mk hi104_9
               have HC104_9 := Aside0.mk hl104_9
               clear hi104_9 hl104_9
               replace p104 := eq_true p104
               replace q104 := eq_true q104
               have ea_ := Option.some.inj (hx103_4.symm.trans hx104_4)
               injection ea_ with ea_ en_ ec_
               subst ea_
               subst ec_
               clear en_
               have ea_ := Option.some.inj (hx103_9.symm.trans hx104_9)
               injection ea_ with ea_ en_ ec_
               subst ea_
               subst ec_
               clear en_
               have p105 : 0 ≤ (x5_3 : Int) := of_decide_eq_true (by first | (with_reducible assumption) | assumption)
               have q105 : x5_3 < (((rd_T37 l0 x4_1).f4).length : Int) := of_decide_eq_true (by first | (with_reducible assumption) | assumption)
               obtain ⟨ad105, e105, hx105_0, hx105_1⟩ := at_T48 HR104_4.out x5_3 p105 q105
               cases e105
               replace p105 := eq_true p105
               replace q105 := eq_true q105
               go_wp2
               go_ret
               exact ⟨by first | rfl | (simp; done) | (simp [*]; done), by repeat (first | exact Drawn0.refl _ | apply Drawn0.step)⟩
              ·
               rw [if_neg c12] at H
               have c12b0 : decide (8192 < (((rd_T48 ((rd_T37 l0 x4_1).f4) x5_3).f1).size : Int)) = false := decide_eq_false c12
               have c12b1 : decide (8192 < ((rd_T48 ((rd_T37 l0 x4_1).f4) x5_3).f1).size) = false := decide_eq_false (by omega)
               clear c12
               have H' := Aside0.mk H
               clear H
               have p103 : 0 ≤ (x4_1 : Int) := of_decide_eq_true (by first | (with_reducible assumption) | assumption)
               have q103 : x4_1 < (l0.length : Int) := of_decide_eq_true (by first | (with_reducible assumption) | assumption)
               obtain ⟨ad103, A103_4, c103_4, A103_9, c103_9, e103, hx103_0, hx103_1, hx103_2, hx103_3, hx103_4, hx103_5, hx103_6, hx103_7, hx103_8, hx103_9, hl103_4, hi103_4, hl103_9, hi103_9⟩ := at_T37 HR0.out x4_1 p103 q103
               cases e103
               have HR103_4 := Aside0.mk hi103_4
               have HC103_4 := Aside0.mk hl103_4
               clear hi103_4 hl103_4
               have HR103_9 := Aside0.mk hi103_9
               have HC103_9 := Aside0.mk hl103_9
               clear hi103_9 hl103_9
               replace p103 := eq_true p103
               replace q103 := eq_true q103
               have p104 : 0 ≤ (x4_1 : Int) := of_decide_eq_true (by first | (with_reducible assumption) | assumption)
               have q104 : x4_1 < (l0.length : Int) := of_decide_eq_true (by first | (with_reducible assumption) | assumption)
               obtain ⟨ad104, A104_4, c104_4, A104_9, c104_9, e104, hx104_0, hx104_1, hx104_2, hx104_3, hx104_4, hx104_5, hx104_6, hx104_7, hx104_8, hx104_9, hl104_4, hi104_4, hl104_9, hi104_9⟩ := at_T37 HR0.out x4_1 p104 q104
               obtain rfl : ad103 = ad104 := (by injection e104)
               have HR104_4 := Aside0.mk hi104_4
               have HC104_4 := Aside0.mk hl104_4
               clear hi104_4 hl104_4
               have HR104_9 := Aside0.mk hi104_9
               have HC104_9 := Aside0.mk hl104_9
               clear hi104_9 hl104_9
               replace p104 := eq_true p104
               replace q104 := eq_true q104
               have ea_ := Option.some.inj (hx103_4.symm.trans hx104_4)
               injection ea_ with ea_ en_ ec_
               subst ea_
               subst ec_
               clear en_
               have ea_ := Option.some.inj (hx103_9.symm.trans hx104_9)
               injection ea_ with ea_ en_ ec_
               subst ea_
               subst ec_
               clear en_
               have p105 : 0 ≤ (x5_3 : Int) := of_decide_eq_true (by first | (with_reducible assumption) | assumption)
               have q105 : x5_3 < (((rd_T37 l0 x4_1).f4).length : Int) := of_decide_eq_true (by first | (with_reducible assumption) | assumption)
               obtain ⟨ad105, e105, hx105_0, hx105_1⟩ := at_T48 HR104_4.out x5_3 p105 q105
               cases e105
               replace p105 := eq_true p105
               replace q105 := eq_true q105
               have p106 : 0 ≤ (x4_1 : Int) := of_decide_eq_true (by first | (with_reducible assumption) | assumption)
               have q106 : x4_1 < (l0.length : Int) := of_decide_eq_true (by first | (with_reducible assumption) | assumption)
               obtain ⟨ad106, A106_4, c106_4, A106_9, c106_9, e106, hx106_0, hx106_1, hx106_2, hx106_3, hx106_4, hx106_5, hx106_6, hx106_7, hx106_8, hx106_9, hl106_4, hi106_4, hl106_9, hi106_9⟩ := at_T37 HR0.out x4_1 p106 q106
               obtain rfl : ad103 = ad106 := (by injection e106)
               have HR106_4 := Aside0.mk hi106_4
               have HC106_4 := Aside0.mk hl106_4
               clear hi106_4 hl106_4
               have HR106_9 := Aside0.mk hi106_9
               have HC106_9 := Aside0.mk hl106_9
               clear hi106_9 hl106_9
               replace p106 := eq_true p106
               replace q106 := eq_true q106
               have ea_ := Option.some.inj (hx103_4.symm.trans hx106_4)
               injection ea_ with ea_ en_ ec_
               subst ea_
               subst ec_
               clear en_
               have ea_ := Option.some.inj (hx103_9.symm.trans hx106_9)
               injection ea_ with ea_ en_ ec_
               subst ea_
               subst ec_
               clear en_
               have p107 : 0 ≤ (x5_3 : Int) := of_decide_eq_true (by first | (with_reducible assumption) | assumption)
               have q107 : x5_3 < (((rd_T37 l0 x4_1).f4).length : Int) := of_decide_eq_true (by first | (with_reducible assumption) | assumption)
               obtain ⟨ad107, e107, hx107_0, hx107_1⟩ := at_T48 HR106_4.out x5_3 p107 q107
               cases e107
               replace p107 := eq_true p107
               replace q107 := eq_true q107
               go_wp2
               go_roundg k3
               case measure => have := HK1.out; have := HJ3.out; have := HK3.out; omega
               case rel => exact ⟨(wrap64 (x3_3 + (((rd_T48 ((rd_T37 l0 x4_1).f4) x5_3).f1).size : Int))), (wrap64 (x5_3 + 1)), (by first | rfl | (simp; done) | (simp [*]; done)), (by first | rfl | (simp; done) | (simp [*]; done)), H', ⟨by have := HK1.out; have := HJ3.out; have := HK3.out; omega⟩, by repeat (first | exact Drawn0.refl _ | apply Drawn0.step)⟩
             ·
              rw [if_neg c11] at H
              exact absurd H (by simp)
            ·
             rw [if_neg c10] at H
             have c10b0 : decide (x5_3 < (((rd_T37 l0 x4_1).f4).length : Int)) = false := decide_eq_false c10
             clear c10
             have H' := Aside0.mk H
             clear H
             have p103 : 0 ≤ (x4_1 : Int) := of_decide_eq_true (by first | (with_reducible assumption) | assumption)
             have q103 : x4_1 < (l0.length : Int) := of_decide_eq_true (by first | (with_reducible assumption) | assumption)
             obtain ⟨ad103, A103_4, c103_4, A103_9, c103_9, e103, hx103_0, hx103_1, hx103_2, hx103_3, hx103_4, hx103_5, hx103_6, hx103_7, hx103_8, hx103_9, hl103_4, hi103_4, hl103_9, hi103_9⟩ := at_T37 HR0.out x4_1 p103 q103
             cases e103
             have HR103_4 := Aside0.mk hi103_4
             have HC103_4 := Aside0.mk hl103_4
             clear hi103_4 hl103_4
             have HR103_9 := Aside0.mk hi103_9
             have HC103_9 := Aside0.mk hl103_9
             clear hi103_9 hl103_9
             replace p103 := eq_true p103
             replace q103 := eq_true q103
             go_wp2
             go_loopg [3, 6] k3 (fun kq v3 v6 w' => ∃ (x3_4 : Int) (x6_4 : Int), v3 = .int .i64 x3_4 ∧ v6 = .int .i64 x6_4 ∧ Aside0 (chirographlaw32_Long.l2 kq l0 x3_4 x4_1 x6_4 = some r) ∧ Aside0 (kq ≤ k3) ∧ Drawn0 w w')
             case atStart => exact ⟨(x3_3), (0), (by first | rfl | (simp; done) | (simp [*]; done)), (by first | rfl | (simp; done) | (simp [*]; done)), H', ⟨Nat.le_refl _⟩, by repeat (first | exact Drawn0.refl _ | apply Drawn0.step)⟩
             case round =>
              clear H'
              try clear c1
              try clear p1
              try clear q1
              try clear hx1
              try clear c2
              try clear c2b0
              try clear c2b1
              try clear p2
              try clear c3
              try clear c3b0
              try clear c5
              try clear c5b0
              try clear c6
              try clear c6b0
              try clear c6b1
              try clear p6
              try clear c7
              try clear c8
              try clear c8b0
              try clear c9
              try clear c9b0
              try clear c10
              try clear c10b0
              try clear p10
              try clear q10
              try clear hx10
              try clear c11
              try clear c11b0
              try clear c12
              try clear c12b0
              try clear c12b1
              try clear hx101_0
              try clear hx101_1
              try clear hx101_2
              try clear hx101_3
              try clear hx101_4
              try clear hx101_5
              try clear hx101_6
              try clear hx101_7
              try clear hx101_8
              try clear hx101_9
              try clear hx102_0
              try clear hx102_1
              try clear hx102_2
              try clear hx102_3
              try clear hx102_4
              try clear hx102_5
              try clear hx102_6
              try clear hx102_7
              try clear hx102_8
              try clear hx102_9
              try clear hx103_0
              try clear hx103_1
              try clear hx103_2
              try clear hx103_3
              try clear hx103_4
              try clear hx103_5
              try clear hx103_6
              try clear hx103_7
              try clear hx103_8
              try clear hx103_9
              try clear hx104_0
              try clear hx104_1
              try clear hx104_2
              try clear hx104_3
              try clear hx104_4
              try clear hx104_5
              try clear hx104_6
              try clear hx104_7
              try clear hx104_8
              try clear hx104_9
              try clear hx105_0
              try clear hx105_1
              try clear hx106_0
              try clear hx106_1
              try clear hx106_2
              try clear hx106_3
              try clear hx106_4
              try clear hx106_5
              try clear hx106_6
              try clear hx106_7
              try clear hx106_8
              try clear hx106_9
              try clear hx107_0
              try clear hx107_1
              try clear p1
              try clear p101
              try clear p102
              try clear p103
              try clear p104
              try clear p105
              try clear p106
              try clear p107
              try clear p2
              try clear q1
              try clear q101
              try clear q102
              try clear q103
              try clear q104
              try clear q105
              try clear q106
              try clear q107
              obtain ⟨x3_4, x6_4, rfl, rfl, HA, HK4, ⟨m4, rfl⟩⟩ := hrel
              cases gk with
              | zero => exact absurd HA.out (by simp [chirographlaw32_Long.l2])
              | succ k4 =>
               have H := HA.out
               clear HA
               simp only [chirographlaw32_Long.l2] at H
               by_cases c13 : 0 ≤ x4_1
               ·
                rw [if_pos c13] at H
                have c13b0 : decide (0 ≤ x4_1) = true := decide_eq_true c13
                clear c13
                by_cases c14 : x4_1 < (l0.length : Int)
                ·
                 rw [if_pos c14] at H
                 have c14b0 : decide (x4_1 < (l0.length : Int)) = true := decide_eq_true c14
                 clear c14
                 by_cases c15 : x6_4 < (((rd_T37 l0 x4_1).f7).length : Int)
                 ·
                  rw [if_pos c15] at H
                  have c15b0 : decide (x6_4 < (((rd_T37 l0 x4_1).f7).length : Int)) = true := decide_eq_true c15
                  clear c15
                  by_cases c16 : 0 ≤ x6_4
                  ·
                   rw [if_pos c16] at H
                   have c16b0 : decide (0 ≤ x6_4) = true := decide_eq_true c16
                   clear c16
                   by_cases c17 : (((rd_T51 ((rd_T37 l0 x4_1).f7) x6_4).f5).size : Int) > 4096
                   ·
                    rw [if_pos c17] at H
                    have c17b0 : decide (4096 < (((rd_T51 ((rd_T37 l0 x4_1).f7) x6_4).f5).size : Int)) = true := decide_eq_true c17
                    have c17b1 : decide (4096 < ((rd_T51 ((rd_T37 l0 x4_1).f7) x6_4).f5).size) = true := decide_eq_true (by omega)
                    clear c17
                    obtain rfl := Option.some.inj H
                    have p108 : 0 ≤ (x4_1 : Int) := of_decide_eq_true (by first | (with_reducible assumption) | assumption)
                    have q108 : x4_1 < (l0.length : Int) := of_decide_eq_true (by first | (with_reducible assumption) | assumption)
                    obtain ⟨ad108, A108_4, c108_4, A108_9, c108_9, e108, hx108_0, hx108_1, hx108_2, hx108_3, hx108_4, hx108_5, hx108_6, hx108_7, hx108_8, hx108_9, hl108_4, hi108_4, hl108_9, hi108_9⟩ := at_T37 HR0.out x4_1 p108 q108
                    obtain rfl : ad103 = ad108 := (by injection e108)
                    have HR108_4 := Aside0.mk hi108_4
                    have HC108_4 := Aside0.mk hl108_4
                    clear hi108_4 hl108_4
                    have HR108_9 := Aside0.mk hi108_9
                    have HC108_9 := Aside0.mk hl108_9
                    clear hi108_9 hl108_9
                    replace p108 := eq_true p108
                    replace q108 := eq_true q108
                    have p109 : 0 ≤ (x4_1 : Int) := of_decide_eq_true (by first | (with_reducible assumption) | assumption)
                    have q109 : x4_1 < (l0.length : Int) := of_decide_eq_true (by first | (with_reducible assumption) | assumption)
                    obtain ⟨ad109, A109_4, c109_4, A109_9, c109_9, e109, hx109_0, hx109_1, hx109_2, hx109_3, hx109_4, hx109_5, hx109_6, hx109_7, hx109_8, hx109_9, hl109_4, hi109_4, hl109_9, hi109_9⟩ := at_T37 HR0.out x4_1 p109 q109
                    obtain rfl : ad103 = ad109 := (by injection e109)
                    have HR109_4 := Aside0.mk hi109_4
                    have HC109_4 := Aside0.mk hl109_4
                    clear hi109_4 hl109_4
                    have HR109_9 := Aside0.mk hi109_9
                    have HC109_9 := Aside0.mk hl109_9
                    clear hi109_9 hl109_9
                    replace p109 := eq_true p109
                    replace q109 := eq_true q109
                    have ea_ := Option.some.inj (hx108_4.symm.trans hx109_4)
                    injection ea_ with ea_ en_ ec_
                    subst ea_
                    subst ec_
                    clear en_
                    have ea_ := Option.some.inj (hx108_9.symm.trans hx109_9)
                    injection ea_ with ea_ en_ ec_
                    subst ea_
                    subst ec_
                    clear en_
                    have p110 : 0 ≤ (x6_4 : Int) := of_decide_eq_true (by first | (with_reducible assumption) | assumption)
                    have q110 : x6_4 < (((rd_T37 l0 x4_1).f7).length : Int) := of_decide_eq_true (by first | (with_reducible assumption) | assumption)
                    obtain ⟨ad110, A110_6, c110_6, e110, hx110_0, hx110_1, hx110_2, hx110_3, hx110_4, hx110_5, hx110_6, hl110_6, hi110_6⟩ := at_T51 HR109_9.out x6_4 p110 q110
                    cases e110
                    have HR110_6 := Aside0.mk hi110_6
                    have HC110_6 := Aside0.mk hl110_6
                    clear hi110_6 hl110_6
                    replace p110 := eq_true p110
                    replace q110 := eq_true q110
                    go_wp2
                    go_ret
                    exact ⟨by first | rfl | (simp; done) | (simp [*]; done), by repeat (first | exact Drawn0.refl _ | apply Drawn0.step)⟩
                   ·
                    rw [if_neg c17] at H
                    have c17b0 : decide (4096 < (((rd_T51 ((rd_T37 l0 x4_1).f7) x6_4).f5).size : Int)) = false := decide_eq_false c17
                    have c17b1 : decide (4096 < ((rd_T51 ((rd_T37 l0 x4_1).f7) x6_4).f5).size) = false := decide_eq_false (by omega)
                    clear c17
                    by_cases c18 : (((rd_T51 ((rd_T37 l0 x4_1).f7) x6_4).f6).length : Int) > 100
                    ·
                     rw [if_pos c18] at H
                     have c18b0 : decide (100 < (((rd_T51 ((rd_T37 l0 x4_1).f7) x6_4).f6).length : Int)) = true := decide_eq_true c18
                     have c18b1 : decide (100 < ((rd_T51 ((rd_T37 l0 x4_1).f7) x6_4).f6).length) = true := decide_eq_true (by omega)
                     clear c18
                     obtain rfl := Option.some.inj H
                     have p108 : 0 ≤ (x4_1 : Int) := of_decide_eq_true (by first | (with_reducible assumption) | assumption)
                     have q108 : x4_1 < (l0.length : Int) := of_decide_eq_true (by first | (with_reducible assumption) | assumption)
                     obtain ⟨ad108, A108_4, c108_4, A108_9, c108_9, e108, hx108_0, hx108_1, hx108_2, hx108_3, hx108_4, hx108_5, hx108_6, hx108_7, hx108_8, hx108_9, hl108_4, hi108_4, hl108_9, hi108_9⟩ := at_T37 HR0.out x4_1 p108 q108
                     obtain rfl : ad103 = ad108 := (by injection e108)
                     have HR108_4 := Aside0.mk hi108_4
                     have HC108_4 := Aside0.mk hl108_4
                     clear hi108_4 hl108_4
                     have HR108_9 := Aside0.mk hi108_9
                     have HC108_9 := Aside0.mk hl108_9
                     clear hi108_9 hl108_9
                     replace p108 := eq_true p108
                     replace q108 := eq_true q108
                     have p109 : 0 ≤ (x4_1 : Int) := of_decide_eq_true (by first | (with_reducible assumption) | assumption)
                     have q109 : x4_1 < (l0.length : Int) := of_decide_eq_true (by first | (with_reducible assumption) | assumption)
                     obtain ⟨ad109, A109_4, c109_4, A109_9, c109_9, e109, hx109_0, hx109_1, hx109_2, hx109_3, hx109_4, hx109_5, hx109_6, hx109_7, hx109_8, hx109_9, hl109_4, hi109_4, hl109_9, hi109_9⟩ := at_T37 HR0.out x4_1 p109 q109
                     obtain rfl : ad103 = ad109 := (by injection e109)
                     have HR109_4 := Aside0.mk hi109_4
                     have HC109_4 := Aside0.mk hl109_4
                     clear hi109_4 hl109_4
                     have HR109_9 := Aside0.mk hi109_9
                     have HC109_9 := Aside0.mk hl109_9
                     clear hi109_9 hl109_9
                     replace p109 := eq_true p109
                     replace q109 := eq_true q109
                     have ea_ := Option.some.inj (hx108_4.symm.trans hx109_4)
                     injection ea_ with ea_ en_ ec_
                     subst ea_
                     subst ec_
                     clear en_
                     have ea_ := Option.some.inj (hx108_9.symm.trans hx109_9)
                     injection ea_ with ea_ en_ ec_
                     subst ea_
                     subst ec_
                     clear en_
                     have p110 : 0 ≤ (x6_4 : Int) := of_decide_eq_true (by first | (with_reducible assumption) | assumption)
                     have q110 : x6_4 < (((rd_T37 l0 x4_1).f7).length : Int) := of_decide_eq_true (by first | (with_reducible assumption) | assumption)
                     obtain ⟨ad110, A110_6, c110_6, e110, hx110_0, hx110_1, hx110_2, hx110_3, hx110_4, hx110_5, hx110_6, hl110_6, hi110_6⟩ := at_T51 HR109_9.out x6_4 p110 q110
                     cases e110
                     have HR110_6 := Aside0.mk hi110_6
                     have HC110_6 := Aside0.mk hl110_6
                     clear hi110_6 hl110_6
                     replace p110 := eq_true p110
                     replace q110 := eq_true q110
                     have p111 : 0 ≤ (x4_1 : Int) := of_decide_eq_true (by first | (with_reducible assumption) | assumption)
                     have q111 : x4_1 < (l0.length : Int) := of_decide_eq_true (by first | (with_reducible assumption) | assumption)
                     obtain ⟨ad111, A111_4, c111_4, A111_9, c111_9, e111, hx111_0, hx111_1, hx111_2, hx111_3, hx111_4, hx111_5, hx111_6, hx111_7, hx111_8, hx111_9, hl111_4, hi111_4, hl111_9, hi111_9⟩ := at_T37 HR0.out x4_1 p111 q111
                     obtain rfl : ad103 = ad111 := (by injection e111)
                     have HR111_4 := Aside0.mk hi111_4
                     have HC111_4 := Aside0.mk hl111_4
                     clear hi111_4 hl111_4
                     have HR111_9 := Aside0.mk hi111_9
                     have HC111_9 := Aside0.mk hl111_9
                     clear hi111_9 hl111_9
                     replace p111 := eq_true p111
                     replace q111 := eq_true q111
                     have ea_ := Option.some.inj (hx108_4.symm.trans hx111_4)
                     injection ea_ with ea_ en_ ec_
                     subst ea_
                     subst ec_
                     clear en_
                     have ea_ := Option.some.inj (hx108_9.symm.trans hx111_9)
                     injection ea_ with ea_ en_ ec_
                     subst ea_
                     subst ec_
                     clear en_
                     have p112 : 0 ≤ (x6_4 : Int) := of_decide_eq_true (by first | (with_reducible assumption) | assumption)
                     have q112 : x6_4 < (((rd_T37 l0 x4_1).f7).length : Int) := of_decide_eq_true (by first | (with_reducible assumption) | assumption)
                     obtain ⟨ad112, A112_6, c112_6, e112, hx112_0, hx112_1, hx112_2, hx112_3, hx112_4, hx112_5, hx112_6, hl112_6, hi112_6⟩ := at_T51 HR111_9.out x6_4 p112 q112
                     cases e112
                     have HR112_6 := Aside0.mk hi112_6
                     have HC112_6 := Aside0.mk hl112_6
                     clear hi112_6 hl112_6
                     replace p112 := eq_true p112
                     replace q112 := eq_true q112
                     go_wp2
                     go_ret
                     exact ⟨by first | rfl | (simp; done) | (simp [*]; done), by repeat (first | exact Drawn0.refl _ | apply Drawn0.step)⟩
                    ·
                     rw [if_neg c18] at H
                     have c18b0 : decide (100 < (((rd_T51 ((rd_T37 l0 x4_1).f7) x6_4).f6).length : Int)) = false := decide_eq_false c18
                     have c18b1 : decide (100 < ((rd_T51 ((rd_T37 l0 x4_1).f7) x6_4).f6).length) = false := decide_eq_false (by omega)
                     clear c18
                     have H' := Aside0.mk H
                     clear H
                     have p108 : 0 ≤ (x4_1 : Int) := of_decide_eq_true (by first | (with_reducible assumption) | assumption)
                     have q108 : x4_1 < (l0.length : Int) := of_decide_eq_true (by first | (with_reducible assumption) | assumption)
                     obtain ⟨ad108, A108_4, c108_4, A108_9, c108_9, e108, hx108_0, hx108_1, hx108_2, hx108_3, hx108_4, hx108_5, hx108_6, hx108_7, hx108_8, hx108_9, hl108_4, hi108_4, hl108_9, hi108_9⟩ := at_T37 HR0.out x4_1 p108 q108
                     obtain rfl : ad103 = ad108 := (by injection e108)
                     have HR108_4 := Aside0.mk hi108_4
                     have HC108_4 := Aside0.mk hl108_4
                     clear hi108_4 hl108_4
                     have HR108_9 := Aside0.mk hi108_9
                     have HC108_9 := Aside0.mk hl108_9
                     clear hi108_9 hl108_9
                     replace p108 := eq_true p108
                     replace q108 := eq_true q108
                     have p109 : 0 ≤ (x4_1 : Int) := of_decide_eq_true (by first | (with_reducible assumption) | assumption)
                     have q109 : x4_1 < (l0.length : Int) := of_decide_eq_true (by first | (with_reducible assumption) | assumption)
                     obtain ⟨ad109, A109_4, c109_4, A109_9, c109_9, e109, hx109_0, hx109_1, hx109_2, hx109_3, hx109_4, hx109_5, hx109_6, hx109_7, hx109_8, hx109_9, hl109_4, hi109_4, hl109_9, hi109_9⟩ := at_T37 HR0.out x4_1 p109 q109
                     obtain rfl : ad103 = ad109 := (by injection e109)
                     have HR109_4 := Aside0.mk hi109_4
                     have HC109_4 := Aside0.mk hl109_4
                     clear hi109_4 hl109_4
                     have HR109_9 := Aside0.mk hi109_9
                     have HC109_9 := Aside0.mk hl109_9
                     clear hi109_9 hl109_9
                     replace p109 := eq_true p109
                     replace q109 := eq_true q109
                     have ea_ := Option.some.inj (hx108_4.symm.trans hx109_4)
                     injection ea_ with ea_ en_ ec_
                     subst ea_
                     subst ec_
                     clear en_
                     have ea_ := Option.some.inj (hx108_9.symm.trans hx109_9)
                     injection ea_ with ea_ en_ ec_
                     subst ea_
                     subst ec_
                     clear en_
                     have p110 : 0 ≤ (x6_4 : Int) := of_decide_eq_true (by first | (with_reducible assumption) | assumption)
                     have q110 : x6_4 < (((rd_T37 l0 x4_1).f7).length : Int) := of_decide_eq_true (by first | (with_reducible assumption) | assumption)
                     obtain ⟨ad110, A110_6, c110_6, e110, hx110_0, hx110_1, hx110_2, hx110_3, hx110_4, hx110_5, hx110_6, hl110_6, hi110_6⟩ := at_T51 HR109_9.out x6_4 p110 q110
                     cases e110
                     have HR110_6 := Aside0.mk hi110_6
                     have HC110_6 := Aside0.mk hl110_6
                     clear hi110_6 hl110_6
                     replace p110 := eq_true p110
                     replace q110 := eq_true q110
                     have p111 : 0 ≤ (x4_1 : Int) := of_decide_eq_true (by first | (with_reducible assumption) | assumption)
                     have q111 : x4_1 < (l0.length : Int) := of_decide_eq_true (by first | (with_reducible assumption) | assumption)
                     obtain ⟨ad111, A111_4, c111_4, A111_9, c111_9, e111, hx111_0, hx111_1, hx111_2, hx111_3, hx111_4, hx111_5, hx111_6, hx111_7, hx111_8, hx111_9, hl111_4, hi111_4, hl111_9, hi111_9⟩ := at_T37 HR0.out x4_1 p111 q111
                     obtain rfl : ad103 = ad111 := (by injection e111)
                     have HR111_4 := Aside0.mk hi111_4
                     have HC111_4 := Aside0.mk hl111_4
                     clear hi111_4 hl111_4
                     have HR111_9 := Aside0.mk hi111_9
                     have HC111_9 := Aside0.mk hl111_9
                     clear hi111_9 hl111_9
                     replace p111 := eq_true p111
                     replace q111 := eq_true q111
                     have ea_ := Option.some.inj (hx108_4.symm.trans hx111_4)
                     injection ea_ with ea_ en_ ec_
                     subst ea_
                     subst ec_
                     clear en_
                     have ea_ := Option.some.inj (hx108_9.symm.trans hx111_9)
                     injection ea_ with ea_ en_ ec_
                     subst ea_
                     subst ec_
                     clear en_
                     have p112 : 0 ≤ (x6_4 : Int) := of_decide_eq_true (by first | (with_reducible assumption) | assumption)
                     have q112 : x6_4 < (((rd_T37 l0 x4_1).f7).length : Int) := of_decide_eq_true (by first | (with_reducible assumption) | assumption)
                     obtain ⟨ad112, A112_6, c112_6, e112, hx112_0, hx112_1, hx112_2, hx112_3, hx112_4, hx112_5, hx112_6, hl112_6, hi112_6⟩ := at_T51 HR111_9.out x6_4 p112 q112
                     cases e112
                     have HR112_6 := Aside0.mk hi112_6
                     have HC112_6 := Aside0.mk hl112_6
                     clear hi112_6 hl112_6
                     replace p112 := eq_true p112
                     replace q112 := eq_true q112
                     have p113 : 0 ≤ (x4_1 : Int) := of_decide_eq_true (by first | (with_reducible assumption) | assumption)
                     have q113 : x4_1 < (l0.length : Int) := of_decide_eq_true (by first | (with_reducible assumption) | assumption)
                     obtain ⟨ad113, A113_4, c113_4, A113_9, c113_9, e113, hx113_0, hx113_1, hx113_2, hx113_3, hx113_4, hx113_5, hx113_6, hx113_7, hx113_8, hx113_9, hl113_4, hi113_4, hl113_9, hi113_9⟩ := at_T37 HR0.out x4_1 p113 q113
                     obtain rfl : ad103 = ad113 := (by injection e113)
                     have HR113_4 := Aside0.mk hi113_4
                     have HC113_4 := Aside0.mk hl113_4
                     clear hi113_4 hl113_4
                     have HR113_9 := Aside0.mk hi113_9
                     have HC113_9 := Aside0.mk hl113_9
                     clear hi113_9 hl113_9
                     replace p113 := eq_true p113
                     replace q113 := eq_true q113
                     have ea_ := Option.some.inj (hx108_4.symm.trans hx113_4)
                     injection ea_ with ea_ en_ ec_
                     subst ea_
                     subst ec_
                     clear en_
                     have ea_ := Option.some.inj (hx108_9.symm.trans hx113_9)
                     injection ea_ with ea_ en_ ec_
                     subst ea_
                     subst ec_
                     clear en_
                     have p114 : 0 ≤ (x6_4 : Int) := of_decide_eq_true (by first | (with_reducible assumption) | assumption)
                     have q114 : x6_4 < (((rd_T37 l0 x4_1).f7).length : Int) := of_decide_eq_true (by first | (with_reducible assumption) | assumption)
                     obtain ⟨ad114, A114_6, c114_6, e114, hx114_0, hx114_1, hx114_2, hx114_3, hx114_4, hx114_5, hx114_6, hl114_6, hi114_6⟩ := at_T51 HR113_9.out x6_4 p114 q114
                     cases e114
                     have HR114_6 := Aside0.mk hi114_6
                     have HC114_6 := Aside0.mk hl114_6
                     clear hi114_6 hl114_6
                     replace p114 := eq_true p114
                     replace q114 := eq_true q114
                     go_wp2
                     go_roundg k4
                     case measure => have := HK1.out; have := HJ3.out; have := HK3.out; have := HK4.out; omega
                     case rel => exact ⟨(wrap64 (x3_4 + (((rd_T51 ((rd_T37 l0 x4_1).f7) x6_4).f5).size : Int))), (wrap64 (x6_4 + 1)), (by first | rfl | (simp; done) | (simp [*]; done)), (by first | rfl | (simp; done) | (simp [*]; done)), H', ⟨by have := HK1.out; have := HJ3.out; have := HK3.out; have := HK4.out; omega⟩, by repeat (first | exact Drawn0.refl _ | apply Drawn0.step)⟩
                  ·
                   rw [if_neg c16] at H
                   exact absurd H (by simp)
                 ·
                  rw [if_neg c15] at H
                  have c15b0 : decide (x6_4 < (((rd_T37 l0 x4_1).f7).length : Int)) = false := decide_eq_false c15
                  clear c15
                  have H' := Aside0.mk H
                  clear H
                  have p108 : 0 ≤ (x4_1 : Int) := of_decide_eq_true (by first | (with_reducible assumption) | assumption)
                  have q108 : x4_1 < (l0.length : Int) := of_decide_eq_true (by first | (with_reducible assumption) | assumption)
                  obtain ⟨ad108, A108_4, c108_4, A108_9, c108_9, e108, hx108_0, hx108_1, hx108_2, hx108_3, hx108_4, hx108_5, hx108_6, hx108_7, hx108_8, hx108_9, hl108_4, hi108_4, hl108_9, hi108_9⟩ := at_T37 HR0.out x4_1 p108 q108
                  obtain rfl : ad103 = ad108 := (by injection e108)
                  have HR108_4 := Aside0.mk hi108_4
                  have HC108_4 := Aside0.mk hl108_4
                  clear hi108_4 hl108_4
                  have HR108_9 := Aside0.mk hi108_9
                  have HC108_9 := Aside0.mk hl108_9
                  clear hi108_9 hl108_9
                  replace p108 := eq_true p108
                  replace q108 := eq_true q108
                  go_wp2
                  go_roundg k4
                  case measure => have := HK1.out; have := HJ3.out; have := HK3.out; have := HK4.out; omega
                  case rel => exact ⟨(x3_4), (wrap64 (x4_1 + 1)), (by first | rfl | (simp; done) | (simp [*]; done)), (by first | rfl | (simp; done) | (simp [*]; done)), H', ⟨by have := HK1.out; have := HJ3.out; have := HK3.out; have := HK4.out; omega⟩, by repeat (first | exact Drawn0.refl _ | apply Drawn0.step)⟩
                ·
                 rw [if_neg c14] at H
                 exact absurd H (by simp)
               ·
                rw [if_neg c13] at H
                exact absurd H (by simp)
           ·
            rw [if_neg c9] at H
            exact absurd H (by simp)
          ·
           rw [if_neg c8] at H
           exact absurd H (by simp)
    ·
     rw [if_neg c3] at H
     have c3b0 : decide (x4_1 < (l0.length : Int)) = false := decide_eq_false c3
     clear c3
     obtain rfl := Option.some.inj H
     go_wp2
     go_ret
     exact ⟨by first | rfl | (simp; done) | (simp [*]; done), by repeat (first | exact Drawn0.refl _ | apply Drawn0.step)⟩
end Go.Proofs.Ytppgbahiolhgbaa.PScriptReads
