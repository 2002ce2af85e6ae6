/- Contracts and plain laws over the seat, laid together (group 23 of what the claim needs). -/
import Derived.Test.YtppgbahiolhgbaaH13
import Derived.Test.YtppgbahiolhgbaaH22
namespace Go.Proofs.Ytppgbahiolhgbaa.PScriptReads
open Go.RowKit Go.Proofs.YtppgbahiolhgbaaW.PrintWords Go.Proofs.YtppgbahiolhgbaaW.PrintLast Go.Proofs.YtppgbahiolhgbaaW.PrintMore
set_option linter.unusedVariables false
set_option linter.unusedSimpArgs false
mutual
def chirographref32_mayStep.j0 : Nat → Bool → Int → Int → Int → Int → Int → ByteArray → List Int → Option (Bool)
 | 0, _, _, _, _, _, _, _, _ => none
 | k + 1, x47, x174000, x174001, x174002, x174003, x174004, x174005, x174006 => if x47 = true then (some false) else (chirographref32_mayStep.l0 k 0 x174000 x174001 x174002 x174003 x174004 x174005 x174006)
def chirographref32_mayStep.l0 : Nat → Int → Int → Int → Int → Int → Int → ByteArray → List Int → Option (Bool)
 | 0, _, _, _, _, _, _, _, _ => none
 | k + 1, x3, x174000, x174001, x174002, x174003, x174004, x174005, x174006 => if x3 < (x174006.length : Int) then (if 0 ≤ x3 then ((chirographref32_num.f (rd x174006 x3)).bind fun t179 => (if t179 = true then (chirographref32_mayStep.l0 k (wrap64 (x3 + 1)) x174000 x174001 x174002 x174003 x174004 x174005 x174006) else (some false))) else (none)) else (some true)
end
def chirographref32_mayStep.f (k : Nat) (a0_0 : Int) (a0_1 : Int) (a0_2 : Int) (a0_3 : Int) (a0_4 : Int) (a0_5 : ByteArray) (l0_6 : List Int) : Option (Bool) := if a0_0 < 1 then (chirographref32_mayStep.j0 k true a0_0 a0_1 a0_2 a0_3 a0_4 a0_5 l0_6) else (if a0_0 > 9 then (chirographref32_mayStep.j0 k true a0_0 a0_1 a0_2 a0_3 a0_4 a0_5 l0_6) else ((chirographref32_num.f a0_1).bind fun t174 => (if t174 = true then ((chirographref32_num.f a0_2).bind fun t175 => (if t175 = true then ((chirographref32_num.f a0_3).bind fun t176 => (if t176 = true then ((chirographref32_num.f a0_4).bind fun t177 => (if t177 = true then (if (a0_5.size : Int) > 1024 then (chirographref32_mayStep.j0 k true a0_0 a0_1 a0_2 a0_3 a0_4 a0_5 l0_6) else (chirographref32_mayStep.j0 k (decide ((l0_6.length : Int) > 32)) a0_0 a0_1 a0_2 a0_3 a0_4 a0_5 l0_6)) else (chirographref32_mayStep.j0 k true a0_0 a0_1 a0_2 a0_3 a0_4 a0_5 l0_6))) else (chirographref32_mayStep.j0 k true a0_0 a0_1 a0_2 a0_3 a0_4 a0_5 l0_6))) else (chirographref32_mayStep.j0 k true a0_0 a0_1 a0_2 a0_3 a0_4 a0_5 l0_6))) else (chirographref32_mayStep.j0 k true a0_0 a0_1 a0_2 a0_3 a0_4 a0_5 l0_6))))
theorem chirographref32_mayStep.mono_l : ∀ k, (∀ y0 y1 y2 y3 y4 y5 y6 y7, LeO (chirographref32_mayStep.j0 k y0 y1 y2 y3 y4 y5 y6 y7) (chirographref32_mayStep.j0 (k + 1) y0 y1 y2 y3 y4 y5 y6 y7)) ∧ (∀ y0 y1 y2 y3 y4 y5 y6 y7, LeO (chirographref32_mayStep.l0 k y0 y1 y2 y3 y4 y5 y6 y7) (chirographref32_mayStep.l0 (k + 1) y0 y1 y2 y3 y4 y5 y6 y7))
 | 0 => ⟨fun _ _ _ _ _ _ _ _ r h => by simp [chirographref32_mayStep.j0] at h, fun _ _ _ _ _ _ _ _ r h => by simp [chirographref32_mayStep.l0] at h⟩
 | k + 1 => by
  obtain ⟨ih0, ih1⟩ := chirographref32_mayStep.mono_l k
  refine ⟨?_, ?_⟩
  ·
   intro y0 y1 y2 y3 y4 y5 y6 y7
   unfold chirographref32_mayStep.j0
   repeat' first
   | (with_reducible exact ih0 _ _ _ _ _ _ _ _)
   | (with_reducible exact ih1 _ _ _ _ _ _ _ _)
   | (with_reducible exact LeO.refl _)
   | (with_reducible exact LeO.none _)
   | (with_reducible refine LeO.ite ?_ ?_)
   | (with_reducible refine LeO.bind ?_ (fun _ => ?_))
   | exact ih0 _ _ _ _ _ _ _ _
   | exact ih1 _ _ _ _ _ _ _ _
   | exact LeO.none _
   | refine LeO.ite ?_ ?_
   | refine LeO.bind ?_ (fun _ => ?_)
  ·
   intro y0 y1 y2 y3 y4 y5 y6 y7
   unfold chirographref32_mayStep.l0
   repeat' first
   | (with_reducible exact ih0 _ _ _ _ _ _ _ _)
   | (with_reducible exact ih1 _ _ _ _ _ _ _ _)
   | (with_reducible exact LeO.refl _)
   | (with_reducible exact LeO.none _)
   | (with_reducible refine LeO.ite ?_ ?_)
   | (with_reducible refine LeO.bind ?_ (fun _ => ?_))
   | exact ih0 _ _ _ _ _ _ _ _
   | exact ih1 _ _ _ _ _ _ _ _
   | exact LeO.none _
   | refine LeO.ite ?_ ?_
   | refine LeO.bind ?_ (fun _ => ?_)
theorem chirographref32_mayStep.mono : ∀ a0 a1 a2 a3 a4 a5 a6 k, LeO (chirographref32_mayStep.f k a0 a1 a2 a3 a4 a5 a6) (chirographref32_mayStep.f (k + 1) a0 a1 a2 a3 a4 a5 a6) := by
 intro a0 a1 a2 a3 a4 a5 a6 k
 obtain ⟨ih0, ih1⟩ := chirographref32_mayStep.mono_l k
 unfold chirographref32_mayStep.f
 repeat' first
   | (with_reducible exact ih0 _ _ _ _ _ _ _ _)
   | (with_reducible exact ih1 _ _ _ _ _ _ _ _)
   | (with_reducible exact LeO.refl _)
   | (with_reducible exact LeO.none _)
   | (with_reducible refine LeO.ite ?_ ?_)
   | (with_reducible refine LeO.bind ?_ (fun _ => ?_))
   | exact ih0 _ _ _ _ _ _ _ _
   | exact ih1 _ _ _ _ _ _ _ _
   | exact LeO.none _
   | refine LeO.ite ?_ ?_
   | refine LeO.bind ?_ (fun _ => ?_)
set_option maxHeartbeats 8000000 in
set_option maxRecDepth 100000 in
theorem chirographref32_mayStep.calls (k : Nat) (a0_0 : Int) (a0_1 : Int) (a0_2 : Int) (a0_3 : Int) (a0_4 : Int) (a0_5 : ByteArray) (A0_6 : Option Addr) (c0_6 : Nat) (l0_6 : List Int) (r : Bool) (w : World) (hr0_6 : Kd.C (Kd.int .i64) w A0_6 l0_6.length l0_6) (hc0_6 : l0_6.length ≤ c0_6) (h : chirographref32_mayStep.f k a0_0 a0_1 a0_2 a0_3 a0_4 a0_5 l0_6 = some r) :
  Calls Try.prog 32 #[.agg #[.int .u8 a0_0, .int .i64 a0_1, .int .i64 a0_2, .int .i64 a0_3, .int .i64 a0_4, .string a0_5, .slice A0_6 l0_6.length c0_6]] w fun e w' => e = .returned (.bool r) ∧ Below w.heap.size w w' := by
 have hu51 := Try.underlying51
 have HR0_6 := Aside0.mk hr0_6
 have HC0_6 := Aside0.mk hc0_6
 clear hr0_6 hc0_6
 have HB := Aside0.mk (Below.refl w.heap.size w)
 have H : (if a0_0 < 1 then (chirographref32_mayStep.j0 k true a0_0 a0_1 a0_2 a0_3 a0_4 a0_5 l0_6) else (if a0_0 > 9 then (chirographref32_mayStep.j0 k true a0_0 a0_1 a0_2 a0_3 a0_4 a0_5 l0_6) else ((chirographref32_num.f a0_1).bind fun t174 => (if t174 = true then ((chirographref32_num.f a0_2).bind fun t175 => (if t175 = true then ((chirographref32_num.f a0_3).bind fun t176 => (if t176 = true then ((chirographref32_num.f a0_4).bind fun t177 => (if t177 = true then (if (a0_5.size : Int) > 1024 then (chirographref32_mayStep.j0 k true a0_0 a0_1 a0_2 a0_3 a0_4 a0_5 l0_6) else (chirographref32_mayStep.j0 k (decide ((l0_6.length : Int) > 32)) a0_0 a0_1 a0_2 a0_3 a0_4 a0_5 l0_6)) else (chirographref32_mayStep.j0 k true a0_0 a0_1 a0_2 a0_3 a0_4 a0_5 l0_6))) else (chirographref32_mayStep.j0 k true a0_0 a0_1 a0_2 a0_3 a0_4 a0_5 l0_6))) else (chirographref32_mayStep.j0 k true a0_0 a0_1 a0_2 a0_3 a0_4 a0_5 l0_6))) else (chirographref32_mayStep.j0 k true a0_0 a0_1 a0_2 a0_3 a0_4 a0_5 l0_6))))) = some r := h
 clear h
 have HC2 := Aside0.mk H
 clear H
 go_enter Try.func32, Try.ntmps32
 go_upto_region 1 with (first | ((with_reducible refine gate_dst (N := 1) rfl ?_); (try (refine gate_guard (by rfl) ?_; dsimp only)); refine box_event ?hg (N := 1) ?hd (cs := #[.int .u8 a0_0, .int .i64 a0_1, .int .i64 a0_2, .int .i64 a0_3, .int .i64 a0_4, .string a0_5, .slice A0_6 l0_6.length c0_6]) (t := 51) ?hr ?_; (case hd => rfl); (case hg => rfl); (case hr => first | (go_simp; done) | (go_simp; rfl)); intro gb173 hg w3 hbox hb; have n0_ := Aside0.mk (below_step (by repeat (first | (with_reducible first | exact HB.out | apply below_alloc | apply pw_below_drewN | apply below_drew1) | exact HB.out)) hb); have n1_ := Aside0.mk (hbox); have n2_ := Aside0.mk ((by rw [hg]; exact (below_size (by repeat (first | (with_reducible first | exact HB.out | apply below_alloc | apply pw_below_drewN | apply below_drew1) | exact HB.out))) : w.heap.size ≤ gb173)); have n3_ := Aside0.mk ((by rw [hg]; exact (below_size (by repeat (first | (with_reducible first | exact HB.out | apply below_alloc | apply pw_below_drewN | apply below_drew1) | exact HB.out))) : w.heap.size ≤ gb173)); clear HB; have HB := n0_; have BK173 := n1_; have GW173 := n2_; have GE173 := n3_; clear n0_ n1_ n2_ n3_; clear hb hbox hg))
 (try simp only [Act.put, List.setIfInBounds_toArray, List.set_cons_zero, List.set_cons_succ])
 go_cut [47] (fun v47 wc => ∃ (kq : Nat) (x47_1 : Bool), v47 = .bool x47_1 ∧ Aside0 (chirographref32_mayStep.j0 kq x47_1 a0_0 a0_1 a0_2 a0_3 a0_4 a0_5 l0_6 = some r) ∧ Aside0 (kq ≤ k) ∧ Aside0 (wc.heap[gb173]? = some (.cells #[.int .u8 a0_0, .int .i64 a0_1, .int .i64 a0_2, .int .i64 a0_3, .int .i64 a0_4, .string a0_5, (.slice A0_6 l0_6.length c0_6)] 51 (0, 0))) ∧ Aside0 (Below w.heap.size w wc))
 case first =>
  have H := HC2.out
  clear HC2
  by_cases c4 : a0_0 < 1
  ·
   rw [if_pos c4] at H
   have c4b0 : decide (a0_0 < 1) = true := decide_eq_true c4
   clear c4
   (first | rw [c4b0] | (simp only [i64_w, i32_w]; rw [c4b0]) | skip)
   have H' := Aside0.mk H
   clear H
   have hcz5_0 : w3.cell? ⟨gb173, 0, none⟩ = some (.int .u8 a0_0) := (blk_cell BK173.out 0).trans rfl
   have hcz5_1 : w3.cell? ⟨gb173, 1, none⟩ = some (.int .i64 a0_1) := (blk_cell BK173.out 1).trans rfl
   have hcz5_2 : w3.cell? ⟨gb173, 2, none⟩ = some (.int .i64 a0_2) := (blk_cell BK173.out 2).trans rfl
   have hcz5_3 : w3.cell? ⟨gb173, 3, none⟩ = some (.int .i64 a0_3) := (blk_cell BK173.out 3).trans rfl
   have hcz5_4 : w3.cell? ⟨gb173, 4, none⟩ = some (.int .i64 a0_4) := (blk_cell BK173.out 4).trans rfl
   have hcz5_5 : w3.cell? ⟨gb173, 5, none⟩ = some (.string a0_5) := (blk_cell BK173.out 5).trans rfl
   have hcz5_6 : w3.cell? ⟨gb173, 6, none⟩ = some (.slice A0_6 l0_6.length c0_6) := (blk_cell BK173.out 6).trans rfl
   have hfz5_0 := blk_frozen BK173.out 0
   have hfz5_1 := blk_frozen BK173.out 1
   have hfz5_2 := blk_frozen BK173.out 2
   have hfz5_3 := blk_frozen BK173.out 3
   have hfz5_4 := blk_frozen BK173.out 4
   have hfz5_5 := blk_frozen BK173.out 5
   have hfz5_6 := blk_frozen BK173.out 6
   go_wp2
   go_meet
   case rel => exact ⟨_, (true), (by first | rfl | (simp; done) | (simp [*]; done)), H', ⟨by first | omega | exact Nat.le_refl _⟩, ⟨by (with_reducible repeat (first | refine blk_drewN ?_ _ | refine blk_drew ?_ | refine blk_alloc ?_ _)); exact BK173.out⟩, ⟨by repeat (first | (with_reducible first | exact HB.out | apply below_alloc | apply pw_below_drewN | apply below_drew1 | refine below_set ?_ GE173.out) | exact HB.out)⟩⟩
  ·
   rw [if_neg c4] at H
   have c4b0 : decide (a0_0 < 1) = false := decide_eq_false c4
   clear c4
   (first | rw [c4b0] | (simp only [i64_w, i32_w]; rw [c4b0]) | skip)
   by_cases c6 : a0_0 > 9
   ·
    rw [if_pos c6] at H
    have c6b0 : decide (9 < a0_0) = true := decide_eq_true c6
    clear c6
    have H' := Aside0.mk H
    clear H
    have hcz7_0 : w3.cell? ⟨gb173, 0, none⟩ = some (.int .u8 a0_0) := (blk_cell BK173.out 0).trans rfl
    have hcz7_1 : w3.cell? ⟨gb173, 1, none⟩ = some (.int .i64 a0_1) := (blk_cell BK173.out 1).trans rfl
    have hcz7_2 : w3.cell? ⟨gb173, 2, none⟩ = some (.int .i64 a0_2) := (blk_cell BK173.out 2).trans rfl
    have hcz7_3 : w3.cell? ⟨gb173, 3, none⟩ = some (.int .i64 a0_3) := (blk_cell BK173.out 3).trans rfl
    have hcz7_4 : w3.cell? ⟨gb173, 4, none⟩ = some (.int .i64 a0_4) := (blk_cell BK173.out 4).trans rfl
    have hcz7_5 : w3.cell? ⟨gb173, 5, none⟩ = some (.string a0_5) := (blk_cell BK173.out 5).trans rfl
    have hcz7_6 : w3.cell? ⟨gb173, 6, none⟩ = some (.slice A0_6 l0_6.length c0_6) := (blk_cell BK173.out 6).trans rfl
    have hfz7_0 := blk_frozen BK173.out 0
    have hfz7_1 := blk_frozen BK173.out 1
    have hfz7_2 := blk_frozen BK173.out 2
    have hfz7_3 := blk_frozen BK173.out 3
    have hfz7_4 := blk_frozen BK173.out 4
    have hfz7_5 := blk_frozen BK173.out 5
    have hfz7_6 := blk_frozen BK173.out 6
    go_wp2
    go_meet
    case rel => exact ⟨_, (true), (by first | rfl | (simp; done) | (simp [*]; done)), H', ⟨by first | omega | exact Nat.le_refl _⟩, ⟨by (with_reducible repeat (first | refine blk_drewN ?_ _ | refine blk_drew ?_ | refine blk_alloc ?_ _)); exact BK173.out⟩, ⟨by repeat (first | (with_reducible first | exact HB.out | apply below_alloc | apply pw_below_drewN | apply below_drew1 | refine below_set ?_ GE173.out) | exact HB.out)⟩⟩
   ·
    rw [if_neg c6] at H
    have c6b0 : decide (9 < a0_0) = false := decide_eq_false c6
    clear c6
    replace H := Option.bind_eq_some_iff.mp H
    obtain ⟨t174, A80, H⟩ := H
    replace H : (if t174 = true then ((chirographref32_num.f a0_2).bind fun t175 => (if t175 = true then ((chirographref32_num.f a0_3).bind fun t176 => (if t176 = true then ((chirographref32_num.f a0_4).bind fun t177 => (if t177 = true then (if (a0_5.size : Int) > 1024 then (chirographref32_mayStep.j0 k true a0_0 a0_1 a0_2 a0_3 a0_4 a0_5 l0_6) else (chirographref32_mayStep.j0 k (decide ((l0_6.length : Int) > 32)) a0_0 a0_1 a0_2 a0_3 a0_4 a0_5 l0_6)) else (chirographref32_mayStep.j0 k true a0_0 a0_1 a0_2 a0_3 a0_4 a0_5 l0_6))) else (chirographref32_mayStep.j0 k true a0_0 a0_1 a0_2 a0_3 a0_4 a0_5 l0_6))) else (chirographref32_mayStep.j0 k true a0_0 a0_1 a0_2 a0_3 a0_4 a0_5 l0_6))) else (chirographref32_mayStep.j0 k true a0_0 a0_1 a0_2 a0_3 a0_4 a0_5 l0_6)) = some r := H
    have A8 := Aside0.mk A80
    clear A80
    by_cases c9 : t174 = true
    ·
     subst c9
     have H1 : ((chirographref32_num.f a0_2).bind fun t175 => (if t175 = true then ((chirographref32_num.f a0_3).bind fun t176 => (if t176 = true then ((chirographref32_num.f a0_4).bind fun t177 => (if t177 = true then (if (a0_5.size : Int) > 1024 then (chirographref32_mayStep.j0 k true a0_0 a0_1 a0_2 a0_3 a0_4 a0_5 l0_6) else (chirographref32_mayStep.j0 k (decide ((l0_6.length : Int) > 32)) a0_0 a0_1 a0_2 a0_3 a0_4 a0_5 l0_6)) else (chirographref32_mayStep.j0 k true a0_0 a0_1 a0_2 a0_3 a0_4 a0_5 l0_6))) else (chirographref32_mayStep.j0 k true a0_0 a0_1 a0_2 a0_3 a0_4 a0_5 l0_6))) else (chirographref32_mayStep.j0 k true a0_0 a0_1 a0_2 a0_3 a0_4 a0_5 l0_6))) = some r := by rw [if_pos rfl] at H; exact H
     clear H
     have H := H1
     clear H1
     replace H := Option.bind_eq_some_iff.mp H
     obtain ⟨t175, A100, H⟩ := H
     replace H : (if t175 = true then ((chirographref32_num.f a0_3).bind fun t176 => (if t176 = true then ((chirographref32_num.f a0_4).bind fun t177 => (if t177 = true then (if (a0_5.size : Int) > 1024 then (chirographref32_mayStep.j0 k true a0_0 a0_1 a0_2 a0_3 a0_4 a0_5 l0_6) else (chirographref32_mayStep.j0 k (decide ((l0_6.length : Int) > 32)) a0_0 a0_1 a0_2 a0_3 a0_4 a0_5 l0_6)) else (chirographref32_mayStep.j0 k true a0_0 a0_1 a0_2 a0_3 a0_4 a0_5 l0_6))) else (chirographref32_mayStep.j0 k true a0_0 a0_1 a0_2 a0_3 a0_4 a0_5 l0_6))) else (chirographref32_mayStep.j0 k true a0_0 a0_1 a0_2 a0_3 a0_4 a0_5 l0_6)) = some r := H
     have A10 := Aside0.mk A100
     clear A100
     by_cases c11 : t175 = true
     ·
      subst c11
      have H1 : ((chirographref32_num.f a0_3).bind fun t176 => (if t176 = true then ((chirographref32_num.f a0_4).bind fun t177 => (if t177 = true then (if (a0_5.size : Int) > 1024 then (chirographref32_mayStep.j0 k true a0_0 a0_1 a0_2 a0_3 a0_4 a0_5 l0_6) else (chirographref32_mayStep.j0 k (decide ((l0_6.length : Int) > 32)) a0_0 a0_1 a0_2 a0_3 a0_4 a0_5 l0_6)) else (chirographref32_mayStep.j0 k true a0_0 a0_1 a0_2 a0_3 a0_4 a0_5 l0_6))) else (chirographref32_mayStep.j0 k true a0_0 a0_1 a0_2 a0_3 a0_4 a0_5 l0_6))) = some r := by rw [if_pos rfl] at H; exact H
      clear H
      have H := H1
      clear H1
      replace H := Option.bind_eq_some_iff.mp H
      obtain ⟨t176, A120, H⟩ := H
      replace H : (if t176 = true then ((chirographref32_num.f a0_4).bind fun t177 => (if t177 = true then (if (a0_5.size : Int) > 1024 then (chirographref32_mayStep.j0 k true a0_0 a0_1 a0_2 a0_3 a0_4 a0_5 l0_6) else (chirographref32_mayStep.j0 k (decide ((l0_6.length : Int) > 32)) a0_0 a0_1 a0_2 a0_3 a0_4 a0_5 l0_6)) else (chirographref32_mayStep.j0 k true a0_0 a0_1 a0_2 a0_3 a0_4 a0_5 l0_6))) else (chirographref32_mayStep.j0 k true a0_0 a0_1 a0_2 a0_3 a0_4 a0_5 l0_6)) = some r := H
      have A12 := Aside0.mk A120
      clear A120
      by_cases c13 : t176 = true
      ·
       subst c13
       have H1 : ((chirographref32_num.f a0_4).bind fun t177 => (if t177 = true then (if (a0_5.size : Int) > 1024 then (chirographref32_mayStep.j0 k true a0_0 a0_1 a0_2 a0_3 a0_4 a0_5 l0_6) else (chirographref32_mayStep.j0 k (decide ((l0_6.length : Int) > 32)) a0_0 a0_1 a0_2 a0_3 a0_4 a0_5 l0_6)) else (chirographref32_mayStep.j0 k true a0_0 a0_1 a0_2 a0_3 a0_4 a0_5 l0_6))) = some r := by rw [if_pos rfl] at H; exact H
       clear H
       have H := H1
       clear H1
       replace H := Option.bind_eq_some_iff.mp H
       obtain ⟨t177, A140, H⟩ := H
       replace H : (if t177 = true then (if (a0_5.size : Int) > 1024 then (chirographref32_mayStep.j0 k true a0_0 a0_1 a0_2 a0_3 a0_4 a0_5 l0_6) else (chirographref32_mayStep.j0 k (decide ((l0_6.length : Int) > 32)) a0_0 a0_1 a0_2 a0_3 a0_4 a0_5 l0_6)) else (chirographref32_mayStep.j0 k true a0_0 a0_1 a0_2 a0_3 a0_4 a0_5 l0_6)) = some r := H
       have A14 := Aside0.mk A140
       clear A140
       by_cases c15 : t177 = true
       ·
        subst c15
        have H1 : (if (a0_5.size : Int) > 1024 then (chirographref32_mayStep.j0 k true a0_0 a0_1 a0_2 a0_3 a0_4 a0_5 l0_6) else (chirographref32_mayStep.j0 k (decide ((l0_6.length : Int) > 32)) a0_0 a0_1 a0_2 a0_3 a0_4 a0_5 l0_6)) = some r := by rw [if_pos rfl] at H; exact H
        clear H
        have H := H1
        clear H1
        by_cases c16 : (a0_5.size : Int) > 1024
        ·
         rw [if_pos c16] at H
         have c16b0 : decide (1024 < (a0_5.size : Int)) = true := decide_eq_true c16
         have c16b1 : decide (1024 < a0_5.size) = true := decide_eq_true (by omega)
         clear c16
         have H' := Aside0.mk H
         clear H
         have hcz17_0 : w3.cell? ⟨gb173, 0, none⟩ = some (.int .u8 a0_0) := (blk_cell BK173.out 0).trans rfl
         have hcz17_1 : w3.cell? ⟨gb173, 1, none⟩ = some (.int .i64 a0_1) := (blk_cell BK173.out 1).trans rfl
         have hcz17_2 : w3.cell? ⟨gb173, 2, none⟩ = some (.int .i64 a0_2) := (blk_cell BK173.out 2).trans rfl
         have hcz17_3 : w3.cell? ⟨gb173, 3, none⟩ = some (.int .i64 a0_3) := (blk_cell BK173.out 3).trans rfl
         have hcz17_4 : w3.cell? ⟨gb173, 4, none⟩ = some (.int .i64 a0_4) := (blk_cell BK173.out 4).trans rfl
         have hcz17_5 : w3.cell? ⟨gb173, 5, none⟩ = some (.string a0_5) := (blk_cell BK173.out 5).trans rfl
         have hcz17_6 : w3.cell? ⟨gb173, 6, none⟩ = some (.slice A0_6 l0_6.length c0_6) := (blk_cell BK173.out 6).trans rfl
         have hfz17_0 := blk_frozen BK173.out 0
         have hfz17_1 := blk_frozen BK173.out 1
         have hfz17_2 := blk_frozen BK173.out 2
         have hfz17_3 := blk_frozen BK173.out 3
         have hfz17_4 := blk_frozen BK173.out 4
         have hfz17_5 := blk_frozen BK173.out 5
         have hfz17_6 := blk_frozen BK173.out 6
         go_wp2_with (first | (go_at_call 29; (with_reducible refine (chirographref32_num.calls a0_1 true _ A8.out).mono ?_); rintro e w' ⟨rfl, ⟨nd, rfl⟩⟩) | (go_at_call 29; (with_reducible refine (chirographref32_num.calls a0_2 true _ A10.out).mono ?_); rintro e w' ⟨rfl, ⟨nd, rfl⟩⟩) | (go_at_call 29; (with_reducible refine (chirographref32_num.calls a0_3 true _ A12.out).mono ?_); rintro e w' ⟨rfl, ⟨nd, rfl⟩⟩) | (go_at_call 29; (with_reducible refine (chirographref32_num.calls a0_4 true _ A14.out).mono ?_); rintro e w' ⟨rfl, ⟨nd, rfl⟩⟩))
         go_meet
         case rel => exact ⟨_, (true), (by first | rfl | (simp; done) | (simp [*]; done)), H', ⟨by first | omega | exact Nat.le_refl _⟩, ⟨by (with_reducible repeat (first | refine blk_drewN ?_ _ | refine blk_drew ?_ | refine blk_alloc ?_ _)); exact BK173.out⟩, ⟨by repeat (first | (with_reducible first | exact HB.out | apply below_alloc | apply pw_below_drewN | apply below_drew1 | refine below_set ?_ GE173.out) | exact HB.out)⟩⟩
        ·
         rw [if_neg c16] at H
         have c16b0 : decide (1024 < (a0_5.size : Int)) = false := decide_eq_false c16
         have c16b1 : decide (1024 < a0_5.size) = false := decide_eq_false (by omega)
         clear c16
         have H' := Aside0.mk H
         clear H
         have hcz18_0 : w3.cell? ⟨gb173, 0, none⟩ = some (.int .u8 a0_0) := (blk_cell BK173.out 0).trans rfl
         have hcz18_1 : w3.cell? ⟨gb173, 1, none⟩ = some (.int .i64 a0_1) := (blk_cell BK173.out 1).trans rfl
         have hcz18_2 : w3.cell? ⟨gb173, 2, none⟩ = some (.int .i64 a0_2) := (blk_cell BK173.out 2).trans rfl
         have hcz18_3 : w3.cell? ⟨gb173, 3, none⟩ = some (.int .i64 a0_3) := (blk_cell BK173.out 3).trans rfl
         have hcz18_4 : w3.cell? ⟨gb173, 4, none⟩ = some (.int .i64 a0_4) := (blk_cell BK173.out 4).trans rfl
         have hcz18_5 : w3.cell? ⟨gb173, 5, none⟩ = some (.string a0_5) := (blk_cell BK173.out 5).trans rfl
         have hcz18_6 : w3.cell? ⟨gb173, 6, none⟩ = some (.slice A0_6 l0_6.length c0_6) := (blk_cell BK173.out 6).trans rfl
         have hfz18_0 := blk_frozen BK173.out 0
         have hfz18_1 := blk_frozen BK173.out 1
         have hfz18_2 := blk_frozen BK173.out 2
         have hfz18_3 := blk_frozen BK173.out 3
         have hfz18_4 := blk_frozen BK173.out 4
         have hfz18_5 := blk_frozen BK173.out 5
         have hfz18_6 := blk_frozen BK173.out 6
         go_wp2_with (first | (go_at_call 29; (with_reducible refine (chirographref32_num.calls a0_1 true _ A8.out).mono ?_); rintro e w' ⟨rfl, ⟨nd, rfl⟩⟩) | (go_at_call 29; (with_reducible refine (chirographref32_num.calls a0_2 true _ A10.out).mono ?_); rintro e w' ⟨rfl, ⟨nd, rfl⟩⟩) | (go_at_call 29; (with_reducible refine (chirographref32_num.calls a0_3 true _ A12.out).mono ?_); rintro e w' ⟨rfl, ⟨nd, rfl⟩⟩) | (go_at_call 29; (with_reducible refine (chirographref32_num.calls a0_4 true _ A14.out).mono ?_); rintro e w' ⟨rfl, ⟨nd, rfl⟩⟩))
         go_meet
         case rel => exact ⟨_, (decide ((l0_6.length : Int) > 32)), (by first | rfl | (simp; done) | (simp [*]; done)), H', ⟨by first | omega | exact Nat.le_refl _⟩, ⟨by (with_reducible repeat (first | refine blk_drewN ?_ _ | refine blk_drew ?_ | refine blk_alloc ?_ _)); exact BK173.out⟩, ⟨by repeat (first | (with_reducible first | exact HB.out | apply below_alloc | apply pw_below_drewN | apply below_drew1 | refine below_set ?_ GE173.out) | exact HB.out)⟩⟩
       ·
        replace c15 := Bool.eq_false_iff.mpr c15
        subst c15
        have H1 : (chirographref32_mayStep.j0 k true a0_0 a0_1 a0_2 a0_3 a0_4 a0_5 l0_6) = some r := by rw [if_neg (show ¬ (false = true) by decide)] at H; exact H
        clear H
        have H := H1
        clear H1
        have H' := Aside0.mk H
        clear H
        have hcz19_0 : w3.cell? ⟨gb173, 0, none⟩ = some (.int .u8 a0_0) := (blk_cell BK173.out 0).trans rfl
        have hcz19_1 : w3.cell? ⟨gb173, 1, none⟩ = some (.int .i64 a0_1) := (blk_cell BK173.out 1).trans rfl
        have hcz19_2 : w3.cell? ⟨gb173, 2, none⟩ = some (.int .i64 a0_2) := (blk_cell BK173.out 2).trans rfl
        have hcz19_3 : w3.cell? ⟨gb173, 3, none⟩ = some (.int .i64 a0_3) := (blk_cell BK173.out 3).trans rfl
        have hcz19_4 : w3.cell? ⟨gb173, 4, none⟩ = some (.int .i64 a0_4) := (blk_cell BK173.out 4).trans rfl
        have hcz19_5 : w3.cell? ⟨gb173, 5, none⟩ = some (.string a0_5) := (blk_cell BK173.out 5).trans rfl
        have hcz19_6 : w3.cell? ⟨gb173, 6, none⟩ = some (.slice A0_6 l0_6.length c0_6) := (blk_cell BK173.out 6).trans rfl
        have hfz19_0 := blk_frozen BK173.out 0
        have hfz19_1 := blk_frozen BK173.out 1
        have hfz19_2 := blk_frozen BK173.out 2
        have hfz19_3 := blk_frozen BK173.out 3
        have hfz19_4 := blk_frozen BK173.out 4
        have hfz19_5 := blk_frozen BK173.out 5
        have hfz19_6 := blk_frozen BK173.out 6
        go_wp2_with (first | (go_at_call 29; (with_reducible refine (chirographref32_num.calls a0_1 true _ A8.out).mono ?_); rintro e w' ⟨rfl, ⟨nd, rfl⟩⟩) | (go_at_call 29; (with_reducible refine (chirographref32_num.calls a0_2 true _ A10.out).mono ?_); rintro e w' ⟨rfl, ⟨nd, rfl⟩⟩) | (go_at_call 29; (with_reducible refine (chirographref32_num.calls a0_3 true _ A12.out).mono ?_); rintro e w' ⟨rfl, ⟨nd, rfl⟩⟩) | (go_at_call 29; (with_reducible refine (chirographref32_num.calls a0_4 false _ A14.out).mono ?_); rintro e w' ⟨rfl, ⟨nd, rfl⟩⟩))
        go_meet
        case rel => exact ⟨_, (true), (by first | rfl | (simp; done) | (simp [*]; done)), H', ⟨by first | omega | exact Nat.le_refl _⟩, ⟨by (with_reducible repeat (first | refine blk_drewN ?_ _ | refine blk_drew ?_ | refine blk_alloc ?_ _)); exact BK173.out⟩, ⟨by repeat (first | (with_reducible first | exact HB.out | apply below_alloc | apply pw_below_drewN | apply below_drew1 | refine below_set ?_ GE173.out) | exact HB.out)⟩⟩
      ·
       replace c13 := Bool.eq_false_iff.mpr c13
       subst c13
       have H1 : (chirographref32_mayStep.j0 k true a0_0 a0_1 a0_2 a0_3 a0_4 a0_5 l0_6) = some r := by rw [if_neg (show ¬ (false = true) by decide)] at H; exact H
       clear H
       have H := H1
       clear H1
       have H' := Aside0.mk H
       clear H
       have hcz20_0 : w3.cell? ⟨gb173, 0, none⟩ = some (.int .u8 a0_0) := (blk_cell BK173.out 0).trans rfl
       have hcz20_1 : w3.cell? ⟨gb173, 1, none⟩ = some (.int .i64 a0_1) := (blk_cell BK173.out 1).trans rfl
       have hcz20_2 : w3.cell? ⟨gb173, 2, none⟩ = some (.int .i64 a0_2) := (blk_cell BK173.out 2).trans rfl
       have hcz20_3 : w3.cell? ⟨gb173, 3, none⟩ = some (.int .i64 a0_3) := (blk_cell BK173.out 3).trans rfl
       have hcz20_4 : w3.cell? ⟨gb173, 4, none⟩ = some (.int .i64 a0_4) := (blk_cell BK173.out 4).trans rfl
       have hcz20_5 : w3.cell? ⟨gb173, 5, none⟩ = some (.string a0_5) := (blk_cell BK173.out 5).trans rfl
       have hcz20_6 : w3.cell? ⟨gb173, 6, none⟩ = some (.slice A0_6 l0_6.length c0_6) := (blk_cell BK173.out 6).trans rfl
       have hfz20_0 := blk_frozen BK173.out 0
       have hfz20_1 := blk_frozen BK173.out 1
       have hfz20_2 := blk_frozen BK173.out 2
       have hfz20_3 := blk_frozen BK173.out 3
       have hfz20_4 := blk_frozen BK173.out 4
       have hfz20_5 := blk_frozen BK173.out 5
       have hfz20_6 := blk_frozen BK173.out 6
       go_wp2_with (first | (go_at_call 29; (with_reducible refine (chirographref32_num.calls a0_1 true _ A8.out).mono ?_); rintro e w' ⟨rfl, ⟨nd, rfl⟩⟩) | (go_at_call 29; (with_reducible refine (chirographref32_num.calls a0_2 true _ A10.out).mono ?_); rintro e w' ⟨rfl, ⟨nd, rfl⟩⟩) | (go_at_call 29; (with_reducible refine (chirographref32_num.calls a0_3 false _ A12.out).mono ?_); rintro e w' ⟨rfl, ⟨nd, rfl⟩⟩))
       go_meet
       case rel => exact ⟨_, (true), (by first | rfl | (simp; done) | (simp [*]; done)), H', ⟨by first | omega | exact Nat.le_refl _⟩, ⟨by (with_reducible repeat (first | refine blk_drewN ?_ _ | refine blk_drew ?_ | refine blk_alloc ?_ _)); exact BK173.out⟩, ⟨by repeat (first | (with_reducible first | exact HB.out | apply below_alloc | apply pw_below_drewN | apply below_drew1 | refine below_set ?_ GE173.out) | exact HB.out)⟩⟩
     ·
      replace c11 := Bool.eq_false_iff.mpr c11
      subst c11
      have H1 : (chirographref32_mayStep.j0 k true a0_0 a0_1 a0_2 a0_3 a0_4 a0_5 l0_6) = some r := by rw [if_neg (show ¬ (false = true) by decide)] at H; exact H
      clear H
      have H := H1
      clear H1
      have H' := Aside0.mk H
      clear H
      have hcz21_0 : w3.cell? ⟨gb173, 0, none⟩ = some (.int .u8 a0_0) := (blk_cell BK173.out 0).trans rfl
      have hcz21_1 : w3.cell? ⟨gb173, 1, none⟩ = some (.int .i64 a0_1) := (blk_cell BK173.out 1).trans rfl
      have hcz21_2 : w3.cell? ⟨gb173, 2, none⟩ = some (.int .i64 a0_2) := (blk_cell BK173.out 2).trans rfl
      have hcz21_3 : w3.cell? ⟨gb173, 3, none⟩ = some (.int .i64 a0_3) := (blk_cell BK173.out 3).trans rfl
      have hcz21_4 : w3.cell? ⟨gb173, 4, none⟩ = some (.int .i64 a0_4) := (blk_cell BK173.out 4).trans rfl
      have hcz21_5 : w3.cell? ⟨gb173, 5, none⟩ = some (.string a0_5) := (blk_cell BK173.out 5).trans rfl
      have hcz21_6 : w3.cell? ⟨gb173, 6, none⟩ = some (.slice A0_6 l0_6.length c0_6) := (blk_cell BK173.out 6).trans rfl
      have hfz21_0 := blk_frozen BK173.out 0
      have hfz21_1 := blk_frozen BK173.out 1
      have hfz21_2 := blk_frozen BK173.out 2
      have hfz21_3 := blk_frozen BK173.out 3
      have hfz21_4 := blk_frozen BK173.out 4
      have hfz21_5 := blk_frozen BK173.out 5
      have hfz21_6 := blk_frozen BK173.out 6
      go_wp2_with (first | (go_at_call 29; (with_reducible refine (chirographref32_num.calls a0_1 true _ A8.out).mono ?_); rintro e w' ⟨rfl, ⟨nd, rfl⟩⟩) | (go_at_call 29; (with_reducible refine (chirographref32_num.calls a0_2 false _ A10.out).mono ?_); rintro e w' ⟨rfl, ⟨nd, rfl⟩⟩))
      go_meet
      case rel => exact ⟨_, (true), (by first | rfl | (simp; done) | (simp [*]; done)), H', ⟨by first | omega | exact Nat.le_refl _⟩, ⟨by (with_reducible repeat (first | refine blk_drewN ?_ _ | refine blk_drew ?_ | refine blk_alloc ?_ _)); exact BK173.out⟩, ⟨by repeat (first | (with_reducible first | exact HB.out | apply below_alloc | apply pw_below_drewN | apply below_drew1 | refine below_set ?_ GE173.out) | exact HB.out)⟩⟩
    ·
     replace c9 := Bool.eq_false_iff.mpr c9
     subst c9
     have H1 : (chirographref32_mayStep.j0 k true a0_0 a0_1 a0_2 a0_3 a0_4 a0_5 l0_6) = some r := by rw [if_neg (show ¬ (false = true) by decide)] at H; exact H
     clear H
     have H := H1
     clear H1
     have H' := Aside0.mk H
     clear H
     have hcz22_0 : w3.cell? ⟨gb173, 0, none⟩ = some (.int .u8 a0_0) := (blk_cell BK173.out 0).trans rfl
     have hcz22_1 : w3.cell? ⟨gb173, 1, none⟩ = some (.int .i64 a0_1) := (blk_cell BK173.out 1).trans rfl
     have hcz22_2 : w3.cell? ⟨gb173, 2, none⟩ = some (.int .i64 a0_2) := (blk_cell BK173.out 2).trans rfl
     have hcz22_3 : w3.cell? ⟨gb173, 3, none⟩ = some (.int .i64 a0_3) := (blk_cell BK173.out 3).trans rfl
     have hcz22_4 : w3.cell? ⟨gb173, 4, none⟩ = some (.int .i64 a0_4) := (blk_cell BK173.out 4).trans rfl
     have hcz22_5 : w3.cell? ⟨gb173, 5, none⟩ = some (.string a0_5) := (blk_cell BK173.out 5).trans rfl
     have hcz22_6 : w3.cell? ⟨gb173, 6, none⟩ = some (.slice A0_6 l0_6.length c0_6) := (blk_cell BK173.out 6).trans rfl
     have hfz22_0 := blk_frozen BK173.out 0
     have hfz22_1 := blk_frozen BK173.out 1
     have hfz22_2 := blk_frozen BK173.out 2
     have hfz22_3 := blk_frozen BK173.out 3
     have hfz22_4 := blk_frozen BK173.out 4
     have hfz22_5 := blk_frozen BK173.out 5
     have hfz22_6 := blk_frozen BK173.out 6
     go_wp2_with (first | (go_at_call 29; (with_reducible refine (chirographref32_num.calls a0_1 false _ A8.out).mono ?_); rintro e w' ⟨rfl, ⟨nd, rfl⟩⟩))
     go_meet
     case rel => exact ⟨_, (true), (by first | rfl | (simp; done) | (simp [*]; done)), H', ⟨by first | omega | exact Nat.le_refl _⟩, ⟨by (with_reducible repeat (first | refine blk_drewN ?_ _ | refine blk_drew ?_ | refine blk_alloc ?_ _)); exact BK173.out⟩, ⟨by repeat (first | (with_reducible first | exact HB.out | apply below_alloc | apply pw_below_drewN | apply below_drew1 | refine below_set ?_ GE173.out) | exact HB.out)⟩⟩
 case rest =>
  clear HC2
  try clear c1
  try clear p2
  try clear c3
  try clear c4
  try clear c4b0
  try clear c6
  try clear c6b0
  try clear c9
  try clear c11
  try clear c13
  try clear c15
  try clear c16
  try clear c16b0
  try clear c16b1
  try clear hcz17_0
  try clear hcz17_1
  try clear hcz17_2
  try clear hcz17_3
  try clear hcz17_4
  try clear hcz17_5
  try clear hcz17_6
  try clear hcz18_0
  try clear hcz18_1
  try clear hcz18_2
  try clear hcz18_3
  try clear hcz18_4
  try clear hcz18_5
  try clear hcz18_6
  try clear hcz19_0
  try clear hcz19_1
  try clear hcz19_2
  try clear hcz19_3
  try clear hcz19_4
  try clear hcz19_5
  try clear hcz19_6
  try clear hcz20_0
  try clear hcz20_1
  try clear hcz20_2
  try clear hcz20_3
  try clear hcz20_4
  try clear hcz20_5
  try clear hcz20_6
  try clear hcz21_0
  try clear hcz21_1
  try clear hcz21_2
  try clear hcz21_3
  try clear hcz21_4
  try clear hcz21_5
  try clear hcz21_6
  try clear hcz22_0
  try clear hcz22_1
  try clear hcz22_2
  try clear hcz22_3
  try clear hcz22_4
  try clear hcz22_5
  try clear hcz22_6
  try clear hcz5_0
  try clear hcz5_1
  try clear hcz5_2
  try clear hcz5_3
  try clear hcz5_4
  try clear hcz5_5
  try clear hcz5_6
  try clear hcz7_0
  try clear hcz7_1
  try clear hcz7_2
  try clear hcz7_3
  try clear hcz7_4
  try clear hcz7_5
  try clear hcz7_6
  try clear hfz17_0
  try clear hfz17_1
  try clear hfz17_2
  try clear hfz17_3
  try clear hfz17_4
  try clear hfz17_5
  try clear hfz17_6
  try clear hfz18_0
  try clear hfz18_1
  try clear hfz18_2
  try clear hfz18_3
  try clear hfz18_4
  try clear hfz18_5
  try clear hfz18_6
  try clear hfz19_0
  try clear hfz19_1
  try clear hfz19_2
  try clear hfz19_3
  try clear hfz19_4
  try clear hfz19_5
  try clear hfz19_6
  try clear hfz20_0
  try clear hfz20_1
  try clear hfz20_2
  try clear hfz20_3
  try clear hfz20_4
  try clear hfz20_5
  try clear hfz20_6
  try clear hfz21_0
  try clear hfz21_1
  try clear hfz21_2
  try clear hfz21_3
  try clear hfz21_4
  try clear hfz21_5
  try clear hfz21_6
  try clear hfz22_0
  try clear hfz22_1
  try clear hfz22_2
  try clear hfz22_3
  try clear hfz22_4
  try clear hfz22_5
  try clear hfz22_6
  try clear hfz5_0
  try clear hfz5_1
  try clear hfz5_2
  try clear hfz5_3
  try clear hfz5_4
  try clear hfz5_5
  try clear hfz5_6
  try clear hfz7_0
  try clear hfz7_1
  try clear hfz7_2
  try clear hfz7_3
  try clear hfz7_4
  try clear hfz7_5
  try clear hfz7_6
  obtain ⟨kq, x47_1, rfl, HA, HJ1, BK173, HB⟩ := hcut
  cases kq with
  | zero => exact absurd HA.out (by simp [chirographref32_mayStep.j0])
  | succ kj1 =>
   have H := HA.out
   clear HA
   simp only [chirographref32_mayStep.j0] at H
   by_cases c23 : x47_1 = true
   ·
    subst c23
    have H1 : (some false) = some r := by rw [if_pos rfl] at H; exact H
    clear H
    have H := H1
    clear H1
    obtain rfl := Option.some.inj H
    go_wp2
    go_ret
    exact ⟨by first | rfl | (simp [errW_none, errW_some] <;> rfl) | (simp [*, errW_none, errW_some] <;> rfl), by repeat (first | (with_reducible first | exact HB.out | apply below_alloc | apply pw_below_drewN | apply below_drew1 | refine below_set ?_ GE173.out) | exact HB.out)⟩
   ·
    replace c23 := Bool.eq_false_iff.mpr c23
    subst c23
    have H1 : (chirographref32_mayStep.l0 kj1 0 a0_0 a0_1 a0_2 a0_3 a0_4 a0_5 l0_6) = some r := by rw [if_neg (show ¬ (false = true) by decide)] at H; exact H
    clear H
    have H := H1
    clear H1
    have H' := Aside0.mk H
    clear H
    go_wp2
    go_loopg [3] kj1 (fun kq v3 w' => ∃ (x3_2 : Int), v3 = .int .i64 x3_2 ∧ Aside0 (chirographref32_mayStep.l0 kq x3_2 a0_0 a0_1 a0_2 a0_3 a0_4 a0_5 l0_6 = some r) ∧ Aside0 (kq ≤ kj1) ∧ Aside0 (w'.heap[gb173]? = some (.cells #[.int .u8 a0_0, .int .i64 a0_1, .int .i64 a0_2, .int .i64 a0_3, .int .i64 a0_4, .string a0_5, (.slice A0_6 l0_6.length c0_6)] 51 (0, 0))) ∧ Aside0 (Below w.heap.size w w'))
    case atStart => exact ⟨(0), (by first | rfl | (simp; done) | (simp [*]; done)), H', ⟨Nat.le_refl _⟩, ⟨by (with_reducible repeat (first | refine blk_drewN ?_ _ | refine blk_drew ?_ | refine blk_alloc ?_ _)); exact BK173.out⟩, ⟨by repeat (first | (with_reducible first | exact HB.out | apply below_alloc | apply pw_below_drewN | apply below_drew1 | refine below_set ?_ GE173.out) | exact HB.out)⟩⟩
    case round =>
     clear H'
     try clear c1
     try clear c2
     try clear p2
     try clear c3
     try clear c4
     try clear c4b0
     try clear c6
     try clear c6b0
     try clear c9
     try clear c11
     try clear c13
     try clear c15
     try clear c16
     try clear c16b0
     try clear c16b1
     try clear c23
     try clear hcz17_0
     try clear hcz17_1
     try clear hcz17_2
     try clear hcz17_3
     try clear hcz17_4
     try clear hcz17_5
     try clear hcz17_6
     try clear hcz18_0
     try clear hcz18_1
     try clear hcz18_2
     try clear hcz18_3
     try clear hcz18_4
     try clear hcz18_5
     try clear hcz18_6
     try clear hcz19_0
     try clear hcz19_1
     try clear hcz19_2
     try clear hcz19_3
     try clear hcz19_4
     try clear hcz19_5
     try clear hcz19_6
     try clear hcz20_0
     try clear hcz20_1
     try clear hcz20_2
     try clear hcz20_3
     try clear hcz20_4
     try clear hcz20_5
     try clear hcz20_6
     try clear hcz21_0
     try clear hcz21_1
     try clear hcz21_2
     try clear hcz21_3
     try clear hcz21_4
     try clear hcz21_5
     try clear hcz21_6
     try clear hcz22_0
     try clear hcz22_1
     try clear hcz22_2
     try clear hcz22_3
     try clear hcz22_4
     try clear hcz22_5
     try clear hcz22_6
     try clear hcz5_0
     try clear hcz5_1
     try clear hcz5_2
     try clear hcz5_3
     try clear hcz5_4
     try clear hcz5_5
     try clear hcz5_6
     try clear hcz7_0
     try clear hcz7_1
     try clear hcz7_2
     try clear hcz7_3
     try clear hcz7_4
     try clear hcz7_5
     try clear hcz7_6
     try clear hfz17_0
     try clear hfz17_1
     try clear hfz17_2
     try clear hfz17_3
     try clear hfz17_4
     try clear hfz17_5
     try clear hfz17_6
     try clear hfz18_0
     try clear hfz18_1
     try clear hfz18_2
     try clear hfz18_3
     try clear hfz18_4
     try clear hfz18_5
     try clear hfz18_6
     try clear hfz19_0
     try clear hfz19_1
     try clear hfz19_2
     try clear hfz19_3
     try clear hfz19_4
     try clear hfz19_5
     try clear hfz19_6
     try clear hfz20_0
     try clear hfz20_1
     try clear hfz20_2
     try clear hfz20_3
     try clear hfz20_4
     try clear hfz20_5
     try clear hfz20_6
     try clear hfz21_0
     try clear hfz21_1
     try clear hfz21_2
     try clear hfz21_3
     try clear hfz21_4
     try clear hfz21_5
     try clear hfz21_6
     try clear hfz22_0
     try clear hfz22_1
     try clear hfz22_2
     try clear hfz22_3
     try clear hfz22_4
     try clear hfz22_5
     try clear hfz22_6
     try clear hfz5_0
     try clear hfz5_1
     try clear hfz5_2
     try clear hfz5_3
     try clear hfz5_4
     try clear hfz5_5
     try clear hfz5_6
     try clear hfz7_0
     try clear hfz7_1
     try clear hfz7_2
     try clear hfz7_3
     try clear hfz7_4
     try clear hfz7_5
     try clear hfz7_6
     try clear p2
     obtain ⟨x3_2, rfl, HA, HK2, BK173, HB⟩ := hrel
     cases gk with
     | zero => exact absurd HA.out (by simp [chirographref32_mayStep.l0])
     | succ k2 =>
      have H := HA.out
      clear HA
      simp only [chirographref32_mayStep.l0] at H
      by_cases c24 : x3_2 < (l0_6.length : Int)
      ·
       rw [if_pos c24] at H
       have c24b0 : decide (x3_2 < (l0_6.length : Int)) = true := decide_eq_true c24
       clear c24
       by_cases c25 : 0 ≤ x3_2
       ·
        rw [if_pos c25] at H
        have c25b0 : decide (0 ≤ x3_2) = true := decide_eq_true c25
        clear c25
        replace H := Option.bind_eq_some_iff.mp H
        obtain ⟨t179, A260, H⟩ := H
        replace H : (if t179 = true then (chirographref32_mayStep.l0 k2 (wrap64 (x3_2 + 1)) a0_0 a0_1 a0_2 a0_3 a0_4 a0_5 l0_6) else (some false)) = some r := H
        have A26 := Aside0.mk A260
        clear A260
        by_cases c27 : t179 = true
        ·
         subst c27
         have H1 : (chirographref32_mayStep.l0 k2 (wrap64 (x3_2 + 1)) a0_0 a0_1 a0_2 a0_3 a0_4 a0_5 l0_6) = some r := by rw [if_pos rfl] at H; exact H
         clear H
         have H := H1
         clear H1
         have H' := Aside0.mk H
         clear H
         have hcz28_0 : wr.cell? ⟨gb173, 0, none⟩ = some (.int .u8 a0_0) := (blk_cell BK173.out 0).trans rfl
         have hcz28_1 : wr.cell? ⟨gb173, 1, none⟩ = some (.int .i64 a0_1) := (blk_cell BK173.out 1).trans rfl
         have hcz28_2 : wr.cell? ⟨gb173, 2, none⟩ = some (.int .i64 a0_2) := (blk_cell BK173.out 2).trans rfl
         have hcz28_3 : wr.cell? ⟨gb173, 3, none⟩ = some (.int .i64 a0_3) := (blk_cell BK173.out 3).trans rfl
         have hcz28_4 : wr.cell? ⟨gb173, 4, none⟩ = some (.int .i64 a0_4) := (blk_cell BK173.out 4).trans rfl
         have hcz28_5 : wr.cell? ⟨gb173, 5, none⟩ = some (.string a0_5) := (blk_cell BK173.out 5).trans rfl
         have hcz28_6 : wr.cell? ⟨gb173, 6, none⟩ = some (.slice A0_6 l0_6.length c0_6) := (blk_cell BK173.out 6).trans rfl
         have hfz28_0 := blk_frozen BK173.out 0
         have hfz28_1 := blk_frozen BK173.out 1
         have hfz28_2 := blk_frozen BK173.out 2
         have hfz28_3 := blk_frozen BK173.out 3
         have hfz28_4 := blk_frozen BK173.out 4
         have hfz28_5 := blk_frozen BK173.out 5
         have hfz28_6 := blk_frozen BK173.out 6
         have p178 : 0 ≤ (x3_2 : Int) := of_decide_eq_true (by first | (with_reducible assumption) | assumption)
         have q178 : x3_2 < (l0_6.length : Int) := of_decide_eq_true (by first | (with_reducible assumption) | assumption)
         obtain ⟨ad178, e178, hx178_0⟩ := Kd.at_int HR0_6.out x3_2 p178 q178
         cases e178
         replace hx178_0 := (HB.out.cell (World.block_lt_of_cell? w _ hx178_0)).trans hx178_0
         replace p178 := eq_true p178
         replace q178 := eq_true q178
         go_wp2_with (first | ((with_reducible refine gate_callee (f := 29) rfl ?_); refine goesL_ (some 60) rfl rfl Try.func29 (by kernel_rfl) rfl #[.int .i64 (rd l0_6 x3_2)] rfl (by (try simp only [List.map_toArray, List.map_cons, List.map_nil]); first | done | rfl | (simp only [List.length_drop, List.length_take]; rfl)) ?_; (with_reducible refine (chirographref32_num.calls (rd l0_6 x3_2) true _ A26.out).mono ?_); rintro e w' ⟨rfl, ⟨nd, rfl⟩⟩; refine ⟨_, rfl, ?_⟩))
         go_roundg k2
         case measure => have := HJ1.out; have := HK2.out; omega
         case rel => exact ⟨(wrap64 (x3_2 + 1)), (by first | rfl | (simp; done) | (simp [*]; done)), H', ⟨by have := HJ1.out; have := HK2.out; omega⟩, ⟨by (with_reducible repeat (first | refine blk_drewN ?_ _ | refine blk_drew ?_ | refine blk_alloc ?_ _)); exact BK173.out⟩, ⟨by repeat (first | (with_reducible first | exact HB.out | apply below_alloc | apply pw_below_drewN | apply below_drew1 | refine below_set ?_ GE173.out) | exact HB.out)⟩⟩
        ·
         replace c27 := Bool.eq_false_iff.mpr c27
         subst c27
         have H1 : (some false) = some r := by rw [if_neg (show ¬ (false = true) by decide)] at H; exact H
         clear H
         have H := H1
         clear H1
         obtain rfl := Option.some.inj H
         have hcz29_0 : wr.cell? ⟨gb173, 0, none⟩ = some (.int .u8 a0_0) := (blk_cell BK173.out 0).trans rfl
         have hcz29_1 : wr.cell? ⟨gb173, 1, none⟩ = some (.int .i64 a0_1) := (blk_cell BK173.out 1).trans rfl
         have hcz29_2 : wr.cell? ⟨gb173, 2, none⟩ = some (.int .i64 a0_2) := (blk_cell BK173.out 2).trans rfl
         have hcz29_3 : wr.cell? ⟨gb173, 3, none⟩ = some (.int .i64 a0_3) := (blk_cell BK173.out 3).trans rfl
         have hcz29_4 : wr.cell? ⟨gb173, 4, none⟩ = some (.int .i64 a0_4) := (blk_cell BK173.out 4).trans rfl
         have hcz29_5 : wr.cell? ⟨gb173, 5, none⟩ = some (.string a0_5) := (blk_cell BK173.out 5).trans rfl
         have hcz29_6 : wr.cell? ⟨gb173, 6, none⟩ = some (.slice A0_6 l0_6.length c0_6) := (blk_cell BK173.out 6).trans rfl
         have hfz29_0 := blk_frozen BK173.out 0
         have hfz29_1 := blk_frozen BK173.out 1
         have hfz29_2 := blk_frozen BK173.out 2
         have hfz29_3 := blk_frozen BK173.out 3
         have hfz29_4 := blk_frozen BK173.out 4
         have hfz29_5 := blk_frozen BK173.out 5
         have hfz29_6 := blk_frozen BK173.out 6
         have p178 : 0 ≤ (x3_2 : Int) := of_decide_eq_true (by first | (with_reducible assumption) | assumption)
         have q178 : x3_2 < (l0_6.length : Int) := of_decide_eq_true (by first | (with_reducible assumption) | assumption)
         obtain ⟨ad178, e178, hx178_0⟩ := Kd.at_int HR0_6.out x3_2 p178 q178
         cases e178
         replace hx178_0 := (HB.out.cell (World.block_lt_of_cell? w _ hx178_0)).trans hx178_0
         replace p178 := eq_true p178
         replace q178 := eq_true q178
         go_wp2_with (first | ((with_reducible refine gate_callee (f := 29) rfl ?_); refine goesL_ (some 60) rfl rfl Try.func29 (by kernel_rfl) rfl #[.int .i64 (rd l0_6 x3_2)] rfl (by (try simp only [List.map_toArray, List.map_cons, List.map_nil]); first | done | rfl | (simp only [List.length_drop, List.length_take]; rfl)) ?_; (with_reducible refine (chirographref32_num.calls (rd l0_6 x3_2) false _ A26.out).mono ?_); rintro e w' ⟨rfl, ⟨nd, rfl⟩⟩; refine ⟨_, rfl, ?_⟩))
         go_ret
         exact ⟨by first | rfl | (simp [errW_none, errW_some] <;> rfl) | (simp [*, errW_none, errW_some] <;> rfl), by repeat (first | (with_reducible first | exact HB.out | apply below_alloc | apply pw_below_drewN | apply below_drew1 | refine below_set ?_ GE173.out) | exact HB.out)⟩
       ·
        rw [if_neg c25] at H
        exact absurd H (by simp)
      ·
       rw [if_neg c24] at H
       have c24b0 : decide (x3_2 < (l0_6.length : Int)) = false := decide_eq_false c24
       clear c24
       obtain rfl := Option.some.inj H
       have hcz30_0 : wr.cell? ⟨gb173, 0, none⟩ = some (.int .u8 a0_0) := (blk_cell BK173.out 0).trans rfl
       have hcz30_1 : wr.cell? ⟨gb173, 1, none⟩ = some (.int .i64 a0_1) := (blk_cell BK173.out 1).trans rfl
       have hcz30_2 : wr.cell? ⟨gb173, 2, none⟩ = some (.int .i64 a0_2) := (blk_cell BK173.out 2).trans rfl
       have hcz30_3 : wr.cell? ⟨gb173, 3, none⟩ = some (.int .i64 a0_3) := (blk_cell BK173.out 3).trans rfl
       have hcz30_4 : wr.cell? ⟨gb173, 4, none⟩ = some (.int .i64 a0_4) := (blk_cell BK173.out 4).trans rfl
       have hcz30_5 : wr.cell? ⟨gb173, 5, none⟩ = some (.string a0_5) := (blk_cell BK173.out 5).trans rfl
       have hcz30_6 : wr.cell? ⟨gb173, 6, none⟩ = some (.slice A0_6 l0_6.length c0_6) := (blk_cell BK173.out 6).trans rfl
       have hfz30_0 := blk_frozen BK173.out 0
       have hfz30_1 := blk_frozen BK173.out 1
       have hfz30_2 := blk_frozen BK173.out 2
       have hfz30_3 := blk_frozen BK173.out 3
       have hfz30_4 := blk_frozen BK173.out 4
       have hfz30_5 := blk_frozen BK173.out 5
       have hfz30_6 := blk_frozen BK173.out 6
       go_wp2
       go_ret
       exact ⟨by first | rfl | (simp [errW_none, errW_some] <;> rfl) | (simp [*, errW_none, errW_some] <;> rfl), by repeat (first | (with_reducible first | exact HB.out | apply below_alloc | apply pw_below_drewN | apply below_drew1 | refine below_set ?_ GE173.out) | exact HB.out)⟩
end Go.Proofs.Ytppgbahiolhgbaa.PScriptReads
