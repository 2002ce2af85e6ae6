/- Contracts and plain laws over the seat, laid together (group 36 of what the claim needs). -/
import Derived.Test.YtppgbahiolhgbaaH35
set_option linter.unusedVariables false
set_option linter.unusedSimpArgs false
namespace Go.Proofs.Ytppgbahiolhgbaa
open Go.RowKit Go.Proofs.YtppgbahiolhgbaaW.PrintWords Sp
open PScriptReads
theorem app_nil' (s : ByteArray) : s ++ mk [] = s := L_inj (by simp [L, mk])
theorem len_give {x : S48} (h0 : 0 ≤ x.f0 ∧ x.f0 ≤ 7) (h1 : x.f1.size ≤ 16384) : (giveS x).length ≤ 16402 := by
  have e1 := numB_len x.f0.toNat (by omega)
  have e2 := numB_len (L x.f1).length (by rw [L_len]; omega)
  rw [L_len] at e2
  unfold giveS textB; rw [List.length_append, List.length_append, L_len, numsB_one]; omega
theorem len_flat {α : Type} {f : α → Bytes} {m k : Nat} {l : List α} (h : ∀ x ∈ l, (f x).length ≤ m) (hk : l.length ≤ k) : (l.flatMap f).length ≤ m * k := by
  have h1 : (l.flatMap f).length ≤ m * l.length := by
    induction l with
    | nil => simp
    | cons x t ih =>
      have := ih (fun y hy => h y (List.mem_cons_of_mem _ hy)) (by simp at hk; omega)
      have h2 := h x (List.mem_cons_self ..)
      rw [List.flatMap_cons, List.length_append, List.length_cons, Nat.mul_succ]
      omega
  exact Nat.le_trans h1 (Nat.mul_le_mul_left m hk)
set_option maxRecDepth 100000 in
set_option maxHeartbeats 4000000 in
theorem wpart48 : WPart 48 (fun a => numsB [(a.f4.length : Int)] ++ a.f4.flatMap giveS) := by
  intro w0 g r a A4 c4 A9 c9 s w hm g4 g9 hu hs hS
  obtain ⟨hd, hn, hg, hst⟩ := may_facts hm
  have hl6 : a.f4.length ≤ 6 := by omega
  have hm := meth_wnum
  have hm2 := meth_wtext
  have hmf : ∀ (fn : Fn) (first cap : Array Value) (w : World), (Instr.makeFunc fn first cap).run Try.prog w = .ok (.func fn first cap) w := fun _ _ _ _ => rfl
  have hX := hS.boxed
  have hW : w.grownBy (w.alloc (.cells #[.pointer (some ⟨g, 0, none⟩), .iface 69 (.pointer (some ⟨r, 0, none⟩))] 78)) (some r) := World.grownBy_alloc _ _ _
  have zs : ∀ k, k ≤ a.f4.length → (mk ((a.f4.take k).flatMap giveS)).size ≤ 16402 * k := by
    intro k hk
    rw [size_mk]
    exact len_flat (fun x hx => by have := hg x (List.mem_of_mem_take hx); exact len_give (by omega) (by omega)) (List.length_take_le ..)
  have z1 := (numB_len a.f4.length (by omega)).2
  have c63 := fun (W : World) (fv : Value) (h : WrAt W r s) => wrows63 g r (a.f4.length : Int) 6 s fv W h (by omega) (by omega) (by omega)
  have hpart : s ++ mk (numsB [(a.f4.length : Int)] ++ a.f4.flatMap giveS) = s ++ mk (numB a.f4.length) ++ mk (a.f4.flatMap giveS) := by
    rw [mk_append, ByteArray.append_assoc, numsB_one, Int.toNat_natCast]
  dsimp only
  rw [hpart]
  simp only [Int.toNat_natCast] at c63
  have zs1 : (s ++ mk (numB a.f4.length)).size ≤ 1000009 := by rw [ByteArray.size_append, size_mk]; omega
  generalize s ++ mk (numB a.f4.length) = s1 at *
  have H := Aid.hide (And.intro hg (And.intro zs (And.intro g4 (And.intro c63 hpart))))
  clear hd hn hg hst hs hu zs g9 g4 z1 c63 hpart
  go_enter Try.func48, Try.ntmps48
  go_upto_region 1 with (fail)
  generalize hw0 : w.alloc (.cells #[.pointer (some ⟨g, 0, none⟩), .iface 69 (.pointer (some ⟨r, 0, none⟩))] 78) = wx at *
  generalize hbx : w.heap.size = b at hX ⊢
  clear hw0 hbx hS
  have k4 := hX.S.ten.k4
  have f0 := hX.F.c0
  have f1 := hX.F.c1
  obtain ⟨n4, hn4⟩ : ∃ n, n = a.f4.length := ⟨_, rfl⟩
  rw [← hn4] at k4 hl6
  have N4 := Aid.hide hn4
  clear hn4
  go_cut [11, 12] (fun x i wx => x = .int .i64 (n4 : Int) ∧ i = .int .i64 0 ∧ WFt w0 b g r a A4 c4 A9 c9 s1 wx ∧ w.grownBy wx (some r))
  case first =>
    as_aux_lemma =>
    have c63 := (Aid.unhide H).2.2.2.1
    rw [← Aid.unhide N4] at c63
    have C := Aid.hide c63
    clear c63
    go_region_with ((go_at_call 63; refine (Aid.unhide C _ _ (WFt.S (by (repeat first | exact hX | apply WFt.drew | apply WFt.alloc))).hR).mono ?_; rintro e1 w1 ⟨rfl, hw1, hg1⟩))
    all_goals
      go_wp2_with (fail)
      go_meet
      exact ⟨rfl, rfl, WFt.step (s := s) (by (repeat first | exact hX | apply WFt.drew | apply WFt.alloc)) hw1 hg1, grownBy_trans (by (repeat first | exact hW | apply Aid.only_drew | apply Aid.only_alloc)) hg1⟩
  case rest =>
    obtain ⟨rfl, rfl, hY, hV⟩ := hcut
    clear k4 f0 f1 hX hW
    go_wp2_with (fail)
    go_loopw [12] (fun i wr => ∃ j : Nat, i = .int .i64 (j : Int) ∧ j ≤ n4 ∧ WFt w0 b g r a A4 c4 A9 c9 (s1 ++ mk ((a.f4.take j).flatMap giveS)) wr ∧ w.grownBy wr (some r)) (fun i _ => n4 - (intOf i).toNat)
    case atStart => exact ⟨0, rfl, by omega, by rw [List.take_zero, List.flatMap_nil, app_nil']; exact hY, hV⟩
    case round =>
      obtain ⟨j, rfl, hj, hX, hW⟩ := hrel
      clear hY hV
      by_cases hlt : j < n4
      · obtain ⟨hg, zs, g4, _, _⟩ := Aid.unhide H
        have hn4 := Aid.unhide N4
        have zj : (s1 ++ mk ((a.f4.take j).flatMap giveS)).size ≤ 2000000 := by rw [ByteArray.size_append]; have := zs j (by omega); omega
        have hcC := Kd.C_below g4 hX.S.hB
        obtain ⟨ad, hA, _, _⟩ := at_T48 hcC (j : Int) (by omega) (by omega)
        have hm : rd_T48 a.f4 (j : Int) ∈ a.f4 := by
          unfold rd_T48; rw [Int.toNat_natCast, List.getD_eq_getElem?_getD, List.getElem?_eq_getElem (by omega)]; exact List.getElem_mem (by omega)
        have htk : (a.f4.take (j + 1)).flatMap giveS = (a.f4.take j).flatMap giveS ++ giveS (rd_T48 a.f4 (j : Int)) := by
          rw [List.take_succ_eq_append_getElem (by omega), List.flatMap_append]
          unfold rd_T48; rw [Int.toNat_natCast, List.getD_eq_getElem?_getD, List.getElem?_eq_getElem (by omega)]; simp
        have hx := hg _ hm
        have he : ∀ W, Below w0.heap.size w0 W → W.cell? (ad.add (j * 2)) = some (.int .i64 (rd_T48 a.f4 (j : Int)).f0) ∧ W.cell? ⟨(ad.add (j * 2)).block, (ad.add (j * 2)).off + 1, none⟩ = some (.string (rd_T48 a.f4 (j : Int)).f1) := by
          intro W hB
          obtain ⟨ad', hA', e0, e1⟩ := at_T48 (Kd.C_below g4 hB) (j : Int) (by omega) (by omega)
          rw [hA] at hA'
          injection hA' with hA'
          subst hA'
          rw [Int.toNat_natCast] at e0 e1
          exact ⟨e0, e1⟩
        generalize rd_T48 a.f4 (j : Int) = x at *
        obtain ⟨x0, x1⟩ := x
        simp only at he hx
        have hnx : s1 ++ mk ((a.f4.take j).flatMap giveS) ++ mk (numB x0.toNat) ++ mk (textB (L x1)) = s1 ++ mk ((a.f4.take (j + 1)).flatMap giveS) := by
          rw [htk, mk_append]; unfold giveS; rw [mk_append, numsB_one]; simp only [ByteArray.append_assoc]
        generalize s1 ++ mk ((a.f4.take j).flatMap giveS) = sj at *
        have hzj : (sj ++ mk (numB x0.toNat)).size ≤ 2000009 := by rw [ByteArray.size_append, size_mk]; have := (numB_len x0.toNat (by omega)).2; omega
        have n1 : ∀ W, WFt w0 b g r a A4 c4 A9 c9 sj W → Calls Try.prog 99 #[.pointer (some ⟨r, 0, none⟩), .pointer (some (ad.add (j * 2))), .int .i64 7] W _ := fun W h => wnum99 r _ x0 7 sj W h.S.hR (he W h.S.hB).1 hx.1 (by omega) (by omega)
        generalize hsn : sj ++ mk (numB x0.toNat) = sn at *
        have n2 : ∀ W, WFt w0 b g r a A4 c4 A9 c9 sn W → Calls Try.prog 100 #[.pointer (some ⟨r, 0, none⟩), .pointer (some ⟨(ad.add (j * 2)).block, (ad.add (j * 2)).off + 1, none⟩), .int .i64 16384] W _ := fun W h => wtext100 r _ x1 16384 sn W h.S.hR (he W h.S.hB).2 (by omega) (by omega)
        have k4 := hX.S.ten.k4
        rw [← hn4] at k4
        have f0 := hX.F.c0
        have f1 := hX.F.c1
        have F := Aid.hide (And.intro n1 (And.intro n2 hnx))
        clear n1 n2 hnx hsn htk hm hx he hcC g4 hg zs hn4 zj hzj
        subst hA
        go_upto_region 4 with (fail)
        go_cut [] (fun wx => WFt w0 b g r a (some ad) c4 A9 c9 sn wx ∧ w.grownBy wx (some r))
        case first =>
          go_region_with ((go_at_call 99; refine ((Aid.unhide F).1 _ (by (repeat first | exact hX | apply WFt.drew | apply WFt.alloc))).mono ?_; rintro e1 w1 ⟨rfl, hw1, hg1⟩))
          all_goals
            go_wp2_with (fail)
            go_meet
            exact ⟨WFt.step (s := sj) (by (repeat first | exact hX | apply WFt.drew | apply WFt.alloc)) hw1 hg1, grownBy_trans (by (repeat first | exact hW | apply Aid.only_drew | apply Aid.only_alloc)) hg1⟩
        case rest =>
          obtain ⟨hY, hV⟩ := hcut
          clear k4 f0 f1 hX hW
          have k4 := hY.S.ten.k4
          rw [← Aid.unhide N4] at k4
          have f0 := hY.F.c0
          have f1 := hY.F.c1
          go_upto_region 5 with (fail)
          go_region_with ((go_at_call 100; refine ((Aid.unhide F).2.1 _ (by (repeat first | exact hY | apply WFt.drew | apply WFt.alloc))).mono ?_; rintro e1 w1 ⟨rfl, hw1, hg1⟩))
          all_goals
            have hZ : WFt w0 b g r a (some ad) c4 A9 c9 (sn ++ mk (textB (L x1))) w1 := WFt.step (s := sn) (by (repeat first | exact hY | apply WFt.drew | apply WFt.alloc)) hw1 hg1
            have hU : w.grownBy w1 (some r) := grownBy_trans (by (repeat first | exact hV | apply Aid.only_drew | apply Aid.only_alloc)) hg1
            clear hw1 hg1 hY hV k4 f0 f1
            go_wp2_with (fail)
            go_roundw
            case rel => exact ⟨j + 1, by go_num, by omega, by rw [← (Aid.unhide F).2.2]; exact hZ, hU⟩
            case measure => simp [intOf]; omega
      · obtain rfl : j = n4 := by omega
        go_wp2_with (fail)
        go_end0
        rw [Aid.unhide N4, List.take_length] at hX
        exact ⟨rfl, hX.S, hW⟩
end Go.Proofs.Ytppgbahiolhgbaa
