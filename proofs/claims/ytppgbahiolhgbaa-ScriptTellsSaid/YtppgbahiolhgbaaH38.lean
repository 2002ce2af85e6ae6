/- Contracts and plain laws over the seat, laid together (group 38 of what the claim needs). -/
import Derived.Test.YtppgbahiolhgbaaH36
import Derived.Test.YtppgbahiolhgbaaH37
import Derived.Deep.CutBlock
import Derived.Deep.RegionHeld3
import Derived.StillTailTactics
import Derived.Outline
set_option linter.unusedVariables false
set_option linter.unusedSimpArgs false
namespace Go.Proofs.Ytppgbahiolhgbaa
open Go.RowKit Go.Proofs.YtppgbahiolhgbaaW.PrintWords Sp
open PScriptReads
theorem wp_region_tailw {P : Program} {id : Nat} {Q : Exit → Act → World → Prop} {a : Act} {w : World} {l : List Oper} (n : Nat) (hm : P.follows .mixedOrders = true) (hB : Region.lexTailB .any l.toArray n = true)
    (h : wpStill P l.toArray w.drew (fun a' => wpList P l.toArray Q (l.drop n) a' w.drew) (l.take n) a) : (Code.region id l.toArray true).wp P Q a w := wp_region_still_tail n hm hB h
theorem Uns.frz {w0 W : World} {A : Option Addr} {ad : Addr} (h : Uns w0 A) (hA : A = some ad) (n : Nat) (hB : Below w0.heap.size w0 W) : W.frozen? (ad.add n) = false := by
  obtain ⟨cs, t, hb⟩ := h ad hA
  have := blk_of hb hB
  have e : (ad.add n).block = ad.block := by unfold Addr.add; split <;> rfl
  unfold World.frozen?
  rw [e, this]
  simp
structure SvAt (W : World) (P : Addr) (x : S51) (v : Value) : Prop where
  s0 : W.cell? P = some (.int .u8 x.f0)
  s1 : W.cell? ⟨P.block, P.off + 1, none⟩ = some (.int .i64 x.f1)
  s2 : W.cell? ⟨P.block, P.off + 2, none⟩ = some (.int .i64 x.f2)
  s3 : W.cell? ⟨P.block, P.off + 3, none⟩ = some (.int .i64 x.f3)
  s4 : W.cell? ⟨P.block, P.off + 4, none⟩ = some (.int .i64 x.f4)
  s5 : W.cell? ⟨P.block, P.off + 5, none⟩ = some (.string x.f5)
  s6 : W.cell? ⟨P.block, P.off + 6, none⟩ = some v
  fr : W.frozen? P = false
abbrev ptrs (P : Addr) : Array Value := #[.pointer (some ⟨P.block, P.off + 1, none⟩), .pointer (some ⟨P.block, P.off + 2, none⟩), .pointer (some ⟨P.block, P.off + 3, none⟩), .pointer (some ⟨P.block, P.off + 4, none⟩)]
theorem stepS_parts (x : S51) (h : 0 ≤ x.f0) : stepS x = numB x.f0.toNat ++ (numsB [x.f1, x.f2, x.f3, x.f4] ++ (textB (L x.f5) ++ (numB x.f6.length ++ numsB x.f6))) := by
  unfold stepS; simp [numsB]
theorem len_step (x : S51) (hx : ∀ n ∈ [x.f0, x.f1, x.f2, x.f3, x.f4], 0 ≤ n ∧ n ≤ 2147483647) (h5 : x.f5.size ≤ 1024) (h6 : x.f6.length ≤ 32) (hl : ∀ n ∈ x.f6, 0 ≤ n ∧ n ≤ 2147483647) : (stepS x).length ≤ 2000 := by
  have e1 := numsB_len [x.f0, x.f1, x.f2, x.f3, x.f4] (by intro y hy; have := hx y hy; omega)
  have e2 : (textB (L x.f5)).length ≤ 9 + x.f5.size := by
    have := (numB_len x.f5.size (by omega)).2
    unfold textB; rw [List.length_append, L_len]; omega
  have e3 := numsB_len [(x.f6.length : Int)] (by intro y hy; simp at hy; omega)
  have e4 := numsB_len x.f6 (by intro y hy; have := hl y hy; omega)
  simp only [List.length_cons, List.length_nil] at e1 e3
  unfold stepS; simp only [List.length_append]; omega
theorem nums_step (sa : ByteArray) (l : List Int) (k : Nat) (h : k < l.length) : sa ++ mk (numsB (l.take k)) ++ mk (numB l[k].toNat) = sa ++ mk (numsB (l.take (k + 1))) := by
  rw [ByteArray.append_assoc, ← mk_append, List.take_succ_eq_append_getElem h, numsB_snoc]
set_option maxRecDepth 100000 in
set_option maxHeartbeats 16000000 in
theorem wpart52 : WPart 52 (fun a => numsB [(a.f7.length : Int)] ++ a.f7.flatMap stepS) := by
  intro w0 g r a A4 c4 A9 c9 s w hm g4 g9 hu hs hS
  obtain ⟨hd, hn, hg, hst⟩ := may_facts hm
  have hl7 : a.f7.length ≤ 64 := by omega
  have hm := meth_wnum
  have hm2 := meth_wtext
  have hmf : ∀ (fn : Fn) (first cap : Array Value) (w : World), (Instr.makeFunc fn first cap).run Try.prog w = .ok (.func fn first cap) w := fun _ _ _ _ => rfl
  have hX := hS.boxed
  have hW : w.grownBy (w.alloc (.cells #[.pointer (some ⟨g, 0, none⟩), .iface 69 (.pointer (some ⟨r, 0, none⟩))] 78)) (some r) := World.grownBy_alloc _ _ _
  have zs : ∀ k, k ≤ a.f7.length → (mk ((a.f7.take k).flatMap stepS)).size ≤ 2000 * k := by
    intro k hk
    rw [size_mk]
    exact len_flat (fun x hx => by obtain ⟨h0, h1, h2, h3, h4, h6, h5, h7⟩ := hst x (List.mem_of_mem_take hx); exact len_step x (by intro n hn; simp at hn; omega) h5 h7 h6) (List.length_take_le ..)
  have z1 := (numB_len a.f7.length (by omega)).2
  have c63 := fun (W : World) (fv : Value) (h : WrAt W r s) => wrows63 g r (a.f7.length : Int) 64 s fv W h (by omega) (by omega) (by omega)
  have hpart : s ++ mk (numsB [(a.f7.length : Int)] ++ a.f7.flatMap stepS) = s ++ mk (numB a.f7.length) ++ mk (a.f7.flatMap stepS) := by
    rw [mk_append, ByteArray.append_assoc, numsB_one, Int.toNat_natCast]
  dsimp only
  rw [hpart]
  simp only [Int.toNat_natCast] at c63
  have zs1 : (s ++ mk (numB a.f7.length)).size ≤ 1000009 := by rw [ByteArray.size_append, size_mk]; omega
  generalize s ++ mk (numB a.f7.length) = s1 at *
  have H := Aid.hide (And.intro hst (And.intro zs (And.intro g9 (And.intro c63 (And.intro hpart hu)))))
  clear hd hn hg hst hs zs g9 g4 z1 c63 hpart hu
  go_enter Try.func52, Try.ntmps52
  go_upto_region 1 with (fail)
  generalize hw0 : w.alloc (.cells #[.pointer (some ⟨g, 0, none⟩), .iface 69 (.pointer (some ⟨r, 0, none⟩))] 78) = wx at *
  generalize hbx : w.heap.size = b at hX ⊢
  clear hw0 hbx hS
  have k9 := hX.S.ten.k9
  have f0 := hX.F.c0
  have f1 := hX.F.c1
  obtain ⟨n7, hn7⟩ : ∃ n, n = a.f7.length := ⟨_, rfl⟩
  rw [← hn7] at k9 hl7
  have N7 := Aid.hide hn7
  clear hn7
  go_cut [16, 17] (fun x i wx => x = .int .i64 (n7 : Int) ∧ i = .int .i64 0 ∧ WFt w0 b g r a A4 c4 A9 c9 s1 wx ∧ w.grownBy wx (some r))
  case first =>
    as_aux_lemma =>
    have c63 := (Aid.unhide H).2.2.2.1
    rw [← Aid.unhide N7] at c63
    have C := Aid.hide c63
    clear c63
    go_region_with ((go_at_call 63; refine (Aid.unhide C _ _ (WFt.S (by (repeat first | exact hX | apply WFt.drew | apply WFt.alloc))).hR).mono ?_; rintro e1 w1 ⟨rfl, hw1, hg1⟩))
    all_goals
      go_wp2_with (fail)
      go_meet
      exact ⟨rfl, rfl, WFt.step (s := s) (by (repeat first | exact hX | apply WFt.drew | apply WFt.alloc)) hw1 hg1, grownBy_trans (by (repeat first | exact hW | apply Aid.only_drew | apply Aid.only_alloc)) hg1⟩
  case rest =>
    obtain ⟨rfl, rfl, hY, hV⟩ := hcut
    clear k9 f0 f1 hX hW
    go_wp2_with (fail)
    go_loopw [17] (fun i wr => ∃ j : Nat, i = .int .i64 (j : Int) ∧ j ≤ n7 ∧ WFt w0 b g r a A4 c4 A9 c9 (s1 ++ mk ((a.f7.take j).flatMap stepS)) wr ∧ w.grownBy wr (some r)) (fun i _ => n7 - (intOf i).toNat)
    case atStart => exact ⟨0, rfl, by omega, by rw [List.take_zero, List.flatMap_nil, app_nil']; exact hY, hV⟩
    case round =>
      obtain ⟨j, rfl, hj, hX, hW⟩ := hrel
      clear hY hV
      by_cases hlt : j < n7
      · obtain ⟨hst, zs, g9, _, _, hu⟩ := Aid.unhide H
        have hn7 := Aid.unhide N7
        have zj : (s1 ++ mk ((a.f7.take j).flatMap stepS)).size ≤ 2000000 := by rw [ByteArray.size_append]; have := zs j (by omega); omega
        obtain ⟨ad, A6, c6, hA, _, _, _, _, _, _, q6, hc6, g6⟩ := at_T51 g9 (j : Int) (by omega) (by omega)
        have hm : rd_T51 a.f7 (j : Int) ∈ a.f7 := by
          unfold rd_T51; rw [Int.toNat_natCast, List.getD_eq_getElem?_getD, List.getElem?_eq_getElem (by omega)]; exact List.getElem_mem (by omega)
        have htk : (a.f7.take (j + 1)).flatMap stepS = (a.f7.take j).flatMap stepS ++ stepS (rd_T51 a.f7 (j : Int)) := by
          rw [List.take_succ_eq_append_getElem (by omega), List.flatMap_append]
          unfold rd_T51; rw [Int.toNat_natCast, List.getD_eq_getElem?_getD, List.getElem?_eq_getElem (by omega)]; simp
        obtain ⟨b0, b1, b2, b3, b4, b6, b5, b7⟩ := hst _ hm
        have he0 : SvAt w0 (ad.add (j * 7)) (rd_T51 a.f7 (j : Int)) (.slice A6 (rd_T51 a.f7 (j : Int)).f6.length c6) := by
          obtain ⟨ad', A6', c6', hA', e0, e1, e2, e3, e4, e5, e6, _, _⟩ := at_T51 g9 (j : Int) (by omega) (by omega)
          rw [hA] at hA'
          injection hA' with hA'
          subst hA'
          rw [Int.toNat_natCast] at e0 e1 e2 e3 e4 e5 e6
          have := q6.symm.trans e6
          injection this with this
          injection this with t1 t2 t3
          subst t1; subst t3
          exact ⟨e0, e1, e2, e3, e4, e5, e6, hu.frz hA _ (Below.refl _ _)⟩
        have he : ∀ W, Below w0.heap.size w0 W → SvAt W (ad.add (j * 7)) (rd_T51 a.f7 (j : Int)) (.slice A6 (rd_T51 a.f7 (j : Int)).f6.length c6) := fun W hB =>
          ⟨(hB.cell (World.block_lt_of_cell? _ _ he0.s0)).trans he0.s0, (hB.cell (World.block_lt_of_cell? _ _ he0.s1)).trans he0.s1, (hB.cell (World.block_lt_of_cell? _ _ he0.s2)).trans he0.s2, (hB.cell (World.block_lt_of_cell? _ _ he0.s3)).trans he0.s3, (hB.cell (World.block_lt_of_cell? _ _ he0.s4)).trans he0.s4, (hB.cell (World.block_lt_of_cell? _ _ he0.s5)).trans he0.s5, (hB.cell (World.block_lt_of_cell? _ _ he0.s6)).trans he0.s6, (hB.frozen (World.block_lt_of_cell? _ _ he0.s0)).trans he0.fr⟩
        generalize rd_T51 a.f7 (j : Int) = x at *
        obtain ⟨x0, x1, x2, x3, x4, x5, x6⟩ := x
        simp only at he b0 b1 b2 b3 b4 b5 b6 b7 hc6 g6 htk
        have hnx : s1 ++ mk ((a.f7.take j).flatMap stepS) ++ mk (numB x0.toNat) ++ mk (numsB [x1, x2, x3, x4]) ++ mk (textB (L x5)) ++ mk (numB x6.length) ++ mk (numsB x6) = s1 ++ mk ((a.f7.take (j + 1)).flatMap stepS) := by
          rw [htk, mk_append, stepS_parts _ (by simp only; omega)]; simp only [mk_append, ByteArray.append_assoc]
        generalize s1 ++ mk ((a.f7.take j).flatMap stepS) = sj at *
        have hza : (sj ++ mk (numB x0.toNat)).size ≤ 2000009 := by rw [ByteArray.size_append, size_mk]; have := (numB_len x0.toNat (by omega)).2; omega
        obtain ⟨sa, hsa⟩ : ∃ sa, sa = sj ++ mk (numB x0.toNat) := ⟨_, rfl⟩
        rw [← hsa] at hnx hza
        have hzb : ∀ k, (sa ++ mk (numsB ([x1, x2, x3, x4].take k))).size ≤ 2000045 := by
          intro k
          have hl := numsB_len ([x1, x2, x3, x4].take k) (by intro y hy; have := List.mem_of_mem_take hy; simp at this; omega)
          have h4 : ([x1, x2, x3, x4].take k).length ≤ 4 := by rw [List.length_take]; simp; omega
          rw [ByteArray.size_append, size_mk]; omega
        obtain ⟨sb, hsb⟩ : ∃ sb, sb = sa ++ mk (numsB [x1, x2, x3, x4]) := ⟨_, rfl⟩
        rw [← hsb] at hnx
        have hzb4 : sb.size ≤ 2000045 := by rw [hsb]; exact hzb 4
        obtain ⟨sc, hsc⟩ : ∃ sc, sc = sb ++ mk (textB (L x5)) := ⟨_, rfl⟩
        rw [← hsc] at hnx
        have hzc : sc.size ≤ 2002000 := by
          have := (numB_len x5.size (by omega)).2
          rw [hsc, ByteArray.size_append, size_mk]; unfold textB; rw [List.length_append, L_len]; omega
        obtain ⟨sd, hsd⟩ : ∃ sd, sd = sc ++ mk (numB x6.length) := ⟨_, rfl⟩
        rw [← hsd] at hnx
        have hzd : sd.size ≤ 2002009 := by
          have := (numB_len x6.length (by omega)).2
          rw [hsd, ByteArray.size_append, size_mk]; omega
        have hze : ∀ k, (sd ++ mk (numsB (x6.take k))).size ≤ 2003000 := by
          intro k
          have hl := numsB_len (x6.take k) (by intro y hy; have := b6 y (List.mem_of_mem_take hy); omega)
          have h4 : (x6.take k).length ≤ 32 := by rw [List.length_take]; omega
          rw [ByteArray.size_append, size_mk]; omega
        have k9 := hX.S.ten.k9
        rw [← hn7] at k9
        have f0 := hX.F.c0
        have f1 := hX.F.c1
        have B := Aid.hide (And.intro b6 (And.intro hnx (And.intro g6 (And.intro hzb hze))))
        have HE := Aid.hide he
        have ST := Aid.hide (And.intro hsa (And.intro hsb (And.intro hsc hsd)))
        clear hst zs g9 hu hn7 htk hm he0 he hnx b6 hzb hze g6 q6 hsa hsb hsc hsd
        subst hA
        go_upto_region 5 with (fail)
        have hX1 := hX.alloc (.cells #[.pointer (some (ad.add (j * 7)))] 110)
        have hP1 := Blk.new wr #[.pointer (some (ad.add (j * 7)))] 110
        have hW1 := Aid.only_alloc hW (.cells #[.pointer (some (ad.add (j * 7)))] 110)
        generalize ad.add (j * 7) = P at *
        generalize wr.alloc (.cells #[.pointer (some P)] 110) = wx at *
        generalize wr.heap.size = h at hP1 ⊢
        clear hX hW k9 f0 f1
        have p0 : wx.cell? ⟨h, 0, none⟩ = some (.pointer (some P)) := hP1.cell 0
        have v0 := (Aid.unhide HE wx hX1.S.hB).s0
        go_upto_region 6 with (fail)
        have hX := hX1.alloc (.cells #[.int .i64 x0] 3)
        have hP := hP1.alloc (.cells #[.int .i64 x0] 3)
        have hD := Blk.new wx #[.int .i64 x0] 3
        have hW := Aid.only_alloc hW1 (.cells #[.int .i64 x0] 3)
        generalize wx.alloc (.cells #[.int .i64 x0] 3) = wy at *
        generalize wx.heap.size = d at hD ⊢
        clear hX1 hP1 hW1 p0 v0
        have f1 := hX.F.c1
        have d0 : wy.cell? ⟨d, 0, none⟩ = some (.int .i64 x0) := hD.cell 0
        have C6 := Aid.hide (wnum99 r ⟨d, 0, none⟩ x0 9 sj wy hX.S.hR d0 (by omega) (by omega) (by omega))
        go_cut [] (fun wx => WFt w0 b g r a A4 c4 (some ad) c9 sa wx ∧ Blk wx h #[.pointer (some P)] 110 ∧ Blk wx d #[.int .i64 x0] 3 ∧ w.grownBy wx (some r))
        case first =>
          as_aux_lemma =>
          go_wp2_with (go_at_call 99; refine (Aid.unhide C6).mono ?_; rintro e1 w1 ⟨rfl, hw1, hg1⟩)
          go_meet
          exact ⟨by rw [(Aid.unhide ST).1]; exact hX.step hw1 hg1, hP.grown (by decide) hX.S.hR hg1, hD.grown (by decide) hX.S.hR hg1, grownBy_trans hW hg1⟩
        case rest =>
          clear hX hP hD hW f1 d0 C6
          obtain ⟨hX, hP, hD, hW⟩ := hcut
          have p0 : wc.cell? ⟨h, 0, none⟩ = some (.pointer (some P)) := hP.cell 0
          have d0 : wc.cell? ⟨d, 0, none⟩ = some (.int .i64 x0) := hD.cell 0
          have v0 := (Aid.unhide HE wc hX.S.hB).s0
          have vf := (Aid.unhide HE wc hX.S.hB).fr
          go_upto_region 8 with (fail)
          have hb := below_same v0
          have hX1 := hX.below hb
          have hP1 := hP.below hb
          have hW1 := grownBy_trans hW (grown_of_below hb (some r))
          simp only at hb hX1 hP1 hW1
          generalize wc.setCell P (.int .u8 x0) = wz at *
          clear hX hP hD hW hb p0 d0 v0 vf
          have p0 : wz.cell? ⟨h, 0, none⟩ = some (.pointer (some P)) := hP1.cell 0
          have hlh : h < wz.heap.size := blk_lt hP1
          go_cut [52, 53, 54] (fun sl n i wx => ∃ l : Nat, sl = .slice (some ⟨l, 0, none⟩) 4 4 ∧ n = .int .i64 4 ∧ i = .int .i64 0 ∧ WFt w0 b g r a A4 c4 (some ad) c9 sa wx ∧ Blk wx h #[.pointer (some P)] 110 ∧ Blk wx l (ptrs P) 105 ∧ w.grownBy wx (some r))
          case first =>
            as_aux_lemma =>
            go_region_held3 (fun w' => w'.cell? ⟨h, 0, none⟩ = some (.pointer (some P)))
              (((refine (Below.cell (B := wz.heap.size) (w := wz) ?_ hlh).trans p0); (repeat first | exact Below.refl _ _ | apply below_drew | apply below_alloc)))
              (first | fail)
            all_goals
              go_wp2_with (fail)
              go_meet
              exact ⟨_, rfl, rfl, rfl, (by (repeat first | exact hX1 | apply WFt.drew | apply WFt.alloc)), (by (repeat first | exact hP1 | apply Blk.drew | apply Blk.alloc)), (by (repeat first | exact Blk.new _ _ _ | apply Blk.drew)), (by (repeat first | exact hW1 | apply Aid.only_drew | apply Aid.only_alloc))⟩
          case rest =>
            clear hX1 hP1 hW1 p0 hlh
            obtain ⟨l, rfl, rfl, rfl, hX, hP, hL, hW⟩ := hcut
            go_wp2_with (fail)
            obtain ⟨wo, hwo⟩ : ∃ wo, wo = wr := ⟨_, rfl⟩
            clear hwo
            go_loopw [54] (fun i wr => ∃ k : Nat, i = .int .i64 (k : Int) ∧ k ≤ 4 ∧ WFt w0 b g r a A4 c4 (some ad) c9 (sa ++ mk (numsB ([x1, x2, x3, x4].take k))) wr ∧ Blk wr h #[.pointer (some P)] 110 ∧ Blk wr l (ptrs P) 105 ∧ w.grownBy wr (some r)) (fun i _ => 4 - (intOf i).toNat)
            case atStart => exact ⟨0, rfl, by omega, by rw [List.take_zero, show numsB [] = [] from rfl, app_nil']; exact hX, hP, hL, hW⟩
            case round =>
              clear hX hP hL hW
              obtain ⟨k, rfl, hk, hX, hP, hL, hW⟩ := hrel
              by_cases hk4 : k < 4
              · obtain rfl | rfl | rfl | rfl : k = 0 ∨ k = 1 ∨ k = 2 ∨ k = 3 := by omega
                · have l0 : wr.cell? ⟨l, 0, none⟩ = some (.pointer (some ⟨P.block, P.off + 1, none⟩)) := hL.cell 0
                  have f1 := hX.F.c1
                  have hC := Aid.hide (wnum99 r ⟨P.block, P.off + 1, none⟩ x1 2147483647 _ wr hX.S.hR (Aid.unhide HE wr hX.S.hB).s1 (by omega) (by omega) (by have := (Aid.unhide B).2.2.2.1 0; omega))
                  go_wp2_with (go_at_call 99; refine (Aid.unhide hC).mono ?_; rintro e1 w1 ⟨rfl, hw1, hg1⟩)
                  go_roundw
                  case rel => exact ⟨1, by go_num, by omega, by rw [← nums_step sa [x1, x2, x3, x4] 0 (by simp)]; exact hX.step hw1 hg1, hP.grown (by decide) hX.S.hR hg1, hL.grown (by decide) hX.S.hR hg1, grownBy_trans hW hg1⟩
                  case measure => simp [intOf]
                · have l0 : wr.cell? ⟨l, 1, none⟩ = some (.pointer (some ⟨P.block, P.off + 2, none⟩)) := hL.cell 1
                  have f1 := hX.F.c1
                  have hC := Aid.hide (wnum99 r ⟨P.block, P.off + 2, none⟩ x2 2147483647 _ wr hX.S.hR (Aid.unhide HE wr hX.S.hB).s2 (by omega) (by omega) (by have := (Aid.unhide B).2.2.2.1 1; omega))
                  go_wp2_with (go_at_call 99; refine (Aid.unhide hC).mono ?_; rintro e1 w1 ⟨rfl, hw1, hg1⟩)
                  go_roundw
                  case rel => exact ⟨2, by go_num, by omega, by rw [← nums_step sa [x1, x2, x3, x4] 1 (by simp)]; exact hX.step hw1 hg1, hP.grown (by decide) hX.S.hR hg1, hL.grown (by decide) hX.S.hR hg1, grownBy_trans hW hg1⟩
                  case measure => simp [intOf]
                · have l0 : wr.cell? ⟨l, 2, none⟩ = some (.pointer (some ⟨P.block, P.off + 3, none⟩)) := hL.cell 2
                  have f1 := hX.F.c1
                  have hC := Aid.hide (wnum99 r ⟨P.block, P.off + 3, none⟩ x3 2147483647 _ wr hX.S.hR (Aid.unhide HE wr hX.S.hB).s3 (by omega) (by omega) (by have := (Aid.unhide B).2.2.2.1 2; omega))
                  go_wp2_with (go_at_call 99; refine (Aid.unhide hC).mono ?_; rintro e1 w1 ⟨rfl, hw1, hg1⟩)
                  go_roundw
                  case rel => exact ⟨3, by go_num, by omega, by rw [← nums_step sa [x1, x2, x3, x4] 2 (by simp)]; exact hX.step hw1 hg1, hP.grown (by decide) hX.S.hR hg1, hL.grown (by decide) hX.S.hR hg1, grownBy_trans hW hg1⟩
                  case measure => simp [intOf]
                · have l0 : wr.cell? ⟨l, 3, none⟩ = some (.pointer (some ⟨P.block, P.off + 4, none⟩)) := hL.cell 3
                  have f1 := hX.F.c1
                  have hC := Aid.hide (wnum99 r ⟨P.block, P.off + 4, none⟩ x4 2147483647 _ wr hX.S.hR (Aid.unhide HE wr hX.S.hB).s4 (by omega) (by omega) (by have := (Aid.unhide B).2.2.2.1 3; omega))
                  go_wp2_with (go_at_call 99; refine (Aid.unhide hC).mono ?_; rintro e1 w1 ⟨rfl, hw1, hg1⟩)
                  go_roundw
                  case rel => exact ⟨4, by go_num, by omega, by rw [← nums_step sa [x1, x2, x3, x4] 3 (by simp)]; exact hX.step hw1 hg1, hP.grown (by decide) hX.S.hR hg1, hL.grown (by decide) hX.S.hR hg1, grownBy_trans hW hg1⟩
                  case measure => simp [intOf]
              · obtain rfl : k = 4 := by omega
                clear hL hk hk4
                rw [show [x1, x2, x3, x4].take 4 = [x1, x2, x3, x4] from rfl, ← (Aid.unhide ST).2.1] at hX
                have C13 : ∀ W, WFt w0 b g r a A4 c4 (some ad) c9 sb W → Calls Try.prog 100 #[.pointer (some ⟨r, 0, none⟩), .pointer (some ⟨P.block, P.off + 5, none⟩), .int .i64 1024] W _ := fun W h => wtext100 r _ x5 1024 sb W h.S.hR (Aid.unhide HE W h.S.hB).s5 (by omega) (by omega)
                have C := Aid.hide C13
                clear C13
                go_upto_region 13 with (fail)
                have p0 : wr.cell? ⟨h, 0, none⟩ = some (.pointer (some P)) := hP.cell 0
                have hlh : h < wr.heap.size := blk_lt hP
                have f1 := hX.F.c1
                go_cut [] (fun wx => WFt w0 b g r a A4 c4 (some ad) c9 sc wx ∧ Blk wx h #[.pointer (some P)] 110 ∧ w.grownBy wx (some r))
                case first =>
                  as_aux_lemma =>
                  refine wp_region_tailw 7 (by kernel_rfl) (by kernel_rfl) ?_
                  simp only [List.take_succ_cons, List.take_zero, List.drop_succ_cons, List.drop_zero]
                  repeat still_step
                  refine wpStill_nil ?_
                  go_wp2_with (go_at_call 100; refine (Aid.unhide C _ (by (repeat first | exact hX | apply WFt.drew | apply WFt.alloc))).mono ?_; rintro e1 w1 ⟨rfl, hw1, hg1⟩)
                  all_goals
                    go_meet
                    exact ⟨by rw [(Aid.unhide ST).2.2.1]; exact WFt.step (s := sb) (by (repeat first | exact hX | apply WFt.drew | apply WFt.alloc)) hw1 hg1, Blk.grown (s := sb) (by (repeat first | exact hP | apply Blk.drew | apply Blk.alloc)) (by decide) (WFt.S (by (repeat first | exact hX | apply WFt.drew | apply WFt.alloc))).hR hg1, grownBy_trans (by (repeat first | exact hW | apply Aid.only_drew | apply Aid.only_alloc)) hg1⟩
                case rest =>
                  clear hX hP hW p0 hlh f1 C
                  obtain ⟨hX, hP, hW⟩ := hcut
                  have C14 : ∀ (W : World) (fv : Value), WFt w0 b g r a A4 c4 (some ad) c9 sc W → Calls Try.prog 63 #[formV g 69 r, .int .i64 (x6.length : Int), .int .i64 32, fv] W _ := fun W fv h => wrows63 g r (x6.length : Int) 32 sc fv W h.S.hR (by omega) (by omega) (by omega)
                  have C := Aid.hide C14
                  clear C14
                  go_upto_region 14 with (fail)
                  have p0 : wc.cell? ⟨h, 0, none⟩ = some (.pointer (some P)) := hP.cell 0
                  have f0 := hX.F.c0
                  have f1 := hX.F.c1
                  have s6 := (Aid.unhide HE wc hX.S.hB).s6
                  try simp only at s6
                  obtain ⟨n6, hn6⟩ : ∃ n, n = x6.length := ⟨_, rfl⟩
                  rw [← hn6] at s6 C b7 hc6
                  have N6 := Aid.hide hn6
                  clear hn6
                  go_cut [78, 79] (fun n i wx => n = .int .i64 (n6 : Int) ∧ i = .int .i64 0 ∧ WFt w0 b g r a A4 c4 (some ad) c9 sd wx ∧ Blk wx h #[.pointer (some P)] 110 ∧ w.grownBy wx (some r))
                  case first =>
                    as_aux_lemma =>
                    go_region_with ((go_at_call 63; refine (Aid.unhide C _ _ (by (repeat first | exact hX | apply WFt.drew | apply WFt.alloc))).mono ?_; rintro e1 w1 ⟨rfl, hw1, hg1⟩))
                    all_goals
                      go_wp2_with (fail)
                      go_meet
                      exact ⟨rfl, rfl, by rw [(Aid.unhide ST).2.2.2, ← Aid.unhide N6]; exact WFt.step (s := sc) (by (repeat first | exact hX | apply WFt.drew | apply WFt.alloc)) hw1 hg1, Blk.grown (s := sc) (by (repeat first | exact hP | apply Blk.drew | apply Blk.alloc)) (by decide) (WFt.S (by (repeat first | exact hX | apply WFt.drew | apply WFt.alloc))).hR hg1, grownBy_trans (by (repeat first | exact hW | apply Aid.only_drew | apply Aid.only_alloc)) hg1⟩
                  case rest =>
                    clear hX hP hW p0 f0 f1 s6 C
                    obtain ⟨rfl, rfl, hX, hP, hW⟩ := hcut
                    go_wp2_with (fail)
                    go_loopw [79] (fun i wr => ∃ k : Nat, i = .int .i64 (k : Int) ∧ k ≤ n6 ∧ WFt w0 b g r a A4 c4 (some ad) c9 (sd ++ mk (numsB (x6.take k))) wr ∧ Blk wr h #[.pointer (some P)] 110 ∧ w.grownBy wr (some r)) (fun i _ => n6 - (intOf i).toNat)
                    case atStart => exact ⟨0, rfl, by omega, by rw [List.take_zero, show numsB [] = [] from rfl, app_nil']; exact hX, hP, hW⟩
                    case round =>
                      clear hX hP hW
                      obtain ⟨k, rfl, hk, hX, hP, hW⟩ := hrel
                      by_cases hk6 : k < n6
                      · have hn6 := Aid.unhide N6
                        obtain ⟨ad6, hA6, _⟩ := Kd.at_int (Aid.unhide B).2.2.1 (k : Int) (by omega) (by omega)
                        have hel : ∀ W, Below w0.heap.size w0 W → W.cell? (ad6.add k) = some (.int .i64 x6[k]) := by
                          intro W hB
                          obtain ⟨ad', hA', e0⟩ := Kd.at_int (Kd.C_below (Aid.unhide B).2.2.1 hB) (k : Int) (by omega) (by omega)
                          rw [hA6] at hA'
                          injection hA' with hA'
                          subst hA'
                          rw [Int.toNat_natCast, rd_getElem x6 k (by omega)] at e0
                          exact e0
                        have hbk := (Aid.unhide B).1 x6[k] (List.getElem_mem (by omega))
                        have hzk := (Aid.unhide B).2.2.2.2 k
                        have hst := nums_step sd x6 k (by omega)
                        generalize x6[k] = xk at hel hbk hst
                        have C17 : ∀ W, WFt w0 b g r a A4 c4 (some ad) c9 (sd ++ mk (numsB (x6.take k))) W → Calls Try.prog 99 #[.pointer (some ⟨r, 0, none⟩), .pointer (some (ad6.add k)), .int .i64 2147483647] W _ := fun W h => wnum99 r _ xk 2147483647 _ W h.S.hR (hel W h.S.hB) hbk.1 hbk.2 (by omega)
                        generalize sd ++ mk (numsB (x6.take k)) = sk at *
                        have C := Aid.hide (And.intro C17 hst)
                        clear C17 hst hel hbk hzk hn6
                        have s6 := (Aid.unhide HE wr hX.S.hB).s6
                        try simp only at s6
                        rw [← Aid.unhide N6] at s6
                        rw [hA6] at s6
                        clear hA6
                        have p0 : wr.cell? ⟨h, 0, none⟩ = some (.pointer (some P)) := hP.cell 0
                        have f1 := hX.F.c1
                        go_upto_region 17 with (fail)
                        refine wp_region_tailw 10 (by kernel_rfl) (by kernel_rfl) ?_
                        simp only [List.take_succ_cons, List.take_zero, List.drop_succ_cons, List.drop_zero]
                        repeat still_step
                        refine wpStill_nil ?_
                        go_wp2_with (go_at_call 99; refine ((Aid.unhide C).1 _ (by (repeat first | exact hX | apply WFt.drew | apply WFt.alloc))).mono ?_; rintro e1 w1 ⟨rfl, hw1, hg1⟩)
                        all_goals
                          have hX1 := WFt.step (s := sk) (by (repeat first | exact hX | apply WFt.drew | apply WFt.alloc)) hw1 hg1
                          have hP1 := Blk.grown (s := sk) (h := h) (cs := #[.pointer (some P)]) (t := 110) (by (repeat first | exact hP | apply Blk.drew | apply Blk.alloc)) (by decide) (WFt.S (by (repeat first | exact hX | apply WFt.drew | apply WFt.alloc))).hR hg1
                          have hW1 := grownBy_trans (by (repeat first | exact hW | apply Aid.only_drew | apply Aid.only_alloc)) hg1
                          clear hw1 hg1 hX hP hW s6 p0 f1
                          go_roundw
                          case rel => (repeat apply Exists.intro); exact ⟨⟨k + 1, by go_num, by omega, by rw [← (Aid.unhide C).2]; exact hX1, hP1, hW1⟩, rfl⟩
                          case measure => simp [intOf]; omega
                      · obtain rfl : k = n6 := by omega
                        rw [Aid.unhide N6, List.take_length] at hX
                        go_wp2_with (fail)
                        go_roundw
                        case rel => exact ⟨j + 1, by go_num, by omega, by rw [← (Aid.unhide B).2.1]; exact hX, hW⟩
                        case measure => simp [intOf]; omega
      · obtain rfl : j = n7 := by omega
        go_wp2_with (fail)
        go_end0
        rw [Aid.unhide N7, List.take_length] at hX
        exact ⟨rfl, hX.S, hW⟩
end Go.Proofs.Ytppgbahiolhgbaa
