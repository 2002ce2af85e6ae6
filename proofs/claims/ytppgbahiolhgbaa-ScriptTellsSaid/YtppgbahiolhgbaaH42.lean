/- Contracts and plain laws over the seat, laid together (group 42 of what the claim needs). -/
import Derived.Test.YtppgbahiolhgbaaH41
import Derived.Test.YtppgbahiolhgbaaH38
set_option linter.unusedVariables false
set_option linter.unusedSimpArgs false
namespace Go.Proofs.Ytppgbahiolhgbaa
open Go.RowKit Go.Proofs.YtppgbahiolhgbaaW.PrintWords Sp
open PScriptReads
theorem Blk.grownT {W W1 : World} {h x : Nat} {cs ys : Array Value} {t ty : TypeId} (k : Blk W h cs t) (hg : W.grownBy W1 (some x)) (hx : W.heap[x]? = some (.cells ys ty (0, 0))) (hne : t ≠ ty) : Blk W1 h cs t :=
  blk_grown k hg (fun e => by injection e with e; exact ty_ne k hx hne e)
theorem Blk.took {W W1 : World} {h r : Nat} {p : Addr} {cs ys zs : Array Value} {t tr ty : TypeId} {u : Value} {s : ByteArray} (k : Blk W h cs t) (hT : Took W r p u s W1) (hr : W.heap[r]? = some (.cells ys tr (0, 0))) (hp : W.heap[p.block]? = some (.cells zs ty (0, 0))) (h1 : t ≠ tr) (h2 : t ≠ ty) : Blk W1 h cs t :=
  (hT.far h (ty_ne k hr h1) (ty_ne k hp h2)).trans k
theorem RFt.roomS {w0 : World} {b g r i sb n : Nat} {a : S37} {v4 v9 : Value} {s : ByteArray} {W W1 : World} (h : RFt w0 b g r i a v4 v9 s W) (hA : ActV W1 g a v4 (.slice (some ⟨sb, 0, none⟩) n n)) (hg : W.grownBy W1 (some g)) (hN : NewRow kraw 51 W W1 n (z51, (none, 0, 0)) sb) (hc : ∃ cur, W1.heap[sb]? = some (.cells cur 51 (0, 0))) :
    SSt w0 b g r i sb n a v4 (List.replicate n (z51, (none, 0, 0))) s W1 :=
  ⟨hA, blk_grown h.S.hR hg (fun e => by injection e with e; exact h.S.gr e.symm), blk_grown h.S.hI hg (fun e => by injection e with e; exact h.S.gi e.symm), blk_grown h.F hg (fun e => by injection e with e; exact h.bg e),
    Kd.R_mono (Kd.R_grown (Kd.R_types h.S.hG h.S.hA (by decide)) hg (fun k hk e => by injection e with e; exact hk.2 e)) (fun _ _ => trivial), Kd.R_lower hN.2 h.S.hB.size, hc, fun j p hp => by
      have hp2 := List.mem_of_getElem? hp
      rw [List.mem_replicate] at hp2
      obtain ⟨_, rfl⟩ := hp2
      exact Kd.R_nil _ _ _ _ _, h.S.hB.grown hg h.S.hB.size (by intro k e; injection e with e; subst e; exact h.S.lg), h.S.lg, h.S.lr, h.S.li, Nat.le_trans h.S.hB.size hN.1⟩
theorem rdNums_succ (n : Nat) (l : Bytes) : rdNums (n + 1) l = (numP 2147483647 l).bind fun q1 => (rdNums n q1.2).map fun q => ((q1.1 : Int) :: q.1, q.2) := rfl
theorem SSt.done {w0 : World} {b g r i sb n : Nat} {a : S37} {v4 : Value} {ps : List Raw} {s : ByteArray} {W : World} (h : SSt w0 b g r i sb n a v4 ps s W) {l : List S51} (hl : ps.map (·.1) = l) : RSt w0 g r i { a with f7 := l } v4 (.slice (some ⟨sb, 0, none⟩) n n) s W := by
  subst hl
  obtain ⟨cur, hc⟩ := h.hC
  exact ⟨h.hA, h.hR, h.hI, h.hG, R_of_raw h.hS (fun p hp => by
    obtain ⟨j, hj, e⟩ := List.mem_iff_getElem.1 hp
    exact Kd.R_mono (Kd.R_types (h.hL j p (by rw [← e]; exact List.getElem?_eq_getElem hj)) hc (by decide)) (fun y hy => ⟨trivial, by simp [Value.ownBlock]; exact hy.2⟩)), h.hB, h.lg, h.lr, h.li⟩
theorem own_cur {α : Type} {d : Kd α} {e base : Nat} {ok : Nat → Prop} {W : World} {sb n cap : Nat} {xs : List α} (h : d.R e W base ok (.slice (some ⟨sb, 0, none⟩) n cap) xs) : ∃ cur, W.heap[sb]? = some (.cells cur e (0, 0)) := by
  obtain ⟨inner, ho⟩ := Kd.R_own h
  rcases ho.2 with ⟨h1, _⟩ | ⟨g, cap', cur, h1, _, h3, _⟩
  · injection h1 with h1; exact absurd h1 (by simp)
  · injection h1 with h1
    injection h1 with h1
    injection h1 with h1 _ _
    subst h1
    exact ⟨cur, h3⟩
set_option maxRecDepth 100000 in
set_option maxHeartbeats 16000000 in
theorem rpart52 : RPart 52 rdSteps := by
  intro w0 g r i a v4 v9 s w hs hS
  have hm := meth_rnum
  have hm2 := meth_rtext
  have hmf : ∀ (fn : Fn) (first cap : Array Value) (w : World), (Instr.makeFunc fn first cap).run Try.prog w = .ok (.func fn first cap) w := fun _ _ _ _ => rfl
  obtain ⟨q0, hq0⟩ : ∃ q, q = rdSteps a (L s) := ⟨_, rfl⟩
  rw [← hq0]
  unfold rdSteps at hq0
  have Q0 := Aid.hide hq0
  clear hq0
  obtain ⟨A9, c9, rfl⟩ := Kd.R_slice hS.hS
  go_enter Try.func52, Try.ntmps52
  go_upto_region 1 with (fail)
  have hX := hS.boxed
  have hK : Keep2 w g r (w.alloc (.cells #[.pointer (some ⟨g, 0, none⟩), .iface 88 (.pointer (some ⟨r, 0, none⟩))] 78)) := (Keep2.refl _ _ _).below (below_alloc (Below.refl _ _) _)
  generalize w.alloc (.cells #[.pointer (some ⟨g, 0, none⟩), .iface 88 (.pointer (some ⟨r, 0, none⟩))] 78) = wx at *
  obtain ⟨b, hb⟩ : ∃ b, b = w.heap.size := ⟨_, rfl⟩
  rw [← hb] at hX ⊢
  clear hS hb
  have k9 := hX.S.hA.ten.k9
  have f0 := hX.F.c0
  have f1 := hX.F.c1
  cases hn : numP 64 (L s) with
  | none =>
    as_aux_lemma =>
    have C := Aid.hide (fun W n0 fv (k : RFt w0 b g r i a v4 (.slice A9 a.f7.length c9) s W) => rrows63_no g r n0 64 s fv W k.S.hR (by omega) hn)
    have H := Aid.hide (And.intro hX hK)
    clear hX hK
    go_region_with ((go_at_call 63; refine (Aid.unhide C _ _ _ (by (repeat first | exact (Aid.unhide H).1 | apply RFt.drew | apply RFt.alloc))).mono ?_; rintro e1 w1 ⟨rfl, hD⟩; refine (fun (_ : wpAny Try.prog .any #[] (fun _ _ _ => True) 0 #[] ⟨#[], []⟩ w1) => ?_) ?_; · (refine ⟨rfl, ?_⟩; rw [Aid.unhide Q0, hn, Option.bind_none]; exact ⟨rfl, RSt.dead (RFt.S (RFt.below (W := _) (by (repeat first | exact (Aid.unhide H).1 | apply RFt.drew | apply RFt.alloc)) hD))⟩)))
    all_goals trivial
  | some z =>
    obtain ⟨n, t0⟩ := z
    obtain ⟨hn6, hlt0⟩ := numP_le hn
    rw [L_len] at hlt0
    have hz0 : t0.length ≤ 1000000 := by omega
    have C := Aid.hide (fun W n0 (k : RFt w0 b g r i a v4 (.slice A9 a.f7.length c9) s W) => rrows63 65 (Or.inr (Or.inl rfl)) b g r n0 64 n s t0 W k.S.hR (by omega) hn (fun W1 w' => ∃ sb, NewRow kraw 51 W1 w' n (z51, (none, 0, 0)) sb ∧ ActV w' g a v4 (.slice (some ⟨sb, 0, none⟩) n n) ∧ W1.grownBy w' (some g))
      (fun W1 hg hr => (room65 b g 88 r n a v4 (.slice A9 a.f7.length c9) W1 (by omega) (k.step hr hg).F (k.step hr hg).S.hA).mono (fun e w' ⟨h1, sb, h2, h3, h4⟩ => ⟨h1, ⟨sb, h2, h3, h4⟩, g, k.S.hA.lt, h4⟩)))
    have H := Aid.hide (And.intro hX hK)
    have HN := Aid.hide hn
    clear hX hK hn
    go_cut [16, 17] (fun x ii wy => x = .int .i64 (n : Int) ∧ ii = .int .i64 0 ∧ ∃ sb, w.heap.size ≤ sb ∧ SSt w0 b g r i sb n a v4 (List.replicate n (z51, (none, 0, 0))) (mk t0) wy ∧ Keep2 w g r wy)
    case first =>
      as_aux_lemma =>
      go_region_with ((go_at_call 63; refine (Aid.unhide C _ _ (by (repeat first | exact (Aid.unhide H).1 | apply RFt.drew | apply RFt.alloc))).mono ?_; rintro e1 w1 ⟨rfl, W1, hg, hr, sb, hN, hA, hgg⟩))
      all_goals
        have hX := RFt.step (s := s) (by (repeat first | exact (Aid.unhide H).1 | apply RFt.drew | apply RFt.alloc)) hr hg
        have hK := ((Aid.unhide H).2.below (by (repeat first | exact Below.refl _ _ | apply below_drew | apply below_alloc))).grown hg
        have hgb : w.heap.size ≤ sb := Nat.le_trans hK.1 hN.1
        clear hg hr
        go_wp2_with (fail)
        go_meet
        exact ⟨rfl, rfl, sb, hgb, hX.roomS hA hgg hN (own_cur hN.2), hK.grown_g hgg⟩
    case rest =>
      obtain ⟨rfl, rfl, sb, hgb, hX, hK⟩ := hcut
      clear k9 f0 f1 C H
      go_wp2_with (fail)
      go_loopw [17] (fun ii wr => ∃ (k : Nat) (qs : List Raw) (t : Bytes), ii = .int .i64 (k : Int) ∧ k ≤ n ∧ t.length ≤ 1000000 ∧ Hid (qs.length = k) ∧ Hid (rdSl n t0 = (rdSl (n - k) t).map fun q => (qs.map (·.1) ++ q.1, q.2)) ∧ SSt w0 b g r i sb n a v4 (qs ++ List.replicate (n - k) (z51, (none, 0, 0))) (mk t) wr ∧ Keep2 w g r wr) (fun ii _ => n - (intOf ii).toNat)
      case atStart => exact ⟨0, [], t0, rfl, by omega, hz0, rfl, by show _ = _; rw [Nat.sub_zero]; cases rdSl n t0 <;> rfl, by rw [Nat.sub_zero]; exact hX, hK⟩
      case round =>
        clear hX hK
        obtain ⟨k, qs, t, rfl, hk, hzt, hxl, hq, hX, hK⟩ := hrel
        by_cases hlt : k < n
        · obtain ⟨m, hmk⟩ : ∃ m, n - k = m + 1 := ⟨n - k - 1, by omega⟩
          have hq2 := hq.out
          rw [hmk] at hq2 hX
          rw [rdSl] at hq2
          have hget : (qs ++ List.replicate (m + 1) ((z51, (none, 0, 0)) : Raw))[k]? = some (z51, (none, 0, 0)) := by
            rw [List.getElem?_append_right (by rw [hxl.out]; exact Nat.le_refl _), hxl.out, Nat.sub_self]; rfl
          have hset : ∀ y : Raw, (qs ++ List.replicate (m + 1) ((z51, (none, 0, 0)) : Raw)).set k y = (qs ++ [y]) ++ List.replicate m (z51, (none, 0, 0)) := by
            intro y
            rw [← hxl.out, List.set_append_right _ _ (Nat.le_refl _), Nat.sub_self, List.append_assoc]; rfl
          generalize hys : qs ++ List.replicate (m + 1) ((z51, (none, 0, 0)) : Raw) = ps at *
          clear hys
          have hkp := (List.getElem?_eq_some_iff.1 hget).1
          have hgy : ∀ y : Raw, (ps.set k y)[k]? = some y := fun y => List.getElem?_set_self hkp
          have k9 := hX.hA.ten.k9
          have f0 := hX.hF.c0
          have B := Aid.hide (And.intro hq2 (And.intro hget (And.intro hset (And.intro hmk hgy))))
          clear hq2 hget hset hmk hq hkp hgy
          go_upto_region 5 with (fail)
          have hX1 := hX.alloc (.cells #[.pointer (some ⟨sb, k * 7, none⟩)] 110)
          have hP1 := Blk.new wr #[.pointer (some ⟨sb, k * 7, none⟩)] 110
          have hK1 := hK.below (below_alloc (Below.refl _ _) (.cells #[.pointer (some ⟨sb, k * 7, none⟩)] 110))
          generalize wr.alloc (.cells #[.pointer (some ⟨sb, k * 7, none⟩)] 110) = wx2 at *
          generalize wr.heap.size = h at hP1 ⊢
          clear hX hK k9 f0
          have p0 : wx2.cell? ⟨h, 0, none⟩ = some (.pointer (some ⟨sb, k * 7, none⟩)) := hP1.cell 0
          have v0 : wx2.cell? ⟨sb, k * 7, none⟩ = some (.int .u8 0) := hX1.at_ (Aid.unhide B).2.1 0 _ rfl
          go_upto_region 6 with (fail)
          have hXd := hX1.alloc (.cells #[.int .i64 0] 3)
          have hPd := hP1.alloc (.cells #[.int .i64 0] 3)
          have hD := Blk.new wx2 #[.int .i64 0] 3
          have hGd : wx2.grownBy (wx2.alloc (.cells #[.int .i64 0] 3)) (some r) := World.grownBy_alloc _ _ _
          have hKs : w.heap.size ≤ wx2.heap.size := hK1.1
          generalize wx2.alloc (.cells #[.int .i64 0] 3) = wy at *
          obtain ⟨d, hd⟩ : ∃ d, d = wx2.heap.size := ⟨_, rfl⟩
          rw [← hd] at hD ⊢
          have hdd : wx2.heap.size ≤ d := by omega
          clear hd p0 v0
          have f1 := hXd.hF.c1
          have hdr : d ≠ r := ty_ne hD hXd.hR (by decide)
          cases h0 : numP 9 t with
          | none =>
            as_aux_lemma =>
            have C := Aid.hide (rnum103_no r ⟨d, 0, none⟩ 9 (mk t) wy hXd.hR (by omega) (by rw [L_mk]; exact h0))
            have H := Aid.hide hXd
            clear hXd hX1 hK1 hP1 hPd hD hGd
            go_wp2_with (go_at_call 103; refine (Aid.unhide C).mono ?_; rintro e1 w1 ⟨rfl, rfl⟩)
            refine ⟨rfl, ?_⟩
            rw [Aid.unhide Q0, Aid.unhide HN, Option.bind_some, (Aid.unhide B).1]
            unfold rdStep
            rw [h0]
            exact ⟨rfl, (Aid.unhide H).dead⟩
          | some z =>
            obtain ⟨v0, t1⟩ := z
            obtain ⟨hv0, hzt1⟩ := numP_le h0
            have hz1 : t1.length ≤ 1000000 := by omega
            have C := Aid.hide (rnum103_ok r ⟨d, 0, none⟩ 9 v0 0 (mk t) t1 wy hXd.hR (hD.cell 0) (by have h := hD; unfold Blk at h; simp [World.frozen?, h]) hdr (by omega) (by rw [L_mk]; exact h0))
            have S0 := Aid.hide h0
            have H := Aid.hide (And.intro hX1 (And.intro hP1 (And.intro hK1 (And.intro hGd hD))))
            clear hXd hPd hX1 hP1 hK1 hGd hD h0
            go_upto_region 7 with (go_at_call 103; refine (Aid.unhide C).mono ?_; rintro e1 w1 ⟨rfl, hT⟩)
            have hG1 := took_grown (Aid.unhide H).2.2.2.1 hT hdd
            have hX := (Aid.unhide H).1.step hT.rd hG1
            have hP := Blk.grownT (Aid.unhide H).2.1 hG1 (Aid.unhide H).1.hR (by decide)
            have hK := (Aid.unhide H).2.2.1.grown hG1
            have hD : Blk w1 d #[.int .i64 (v0 : Int)] 3 := took_cell (Aid.unhide H).2.2.2.2 hT
            clear hT hG1 H C f1 hdr hdd hKs
            have p0 : w1.cell? ⟨h, 0, none⟩ = some (.pointer (some ⟨sb, k * 7, none⟩)) := hP.cell 0
            have d0 : w1.cell? ⟨d, 0, none⟩ = some (.int .i64 (v0 : Int)) := hD.cell 0
            have c0 : w1.cell? ⟨sb, k * 7, none⟩ = some (.int .u8 0) := hX.at_ (Aid.unhide B).2.1 0 _ rfl
            have fz := hX.frz (k * 7)
            have wu : IntKind.u8.wrap (v0 : Int) = (v0 : Int) := IntWalk.u8_in _ ⟨by omega, by omega⟩
            go_upto_region 8 with (fail)
            have hX2 := hX.put (k := k) (Aid.unhide B).2.1 (x' := ⟨(v0 : Int), 0, 0, 0, 0, ⟨#[]⟩, []⟩) (j := 0) (u := .int .u8 (v0 : Int)) (by omega) rfl rfl
            have hP2 : Blk (w1.setCell ⟨sb, k * 7, none⟩ (.int .u8 (v0 : Int))) h #[.pointer (some ⟨sb, k * 7, none⟩)] 110 := blk_far hP (by obtain ⟨cur, hc⟩ := hX.hC; exact ty_ne hP hc (by decide))
            have hK2 : Keep2 w g r (w1.setCell ⟨sb, k * 7, none⟩ (.int .u8 (v0 : Int))) := ⟨by simp [World.setCell]; exact hK.1, fun x hx h1 h2 => (Below.heap_setCell w1 ⟨sb, k * 7, none⟩ _ x (by show x ≠ sb; omega)).trans (hK.2 x hx h1 h2)⟩
            rw [Nat.add_zero] at hX2
            generalize w1.setCell ⟨sb, k * 7, none⟩ (.int .u8 (v0 : Int)) = wz at *
            clear hX hP hK hD p0 d0 c0 fz wu
            have p0 : wz.cell? ⟨h, 0, none⟩ = some (.pointer (some ⟨sb, k * 7, none⟩)) := hP2.cell 0
            have hlh : h < wz.heap.size := blk_lt hP2
            go_cut [52, 53, 54] (fun sl nn ii wx => ∃ l : Nat, sl = .slice (some ⟨l, 0, none⟩) 4 4 ∧ nn = .int .i64 4 ∧ ii = .int .i64 0 ∧ SSt w0 b g r i sb n a v4 (ps.set k (⟨(v0 : Int), 0, 0, 0, 0, ⟨#[]⟩, []⟩, (none, 0, 0))) (mk t1) wx ∧ Blk wx h #[.pointer (some ⟨sb, k * 7, none⟩)] 110 ∧ Blk wx l (ptrs ⟨sb, k * 7, none⟩) 105 ∧ Keep2 w g r wx)
            case first =>
              as_aux_lemma =>
              go_region_held3 (fun w' => w'.cell? ⟨h, 0, none⟩ = some (.pointer (some ⟨sb, k * 7, none⟩)))
                (((refine (Below.cell (B := wz.heap.size) (w := wz) ?_ hlh).trans p0); (repeat first | exact Below.refl _ _ | apply below_drew | apply below_alloc)))
                (first | fail)
              all_goals
                go_wp2_with (fail)
                go_meet
                exact ⟨_, rfl, rfl, rfl, (by (repeat first | exact hX2 | apply SSt.drew | apply SSt.alloc)), (by (repeat first | exact hP2 | apply Blk.drew | apply Blk.alloc)), (by (repeat first | exact Blk.new _ _ _ | apply Blk.drew)), (hK2.below (by (repeat first | exact Below.refl _ _ | apply below_drew | apply below_alloc)))⟩
            case rest =>
              clear hX2 hP2 hK2 p0 hlh
              obtain ⟨l, rfl, rfl, rfl, hX, hP, hL, hK⟩ := hcut
              go_wp2_with (fail)
              obtain ⟨wo, hwo⟩ : ∃ wo, wo = wr := ⟨_, rfl⟩
              clear hwo
              go_loopw [54] (fun ii wr => ∃ (k2 : Nat) (ns : List Int) (t : Bytes), ii = .int .i64 (k2 : Int) ∧ k2 ≤ 4 ∧ t.length ≤ 1000000 ∧ Hid (ns.length = k2) ∧ Hid (rdNums 4 t1 = (rdNums (4 - k2) t).map fun q => (ns ++ q.1, q.2)) ∧ SSt w0 b g r i sb n a v4 (ps.set k (⟨(v0 : Int), n4 ns 0, n4 ns 1, n4 ns 2, n4 ns 3, ⟨#[]⟩, []⟩, (none, 0, 0))) (mk t) wr ∧ Blk wr h #[.pointer (some ⟨sb, k * 7, none⟩)] 110 ∧ Blk wr l (ptrs ⟨sb, k * 7, none⟩) 105 ∧ Keep2 w g r wr) (fun ii _ => 4 - (intOf ii).toNat)
              case atStart => exact ⟨0, [], t1, rfl, by omega, hz1, rfl, (by show _ = _; cases rdNums 4 t1 <;> rfl), hX, hP, hL, hK⟩
              case round =>
                clear hX hP hL hK
                obtain ⟨k2, ns, t2, rfl, hk2, hz2, hns, hqn, hX, hP, hL, hK⟩ := hrel
                by_cases hk4 : k2 < 4
                · have hcs : (k2 = 0 ∧ ns = []) ∨ (∃ x1, k2 = 1 ∧ ns = [x1]) ∨ (∃ x1 x2, k2 = 2 ∧ ns = [x1, x2]) ∨ (∃ x1 x2 x3, k2 = 3 ∧ ns = [x1, x2, x3]) := by
                    have hl := hns.out
                    match ns, hl with
                    | [], hl => exact Or.inl ⟨by simpa using hl.symm, rfl⟩
                    | [x1], hl => exact Or.inr (Or.inl ⟨x1, by simpa using hl.symm, rfl⟩)
                    | [x1, x2], hl => exact Or.inr (Or.inr (Or.inl ⟨x1, x2, by simpa using hl.symm, rfl⟩))
                    | [x1, x2, x3], hl => exact Or.inr (Or.inr (Or.inr ⟨x1, x2, x3, by simpa using hl.symm, rfl⟩))
                    | _ :: _ :: _ :: _ :: _, hl => simp at hl; omega
                  clear hns hk2 hk4
                  rcases hcs with ⟨rfl, rfl⟩ | ⟨x1, rfl, rfl⟩ | ⟨x1, x2, rfl, rfl⟩ | ⟨x1, x2, x3, rfl, rfl⟩
                  · have hX : SSt w0 b g r i sb n a v4 (ps.set k (⟨(v0 : Int), 0, 0, 0, 0, ⟨#[]⟩, []⟩, (none, 0, 0))) (mk t2) wr := hX
                    have l0 : wr.cell? ⟨l, 0, none⟩ = some (.pointer (some ⟨sb, k * 7 + 1, none⟩)) := hL.cell 0
                    have f1 := hX.hF.c1
                    have hqn2 := hqn.out
                    clear hqn
                    cases hh : numP 2147483647 t2 with
                    | none =>
                      as_aux_lemma =>
                      have C := Aid.hide (rnum103_no r ⟨sb, k * 7 + 1, none⟩ 2147483647 (mk t2) wr hX.hR (by omega) (by rw [L_mk]; exact hh))
                      have H := Aid.hide (And.intro hX hqn2)
                      clear hX hP hL hK hqn2
                      go_wp2_with (go_at_call 103; refine (Aid.unhide C).mono ?_; rintro e1 w1 ⟨rfl, rfl⟩)
                      refine ⟨rfl, ?_⟩
                      rw [Aid.unhide Q0, Aid.unhide HN, Option.bind_some, (Aid.unhide B).1]
                      unfold rdStep
                      rw [Aid.unhide S0, Option.bind_some, (Aid.unhide H).2, show 4 - 0 = 3 + 1 from rfl, rdNums_succ, hh]
                      exact ⟨rfl, (Aid.unhide H).1.dead⟩
                    | some z =>
                      obtain ⟨v, t3⟩ := z
                      obtain ⟨_, hzt3⟩ := numP_le hh
                      have C := Aid.hide (rnum103_ok r ⟨sb, k * 7 + 1, none⟩ 2147483647 v 0 (mk t2) t3 wr hX.hR (hX.at_ ((Aid.unhide B).2.2.2.2 _) 1 _ rfl) (hX.frz _) hX.sr (by omega) (by rw [L_mk]; exact hh))
                      have H := Aid.hide (And.intro hX (And.intro hP (And.intro hL (And.intro hK hqn2))))
                      clear hX hP hL hK hqn2
                      go_wp2_with (go_at_call 103; refine (Aid.unhide C).mono ?_; rintro e1 w1 ⟨rfl, hT⟩)
                      have hXn := (Aid.unhide H).1.took ((Aid.unhide B).2.2.2.2 _) hT (by omega) (x' := ⟨(v0 : Int), (v : Int), 0, 0, 0, ⟨#[]⟩, []⟩) rfl rfl
                      rw [List.set_set] at hXn
                      obtain ⟨cur, hcur⟩ := (Aid.unhide H).1.hC
                      go_roundw
                      case rel => exact ⟨1, [(v : Int)], t3, by go_num, by omega, by omega, rfl, (by show _ = _; rw [(Aid.unhide H).2.2.2.2, show 4 - 0 = 3 + 1 from rfl, rdNums_succ, hh, Option.bind_some, show 4 - 1 = 3 from rfl]; cases rdNums 3 t3 <;> rfl), hXn, Blk.took (Aid.unhide H).2.1 hT (Aid.unhide H).1.hR hcur (by decide) (by decide), Blk.took (Aid.unhide H).2.2.1 hT (Aid.unhide H).1.hR hcur (by decide) (by decide), Keep2.tookn (Aid.unhide H).2.2.2.1 hT hgb⟩
                      case measure => simp [intOf]
                  · have hX : SSt w0 b g r i sb n a v4 (ps.set k (⟨(v0 : Int), x1, 0, 0, 0, ⟨#[]⟩, []⟩, (none, 0, 0))) (mk t2) wr := hX
                    have l0 : wr.cell? ⟨l, 1, none⟩ = some (.pointer (some ⟨sb, k * 7 + 2, none⟩)) := hL.cell 1
                    have f1 := hX.hF.c1
                    have hqn2 := hqn.out
                    clear hqn
                    cases hh : numP 2147483647 t2 with
                    | none =>
                      as_aux_lemma =>
                      have C := Aid.hide (rnum103_no r ⟨sb, k * 7 + 2, none⟩ 2147483647 (mk t2) wr hX.hR (by omega) (by rw [L_mk]; exact hh))
                      have H := Aid.hide (And.intro hX hqn2)
                      clear hX hP hL hK hqn2
                      go_wp2_with (go_at_call 103; refine (Aid.unhide C).mono ?_; rintro e1 w1 ⟨rfl, rfl⟩)
                      refine ⟨rfl, ?_⟩
                      rw [Aid.unhide Q0, Aid.unhide HN, Option.bind_some, (Aid.unhide B).1]
                      unfold rdStep
                      rw [Aid.unhide S0, Option.bind_some, (Aid.unhide H).2, show 4 - 1 = 2 + 1 from rfl, rdNums_succ, hh]
                      exact ⟨rfl, (Aid.unhide H).1.dead⟩
                    | some z =>
                      obtain ⟨v, t3⟩ := z
                      obtain ⟨_, hzt3⟩ := numP_le hh
                      have C := Aid.hide (rnum103_ok r ⟨sb, k * 7 + 2, none⟩ 2147483647 v 0 (mk t2) t3 wr hX.hR (hX.at_ ((Aid.unhide B).2.2.2.2 _) 2 _ rfl) (hX.frz _) hX.sr (by omega) (by rw [L_mk]; exact hh))
                      have H := Aid.hide (And.intro hX (And.intro hP (And.intro hL (And.intro hK hqn2))))
                      clear hX hP hL hK hqn2
                      go_wp2_with (go_at_call 103; refine (Aid.unhide C).mono ?_; rintro e1 w1 ⟨rfl, hT⟩)
                      have hXn := (Aid.unhide H).1.took ((Aid.unhide B).2.2.2.2 _) hT (by omega) (x' := ⟨(v0 : Int), x1, (v : Int), 0, 0, ⟨#[]⟩, []⟩) rfl rfl
                      rw [List.set_set] at hXn
                      obtain ⟨cur, hcur⟩ := (Aid.unhide H).1.hC
                      go_roundw
                      case rel => exact ⟨2, [x1, (v : Int)], t3, by go_num, by omega, by omega, rfl, (by show _ = _; rw [(Aid.unhide H).2.2.2.2, show 4 - 1 = 2 + 1 from rfl, rdNums_succ, hh, Option.bind_some, show 4 - 2 = 2 from rfl]; cases rdNums 2 t3 <;> rfl), hXn, Blk.took (Aid.unhide H).2.1 hT (Aid.unhide H).1.hR hcur (by decide) (by decide), Blk.took (Aid.unhide H).2.2.1 hT (Aid.unhide H).1.hR hcur (by decide) (by decide), Keep2.tookn (Aid.unhide H).2.2.2.1 hT hgb⟩
                      case measure => simp [intOf]
                  · have hX : SSt w0 b g r i sb n a v4 (ps.set k (⟨(v0 : Int), x1, x2, 0, 0, ⟨#[]⟩, []⟩, (none, 0, 0))) (mk t2) wr := hX
                    have l0 : wr.cell? ⟨l, 2, none⟩ = some (.pointer (some ⟨sb, k * 7 + 3, none⟩)) := hL.cell 2
                    have f1 := hX.hF.c1
                    have hqn2 := hqn.out
                    clear hqn
                    cases hh : numP 2147483647 t2 with
                    | none =>
                      as_aux_lemma =>
                      have C := Aid.hide (rnum103_no r ⟨sb, k * 7 + 3, none⟩ 2147483647 (mk t2) wr hX.hR (by omega) (by rw [L_mk]; exact hh))
                      have H := Aid.hide (And.intro hX hqn2)
                      clear hX hP hL hK hqn2
                      go_wp2_with (go_at_call 103; refine (Aid.unhide C).mono ?_; rintro e1 w1 ⟨rfl, rfl⟩)
                      refine ⟨rfl, ?_⟩
                      rw [Aid.unhide Q0, Aid.unhide HN, Option.bind_some, (Aid.unhide B).1]
                      unfold rdStep
                      rw [Aid.unhide S0, Option.bind_some, (Aid.unhide H).2, show 4 - 2 = 1 + 1 from rfl, rdNums_succ, hh]
                      exact ⟨rfl, (Aid.unhide H).1.dead⟩
                    | some z =>
                      obtain ⟨v, t3⟩ := z
                      obtain ⟨_, hzt3⟩ := numP_le hh
                      have C := Aid.hide (rnum103_ok r ⟨sb, k * 7 + 3, none⟩ 2147483647 v 0 (mk t2) t3 wr hX.hR (hX.at_ ((Aid.unhide B).2.2.2.2 _) 3 _ rfl) (hX.frz _) hX.sr (by omega) (by rw [L_mk]; exact hh))
                      have H := Aid.hide (And.intro hX (And.intro hP (And.intro hL (And.intro hK hqn2))))
                      clear hX hP hL hK hqn2
                      go_wp2_with (go_at_call 103; refine (Aid.unhide C).mono ?_; rintro e1 w1 ⟨rfl, hT⟩)
                      have hXn := (Aid.unhide H).1.took ((Aid.unhide B).2.2.2.2 _) hT (by omega) (x' := ⟨(v0 : Int), x1, x2, (v : Int), 0, ⟨#[]⟩, []⟩) rfl rfl
                      rw [List.set_set] at hXn
                      obtain ⟨cur, hcur⟩ := (Aid.unhide H).1.hC
                      go_roundw
                      case rel => exact ⟨3, [x1, x2, (v : Int)], t3, by go_num, by omega, by omega, rfl, (by show _ = _; rw [(Aid.unhide H).2.2.2.2, show 4 - 2 = 1 + 1 from rfl, rdNums_succ, hh, Option.bind_some, show 4 - 3 = 1 from rfl]; cases rdNums 1 t3 <;> rfl), hXn, Blk.took (Aid.unhide H).2.1 hT (Aid.unhide H).1.hR hcur (by decide) (by decide), Blk.took (Aid.unhide H).2.2.1 hT (Aid.unhide H).1.hR hcur (by decide) (by decide), Keep2.tookn (Aid.unhide H).2.2.2.1 hT hgb⟩
                      case measure => simp [intOf]
                  · have hX : SSt w0 b g r i sb n a v4 (ps.set k (⟨(v0 : Int), x1, x2, x3, 0, ⟨#[]⟩, []⟩, (none, 0, 0))) (mk t2) wr := hX
                    have l0 : wr.cell? ⟨l, 3, none⟩ = some (.pointer (some ⟨sb, k * 7 + 4, none⟩)) := hL.cell 3
                    have f1 := hX.hF.c1
                    have hqn2 := hqn.out
                    clear hqn
                    cases hh : numP 2147483647 t2 with
                    | none =>
                      as_aux_lemma =>
                      have C := Aid.hide (rnum103_no r ⟨sb, k * 7 + 4, none⟩ 2147483647 (mk t2) wr hX.hR (by omega) (by rw [L_mk]; exact hh))
                      have H := Aid.hide (And.intro hX hqn2)
                      clear hX hP hL hK hqn2
                      go_wp2_with (go_at_call 103; refine (Aid.unhide C).mono ?_; rintro e1 w1 ⟨rfl, rfl⟩)
                      refine ⟨rfl, ?_⟩
                      rw [Aid.unhide Q0, Aid.unhide HN, Option.bind_some, (Aid.unhide B).1]
                      unfold rdStep
                      rw [Aid.unhide S0, Option.bind_some, (Aid.unhide H).2, show 4 - 3 = 0 + 1 from rfl, rdNums_succ, hh]
                      exact ⟨rfl, (Aid.unhide H).1.dead⟩
                    | some z =>
                      obtain ⟨v, t3⟩ := z
                      obtain ⟨_, hzt3⟩ := numP_le hh
                      have C := Aid.hide (rnum103_ok r ⟨sb, k * 7 + 4, none⟩ 2147483647 v 0 (mk t2) t3 wr hX.hR (hX.at_ ((Aid.unhide B).2.2.2.2 _) 4 _ rfl) (hX.frz _) hX.sr (by omega) (by rw [L_mk]; exact hh))
                      have H := Aid.hide (And.intro hX (And.intro hP (And.intro hL (And.intro hK hqn2))))
                      clear hX hP hL hK hqn2
                      go_wp2_with (go_at_call 103; refine (Aid.unhide C).mono ?_; rintro e1 w1 ⟨rfl, hT⟩)
                      have hXn := (Aid.unhide H).1.took ((Aid.unhide B).2.2.2.2 _) hT (by omega) (x' := ⟨(v0 : Int), x1, x2, x3, (v : Int), ⟨#[]⟩, []⟩) rfl rfl
                      rw [List.set_set] at hXn
                      obtain ⟨cur, hcur⟩ := (Aid.unhide H).1.hC
                      go_roundw
                      case rel => exact ⟨4, [x1, x2, x3, (v : Int)], t3, by go_num, by omega, by omega, rfl, (by show _ = _; rw [(Aid.unhide H).2.2.2.2, show 4 - 3 = 0 + 1 from rfl, rdNums_succ, hh, Option.bind_some, show 4 - 4 = 0 from rfl]; cases rdNums 0 t3 <;> rfl), hXn, Blk.took (Aid.unhide H).2.1 hT (Aid.unhide H).1.hR hcur (by decide) (by decide), Blk.took (Aid.unhide H).2.2.1 hT (Aid.unhide H).1.hR hcur (by decide) (by decide), Keep2.tookn (Aid.unhide H).2.2.2.1 hT hgb⟩
                      case measure => simp [intOf]
                · obtain rfl : k2 = 4 := by omega
                  obtain ⟨x1, x2, x3, x4, rfl⟩ : ∃ x1 x2 x3 x4, ns = [x1, x2, x3, x4] := by
                    have hl := hns.out
                    match ns, hl with
                    | [x1, x2, x3, x4], _ => exact ⟨x1, x2, x3, x4, rfl⟩
                  have hX : SSt w0 b g r i sb n a v4 (ps.set k (⟨(v0 : Int), x1, x2, x3, x4, ⟨#[]⟩, []⟩, (none, 0, 0))) (mk t2) wr := hX
                  have hqn2 : rdNums 4 t1 = some ([x1, x2, x3, x4], t2) := hqn.out
                  have NQ := Aid.hide hqn2
                  clear hqn hqn2 hns hk2 hk4 hL
                  go_upto_region 13 with (fail)
                  have p0 : wr.cell? ⟨h, 0, none⟩ = some (.pointer (some ⟨sb, k * 7, none⟩)) := hP.cell 0
                  have f1 := hX.hF.c1
                  cases h5 : textP 1024 t2 with
                  | none =>
                    as_aux_lemma =>
                    have C := Aid.hide (fun W (k' : SSt w0 b g r i sb n a v4 (ps.set k (⟨(v0 : Int), x1, x2, x3, x4, ⟨#[]⟩, []⟩, (none, 0, 0))) (mk t2) W) => rtext104_no r ⟨sb, k * 7 + 5, none⟩ 1024 (mk t2) W k'.hR (by omega) (by rw [size_mk]; omega) (by rw [L_mk]; exact h5))
                    have H := Aid.hide hX
                    clear hX hP hK
                    refine wp_region_tail 7 (by kernel_rfl) (by kernel_rfl) ?_
                    simp only [List.take_succ_cons, List.take_zero, List.drop_succ_cons, List.drop_zero]
                    repeat still_step
                    refine wpStill_nil ?_
                    go_wp2_with (go_at_call 104; refine (Aid.unhide C _ (by (repeat first | exact Aid.unhide H | apply SSt.drew | apply SSt.alloc))).mono ?_; rintro e1 w1 ⟨rfl, rfl⟩)
                    refine ⟨rfl, ?_⟩
                    rw [Aid.unhide Q0, Aid.unhide HN, Option.bind_some, (Aid.unhide B).1]
                    unfold rdStep
                    rw [Aid.unhide S0, Option.bind_some, Aid.unhide NQ, Option.bind_some, h5]
                    exact ⟨rfl, SSt.dead (by (repeat first | exact Aid.unhide H | apply SSt.drew | apply SSt.alloc))⟩
                  | some z =>
                    obtain ⟨v5, t3⟩ := z
                    have hzt3 := textP_le h5
                    have C := Aid.hide (fun W (k' : SSt w0 b g r i sb n a v4 (ps.set k (⟨(v0 : Int), x1, x2, x3, x4, ⟨#[]⟩, []⟩, (none, 0, 0))) (mk t2) W) => rtext104_ok r ⟨sb, k * 7 + 5, none⟩ 1024 _ v5 (mk t2) t3 W k'.hR (k'.at_ ((Aid.unhide B).2.2.2.2 _) 5 _ rfl) (k'.frz _) k'.sr (by omega) (by rw [size_mk]; omega) (by rw [L_mk]; exact h5))
                    have S5 := Aid.hide h5
                    have H := Aid.hide (And.intro hX (And.intro hP hK))
                    clear hX hP hK h5
                    refine wp_region_tail 7 (by kernel_rfl) (by kernel_rfl) ?_
                    simp only [List.take_succ_cons, List.take_zero, List.drop_succ_cons, List.drop_zero]
                    repeat still_step
                    refine wpStill_nil ?_
                    go_upto_region 14 with (go_at_call 104; refine (Aid.unhide C _ (by (repeat first | exact (Aid.unhide H).1 | apply SSt.drew | apply SSt.alloc))).mono ?_; rintro e1 w1 ⟨rfl, hT⟩)
                    have hXo : SSt w0 b g r i sb n a v4 (ps.set k (⟨(v0 : Int), x1, x2, x3, x4, ⟨#[]⟩, []⟩, (none, 0, 0))) (mk t2) wr.drew := (by (repeat first | exact (Aid.unhide H).1 | apply SSt.drew | apply SSt.alloc))
                    have hX := hXo.took ((Aid.unhide B).2.2.2.2 _) hT (by omega) (x' := ⟨(v0 : Int), x1, x2, x3, x4, mk v5, []⟩) rfl rfl
                    rw [List.set_set] at hX
                    obtain ⟨cur, hcur⟩ := hXo.hC
                    have hP := Blk.took (h := h) (cs := #[.pointer (some ⟨sb, k * 7, none⟩)]) (t := 110) (by (repeat first | exact (Aid.unhide H).2.1 | apply Blk.drew | apply Blk.alloc)) hT hXo.hR hcur (by decide) (by decide)
                    have hK := Keep2.tookn ((Aid.unhide H).2.2.below (by (repeat first | exact Below.refl _ _ | apply below_drew | apply below_alloc))) hT hgb
                    clear hXo hT hcur H C p0 f1
                    have p0 : w1.cell? ⟨h, 0, none⟩ = some (.pointer (some ⟨sb, k * 7, none⟩)) := hP.cell 0
                    have f0 := hX.hF.c0
                    have f1 := hX.hF.c1
                    have s6 : w1.cell? ⟨sb, k * 7 + 6, none⟩ = some (.slice none 0 0) := hX.at_ ((Aid.unhide B).2.2.2.2 _) 6 _ rfl
                    have hz3 : t3.length ≤ 1000000 := by omega
                    cases h6 : numP 32 t3 with
                    | none =>
                      as_aux_lemma =>
                      have C := Aid.hide (fun W n0 fv (k' : SSt w0 b g r i sb n a v4 (ps.set k (⟨(v0 : Int), x1, x2, x3, x4, mk v5, []⟩, (none, 0, 0))) (mk t3) W) => rrows63_no g r n0 32 (mk t3) fv W k'.hR (by omega) (by rw [L_mk]; exact h6))
                      have H := Aid.hide hX
                      clear hX hP hK
                      go_region_with ((go_at_call 63; refine (Aid.unhide C _ _ _ (by (repeat first | exact Aid.unhide H | apply SSt.drew | apply SSt.alloc))).mono ?_; rintro e1 w1 ⟨rfl, hD⟩; refine (fun (_ : wpAny Try.prog .any #[] (fun _ _ _ => True) 0 #[] ⟨#[], []⟩ w1) => ?_) ?_; · (refine ⟨rfl, ?_⟩; rw [Aid.unhide Q0, Aid.unhide HN, Option.bind_some, (Aid.unhide B).1]; unfold rdStep; rw [Aid.unhide S0, Option.bind_some, Aid.unhide NQ, Option.bind_some, Aid.unhide S5, Option.bind_some, h6]; exact ⟨rfl, SSt.dead (SSt.below (W := _) (by (repeat first | exact Aid.unhide H | apply SSt.drew | apply SSt.alloc)) hD)⟩)))
                      all_goals trivial
                    | some z =>
                      obtain ⟨m6, t4⟩ := z
                      obtain ⟨hm6, hzt4⟩ := numP_le h6
                      have hz4 : t4.length ≤ 1000000 := by omega
                      have C := Aid.hide (fun W n0 (k' : SSt w0 b g r i sb n a v4 (ps.set k (⟨(v0 : Int), x1, x2, x3, x4, mk v5, []⟩, (none, 0, 0))) (mk t3) W) (kP : Blk W h #[.pointer (some ⟨sb, k * 7, none⟩)] 110) => rrows63 66 (Or.inr (Or.inr rfl)) h g r n0 32 m6 (mk t3) t4 W k'.hR (by omega) (by rw [L_mk]; exact h6) (fun W1 w' => ∃ lb, NewRow (Kd.int .i64) 3 W1 w' m6 0 lb ∧ w'.heap[sb]? = (W1.setCell ⟨sb, k * 7 + 6, none⟩ (.slice (some ⟨lb, 0, none⟩) m6 m6)).heap[sb]? ∧ W1.grownBy w' (some sb))
                        (fun W1 hg hr => (room66 h ⟨sb, k * 7, none⟩ m6 _ W1 (by omega) (Blk.grownT kP hg k'.hR (by decide)) ((k'.step hr hg).at_ ((Aid.unhide B).2.2.2.2 _) 6 _ rfl) ((k'.step hr hg).frz _)).mono (fun e w' ⟨e1, lb, e2, e3, e4⟩ => ⟨e1, ⟨lb, e2, e3, e4⟩, sb, (by obtain ⟨cur, hc⟩ := k'.hC; exact blk_lt hc), e4⟩)))
                      have S6 := Aid.hide h6
                      have H := Aid.hide (And.intro hX (And.intro hP hK))
                      clear hX hP hK h6
                      go_cut [78, 79] (fun x ii wy => x = .int .i64 (m6 : Int) ∧ ii = .int .i64 0 ∧ ∃ lb, w.heap.size ≤ lb ∧ w0.heap.size ≤ lb ∧ LSt w0 b g r i sb n k lb m6 a v4 (ps.set k (⟨(v0 : Int), x1, x2, x3, x4, mk v5, List.replicate m6 0⟩, (some ⟨lb, 0, none⟩, m6, m6))) ⟨(v0 : Int), x1, x2, x3, x4, mk v5, List.replicate m6 0⟩ (mk t4) wy ∧ Blk wy h #[.pointer (some ⟨sb, k * 7, none⟩)] 110 ∧ Keep2 w g r wy)
                      case first =>
                        as_aux_lemma =>
                        go_region_with ((go_at_call 63; refine (Aid.unhide C _ _ (by (repeat first | exact (Aid.unhide H).1 | apply SSt.drew | apply SSt.alloc)) (by (repeat first | exact (Aid.unhide H).2.1 | apply Blk.drew | apply Blk.alloc))).mono ?_; rintro e1 w1 ⟨rfl, W1, hg, hr, lb, hN, hat, hgg⟩))
                        all_goals
                          have hX := SSt.step (s := mk t3) (by (repeat first | exact (Aid.unhide H).1 | apply SSt.drew | apply SSt.alloc)) hr hg
                          have hP := Blk.grownT (h := h) (cs := #[.pointer (some ⟨sb, k * 7, none⟩)]) (t := 110) (by (repeat first | exact (Aid.unhide H).2.1 | apply Blk.drew | apply Blk.alloc)) hg (SSt.hR (by (repeat first | exact (Aid.unhide H).1 | apply SSt.drew | apply SSt.alloc))) (by decide)
                          have hK := ((Aid.unhide H).2.2.below (by (repeat first | exact Below.refl _ _ | apply below_drew | apply below_alloc))).grown hg
                          have hgl : w.heap.size ≤ lb := Nat.le_trans hK.1 hN.1
                          have hgl0 : w0.heap.size ≤ lb := Nat.le_trans hX.hB.size hN.1
                          have hL := hX.roomL ((Aid.unhide B).2.2.2.2 _) hN hat hgg
                          rw [List.set_set] at hL
                          obtain ⟨cur, hcur⟩ := hX.hC
                          have hP2 := Blk.grownT hP hgg hcur (by decide)
                          have hK2 : Keep2 w g r w1 := ⟨Nat.le_trans hK.1 hgg.size, fun x hx q1 q2 => (hgg.block x (Nat.lt_of_lt_of_le hx hK.1) (fun e => by injection e with e; omega)).trans (hK.2 x hx q1 q2)⟩
                          clear hg hr hX hP hK
                          go_wp2_with (fail)
                          go_meet
                          exact ⟨rfl, rfl, lb, hgl, hgl0, hL, hP2, hK2⟩
                      case rest =>
                        obtain ⟨rfl, rfl, lb, hgl, hgl0, hL, hP, hK⟩ := hcut
                        clear p0 f0 f1 s6 C H
                        go_wp2_with (fail)
                        go_loopw [79] (fun ii wr => ∃ (k3 : Nat) (ys : List Int) (t : Bytes), ii = .int .i64 (k3 : Int) ∧ k3 ≤ m6 ∧ t.length ≤ 1000000 ∧ Hid (ys.length = k3) ∧ Hid (rdNums m6 t4 = (rdNums (m6 - k3) t).map fun q => (ys ++ q.1, q.2)) ∧ LSt w0 b g r i sb n k lb m6 a v4 (ps.set k (⟨(v0 : Int), x1, x2, x3, x4, mk v5, ys ++ List.replicate (m6 - k3) 0⟩, (some ⟨lb, 0, none⟩, m6, m6))) ⟨(v0 : Int), x1, x2, x3, x4, mk v5, ys ++ List.replicate (m6 - k3) 0⟩ (mk t) wr ∧ Blk wr h #[.pointer (some ⟨sb, k * 7, none⟩)] 110 ∧ Keep2 w g r wr) (fun ii _ => m6 - (intOf ii).toNat)
                        case atStart => exact ⟨0, [], t4, rfl, by omega, hz4, rfl, (by show _ = _; rw [Nat.sub_zero]; cases rdNums m6 t4 <;> rfl), (by rw [Nat.sub_zero]; exact hL), hP, hK⟩
                        case round =>
                          clear hL hP hK
                          obtain ⟨k3, ys, t5, rfl, hk3, hz5, hys, hqy, hL, hP, hK⟩ := hrel
                          by_cases hlt3 : k3 < m6
                          · obtain ⟨m7, hm7⟩ : ∃ m, m6 - k3 = m + 1 := ⟨m6 - k3 - 1, by omega⟩
                            have hq3 := hqy.out
                            rw [hm7] at hq3 hL
                            rw [rdNums_succ] at hq3
                            have hst : ∀ y : Int, (ys ++ List.replicate (m7 + 1) 0).set k3 y = (ys ++ [y]) ++ List.replicate m7 0 := by
                              intro y
                              rw [← hys.out, List.set_append_right _ _ (Nat.le_refl _), Nat.sub_self, List.append_assoc]; rfl
                            have B3 := Aid.hide (And.intro hq3 (And.intro hst hm7))
                            generalize hzs : ys ++ List.replicate (m7 + 1) 0 = zs at *
                            clear hq3 hst hm7 hqy hzs
                            have p0 : wr.cell? ⟨h, 0, none⟩ = some (.pointer (some ⟨sb, k * 7, none⟩)) := hP.cell 0
                            have f1 := hL.S.hF.c1
                            have s6 : wr.cell? ⟨sb, k * 7 + 6, none⟩ = some (.slice (some ⟨lb, 0, none⟩) m6 m6) := hL.S.at_ hL.hp 6 _ rfl
                            go_upto_region 17 with (fail)
                            cases hh : numP 2147483647 t5 with
                            | none =>
                              as_aux_lemma =>
                              have C := Aid.hide (fun W (k' : LSt w0 b g r i sb n k lb m6 a v4 (ps.set k (⟨(v0 : Int), x1, x2, x3, x4, mk v5, zs⟩, (some ⟨lb, 0, none⟩, m6, m6))) ⟨(v0 : Int), x1, x2, x3, x4, mk v5, zs⟩ (mk t5) W) => rnum103_no r ⟨lb, k3, none⟩ 2147483647 (mk t5) W k'.S.hR (by omega) (by rw [L_mk]; exact hh))
                              have H := Aid.hide hL
                              clear hL hP hK
                              refine wp_region_tail 10 (by kernel_rfl) (by kernel_rfl) ?_
                              simp only [List.take_succ_cons, List.take_zero, List.drop_succ_cons, List.drop_zero]
                              repeat still_step
                              refine wpStill_nil ?_
                              go_wp2_with (go_at_call 103; refine (Aid.unhide C _ (by (repeat first | exact Aid.unhide H | apply LSt.drew | apply LSt.alloc))).mono ?_; rintro e1 w1 ⟨rfl, rfl⟩)
                              refine ⟨rfl, ?_⟩
                              rw [Aid.unhide Q0, Aid.unhide HN, Option.bind_some, (Aid.unhide B).1]
                              unfold rdStep
                              rw [Aid.unhide S0, Option.bind_some, Aid.unhide NQ, Option.bind_some, Aid.unhide S5, Option.bind_some, Aid.unhide S6, Option.bind_some, (Aid.unhide B3).1, hh]
                              exact ⟨rfl, SSt.dead (LSt.S (by (repeat first | exact Aid.unhide H | apply LSt.drew | apply LSt.alloc)))⟩
                            | some z =>
                              obtain ⟨v, t6⟩ := z
                              obtain ⟨_, hzt6⟩ := numP_le hh
                              have C := Aid.hide (fun W (k' : LSt w0 b g r i sb n k lb m6 a v4 (ps.set k (⟨(v0 : Int), x1, x2, x3, x4, mk v5, zs⟩, (some ⟨lb, 0, none⟩, m6, m6))) ⟨(v0 : Int), x1, x2, x3, x4, mk v5, zs⟩ (mk t5) W) => rnum103_ok r ⟨lb, k3, none⟩ 2147483647 v _ (mk t5) t6 W k'.S.hR (k'.cell hlt3).1 (k'.cell hlt3).2 (by obtain ⟨cur, hc⟩ := k'.lblk (by omega); exact ty_ne hc k'.S.hR (by decide)) (by omega) (by rw [L_mk]; exact hh))
                              have H := Aid.hide (And.intro hL (And.intro hP hK))
                              clear hL hP hK
                              refine wp_region_tail 10 (by kernel_rfl) (by kernel_rfl) ?_
                              simp only [List.take_succ_cons, List.take_zero, List.drop_succ_cons, List.drop_zero]
                              repeat still_step
                              refine wpStill_nil ?_
                              go_wp2_with (go_at_call 103; refine (Aid.unhide C _ (by (repeat first | exact (Aid.unhide H).1 | apply LSt.drew | apply LSt.alloc))).mono ?_; rintro e1 w1 ⟨rfl, hT⟩)
                              have hLo : LSt w0 b g r i sb n k lb m6 a v4 (ps.set k (⟨(v0 : Int), x1, x2, x3, x4, mk v5, zs⟩, (some ⟨lb, 0, none⟩, m6, m6))) ⟨(v0 : Int), x1, x2, x3, x4, mk v5, zs⟩ (mk t5) wr.drew := (by (repeat first | exact (Aid.unhide H).1 | apply LSt.drew | apply LSt.alloc))
                              have hL := hLo.took hlt3 hT hgl0
                              simp only [List.set_set] at hL
                              rw [(Aid.unhide B3).2.1] at hL
                              obtain ⟨cur, hcur⟩ := hLo.lblk (by omega)
                              have hP := Blk.took (h := h) (cs := #[.pointer (some ⟨sb, k * 7, none⟩)]) (t := 110) (by (repeat first | exact (Aid.unhide H).2.1 | apply Blk.drew | apply Blk.alloc)) hT hLo.S.hR hcur (by decide) (by decide)
                              have hK := Keep2.tookn ((Aid.unhide H).2.2.below (by (repeat first | exact Below.refl _ _ | apply below_drew | apply below_alloc))) hT hgl
                              clear hLo hT hcur C H p0 f1 s6
                              go_roundw
                              case rel => exact ⟨k3 + 1, ys ++ [(v : Int)], t6, by go_num, by omega, by omega, (by show _ = _; rw [List.length_append, hys.out]; rfl), (by show _ = _; rw [(Aid.unhide B3).1, hh, Option.bind_some, show m6 - (k3 + 1) = m7 from by have := (Aid.unhide B3).2.2; omega]; cases rdNums m7 t6 <;> simp), (by rw [show m6 - (k3 + 1) = m7 from by have := (Aid.unhide B3).2.2; omega]; exact hL), hP, hK⟩
                              case measure => simp [intOf]; omega
                          · obtain rfl : k3 = m6 := by omega
                            have hq3 := hqy.out
                            rw [Nat.sub_self] at hq3 hL
                            rw [List.replicate_zero, List.append_nil] at hL
                            have hst : rdStep t = some (⟨(v0 : Int), x1, x2, x3, x4, mk v5, ys⟩, t5) := by
                              unfold rdStep
                              rw [Aid.unhide S0, Option.bind_some, Aid.unhide NQ, Option.bind_some, Aid.unhide S5, Option.bind_some, Aid.unhide S6, Option.bind_some, hq3]
                              simp [rdNums, n4]
                            have hXf := hL.S
                            rw [(Aid.unhide B).2.2.1] at hXf
                            go_wp2_with (fail)
                            go_roundw
                            case rel => exact ⟨k + 1, qs ++ [(⟨(v0 : Int), x1, x2, x3, x4, mk v5, ys⟩, (some ⟨lb, 0, none⟩, k3, k3))], t5, by go_num, by omega, by omega, (by show _ = _; rw [List.length_append, hxl.out]; rfl), (by show _ = _; rw [(Aid.unhide B).1, hst, Option.bind_some, show n - (k + 1) = m from by have := (Aid.unhide B).2.2.2.1; omega]; cases rdSl m t5 <;> simp), (by rw [show n - (k + 1) = m from by have := (Aid.unhide B).2.2.2.1; omega]; exact hXf), hK⟩
                            case measure => simp [intOf]; omega
        · obtain rfl : k = n := by omega
          have hq2 := hq.out
          rw [Nat.sub_self] at hq2 hX
          go_wp2_with (fail)
          go_end0
          rw [Aid.unhide Q0, Aid.unhide HN, Option.bind_some, hq2]
          rw [List.replicate_zero, List.append_nil] at hX
          have key := hX.done (l := qs.map (·.1) ++ []) (List.append_nil _).symm
          exact ⟨rfl, ⟨_, _, key⟩, hK⟩
end Go.Proofs.Ytppgbahiolhgbaa
