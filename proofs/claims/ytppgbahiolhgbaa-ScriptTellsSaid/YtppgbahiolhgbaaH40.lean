/- Contracts and plain laws over the seat, laid together (group 40 of what the claim needs). -/
import Derived.Test.YtppgbahiolhgbaaH39
import Derived.Outline
set_option linter.unusedVariables false
set_option linter.unusedSimpArgs false
namespace Go.Proofs.Ytppgbahiolhgbaa
open Go.RowKit Go.Proofs.YtppgbahiolhgbaaW.PrintWords Sp
open PScriptReads
theorem Kd.R_tookrow {α : Type} (d : Kd α) {e gb n cap r i j : Nat} {base : Nat} {W W1 : World} {xs : List α} {x' : α} {u : Value} {t s : ByteArray} {c : List Value} {okp : Nat → Prop}
    (hR : d.R e W base (fun _ => True) (.slice (some ⟨gb, 0, none⟩) n cap) xs) (hT : Took W r ⟨gb, i * d.sz + j, none⟩ u t W1) (hr : RdAt W r s) (ht : ∀ q, q ∈ e :: d.E → q ≠ 89) (hi : i < n) (hcl : c.length = d.sz)
    (hcc : ∀ j u, c[j]? = some u → W.cell? ⟨gb, i * d.sz + j, none⟩ = some u) (hj : j + 1 ≤ d.sz) (hM : d.M W base okp x' (c.take j ++ [u] ++ c.drop (j + 1))) (hokp : ∀ k, okp k → k ≠ gb) :
    d.R e W1 base (fun _ => True) (.slice (some ⟨gb, 0, none⟩) n cap) (xs.set i x') := by
  have h1 := Kd.R_types hR hr ht
  have hgr : gb ≠ r := (h1.1 gb rfl).2
  have hseg := Kd.R_seg (okp := okp) (seg := [u]) (j := j) hR (i : Int) (by omega) (by omega) hcl (by intro j u hj; rw [Int.toNat_natCast]; exact hcc j u hj) hj hM (fun k hk => ⟨trivial, hokp k hk⟩)
  rw [Int.toNat_natCast] at hseg
  have hset : W.setCells gb (i * d.sz + j) [u] = W.setCell ⟨gb, i * d.sz + j, none⟩ u := rfl
  rw [hset] at hseg
  have hr2 : RdAt (W.setCell ⟨gb, i * d.sz + j, none⟩ u) r s := hr.far (Ne.symm hgr)
  refine Kd.R_mono (Kd.R_step (Kd.R_types hseg.1 hr2 ht) (fun k hk _ => ?_)) (fun _ _ => trivial)
  by_cases hk2 : k = gb
  · subst hk2; exact hT.at_
  · exact (hT.far k hk.2 hk2).trans (Below.heap_setCell W ⟨gb, i * d.sz + j, none⟩ u k hk2).symm
structure GvAt (W : World) (gb k : Nat) (x : S48) : Prop where
  g0 : W.cell? ⟨gb, k * 2, none⟩ = some (.int .i64 x.f0)
  g1 : W.cell? ⟨gb, k * 2 + 1, none⟩ = some (.string x.f1)
  fr : ∀ o, W.frozen? ⟨gb, o, none⟩ = false
theorem gv_of {W : World} {base gb n cap k : Nat} {ok : Nat → Prop} {xs : List S48} {x : S48} (h : k48.R 48 W base ok (.slice (some ⟨gb, 0, none⟩) n cap) xs) (hx : xs[k]? = some x) : GvAt W gb k x := by
  obtain ⟨hk, _⟩ := List.getElem?_eq_some_iff.1 hx
  obtain ⟨inner, ho⟩ := Kd.R_own h
  obtain ⟨sb, cur, e1, hb⟩ := own_block ho (by omega)
  injection e1 with e1
  injection e1 with e1 _ _
  subst e1
  obtain ⟨hn, _, hC⟩ := Kd.R_reads' h
  obtain ⟨ad, c, hA, hl, hK, hc⟩ := Kd.C_get hC x (k : Int) (by omega) (by omega)
  injection hA with hA
  subst hA
  rw [Int.toNat_natCast, List.getD_eq_getElem?_getD, hx] at hK
  have := k48_open hK
  subst this
  have ha : ∀ j, (⟨gb, 0, none⟩ : Addr).add (k * 2 + j) = ⟨gb, k * 2 + j, none⟩ := by
    intro j
    by_cases h0 : k * 2 + j = 0
    · rw [h0]; rfl
    · unfold Addr.add; rw [if_neg h0]; simp
  refine ⟨?_, ?_, fun o => by simp [World.frozen?, hb]⟩
  · have := hc 0 _ rfl
    rw [Int.toNat_natCast] at this
    exact (congrArg _ (ha 0)).symm.trans this
  · have := hc 1 _ rfl
    rw [Int.toNat_natCast] at this
    exact (congrArg _ (ha 1)).symm.trans this
section
variable {w0 : World} {b g r i gb n cap k : Nat} {a : S37} {v9 : Value} {s t y : ByteArray} {W W1 : World} {x : S48} {v : Int}
theorem RSt.tookG (h : RSt w0 g r i a (.slice (some ⟨gb, 0, none⟩) n cap) v9 s W) {p : Addr} {u : Value} (hp : p.block = gb) (hT : Took W r p u t W1) {xs : List S48} (hR : k48.R 48 W1 w0.heap.size (fun _ => True) (.slice (some ⟨gb, 0, none⟩) n cap) xs)
    (hb : ∃ cur, W.heap[gb]? = some (.cells cur 48 (0, 0))) (hlb : w0.heap.size ≤ gb) : RSt w0 g r i { a with f4 := xs } (.slice (some ⟨gb, 0, none⟩) n cap) v9 t W1 := by
  subst hp
  obtain ⟨cur, hb⟩ := hb
  exact ⟨(hT.far g h.gr (ty_ne h.hA hb (by decide))).trans h.hA, hT.rd, (hT.far i h.ir (ty_ne h.hI hb (by decide))).trans h.hI, hR, Kd.R_took h.hS hT h.hR hb (by decide) (by decide), h.hB.trans (hT.below h.lr hlb), h.lg, h.lr, h.li⟩
theorem RSt.tookG0 (h : RSt w0 g r i a (.slice (some ⟨gb, 0, none⟩) n cap) v9 s W) (hx : a.f4[k]? = some x) (hT : Took W r ⟨gb, k * 2, none⟩ (.int .i64 v) t W1) : RSt w0 g r i { a with f4 := a.f4.set k ⟨v, x.f1⟩ } (.slice (some ⟨gb, 0, none⟩) n cap) v9 t W1 := by
  have hG := gv_of h.hG hx
  obtain ⟨hk, _⟩ := List.getElem?_eq_some_iff.1 hx
  have hn := (Kd.R_reads' h.hG).1
  obtain ⟨inner, ho⟩ := Kd.R_own h.hG
  obtain ⟨sb, cur, e1, hb⟩ := own_block ho (by omega)
  injection e1 with e1
  injection e1 with e1 _ _
  subst e1
  refine h.tookG rfl hT (Kd.R_tookrow k48 (i := k) (j := 0) (c := [.int .i64 x.f0, .string x.f1]) (okp := fun _ => False) h.hG hT h.hR (by decide) (by omega) rfl ?_ (by decide) (k48_mkM _ _ _ ⟨v, x.f1⟩) (fun _ hk => hk.elim)) ⟨cur, hb⟩ (Kd.R_base h.hG gb rfl)
  intro j u hj
  match j, hj with
  | 0, hj => injection hj with hj; subst hj; exact hG.g0
  | 1, hj => injection hj with hj; subst hj; exact hG.g1
theorem RSt.tookG1 (h : RSt w0 g r i a (.slice (some ⟨gb, 0, none⟩) n cap) v9 s W) (hx : a.f4[k]? = some x) (hT : Took W r ⟨gb, k * 2 + 1, none⟩ (.string y) t W1) : RSt w0 g r i { a with f4 := a.f4.set k ⟨x.f0, y⟩ } (.slice (some ⟨gb, 0, none⟩) n cap) v9 t W1 := by
  have hG := gv_of h.hG hx
  obtain ⟨hk, _⟩ := List.getElem?_eq_some_iff.1 hx
  have hn := (Kd.R_reads' h.hG).1
  obtain ⟨inner, ho⟩ := Kd.R_own h.hG
  obtain ⟨sb, cur, e1, hb⟩ := own_block ho (by omega)
  injection e1 with e1
  injection e1 with e1 _ _
  subst e1
  refine h.tookG rfl hT (Kd.R_tookrow k48 (i := k) (j := 1) (c := [.int .i64 x.f0, .string x.f1]) (okp := fun _ => False) h.hG hT h.hR (by decide) (by omega) rfl ?_ (by decide) (k48_mkM _ _ _ ⟨x.f0, y⟩) (fun _ hk => hk.elim)) ⟨cur, hb⟩ (Kd.R_base h.hG gb rfl)
  intro j u hj
  match j, hj with
  | 0, hj => injection hj with hj; subst hj; exact hG.g0
  | 1, hj => injection hj with hj; subst hj; exact hG.g1
theorem RFt.tookG {w0 : World} {p : Addr} {u : Value} {a' : S37} (h : RFt w0 b g r i a (.slice (some ⟨gb, 0, none⟩) n cap) v9 s W) (hp : p.block ≠ b) (hT : Took W r p u t W1) (hS : RSt w0 g r i a' (.slice (some ⟨gb, 0, none⟩) n cap) v9 t W1) : RFt w0 b g r i a' (.slice (some ⟨gb, 0, none⟩) n cap) v9 t W1 :=
  ⟨hS, (hT.far b h.br (Ne.symm hp)).trans h.F⟩
theorem Keep2.tookn (h : Keep2 W g r W1) {W2 : World} {p : Addr} {u : Value} (hT : Took W1 r p u t W2) (hp : W.heap.size ≤ p.block) : Keep2 W g r W2 :=
  ⟨by rw [hT.size]; exact h.1, fun k hk h1 h2 => (hT.far k h2 (by omega)).trans (h.2 k hk h1 h2)⟩
theorem Keep2.grown_g (h : Keep2 W g r W1) {W2 : World} (hg : W1.grownBy W2 (some g)) : Keep2 W g r W2 :=
  ⟨Nat.le_trans h.1 hg.size, fun k hk h1 h2 => (hg.block k (Nat.lt_of_lt_of_le hk h.1) (fun e => by injection e with e; exact h1 e)).trans (h.2 k hk h1 h2)⟩
theorem RFt.room {v4 : Value} (h : RFt w0 b g r i a v4 v9 s W) (hA : ActV W1 g a (.slice (some ⟨gb, 0, none⟩) n n) v9) (hg : W.grownBy W1 (some g)) (hN : NewRow k48 48 W W1 n ⟨0, ⟨#[]⟩⟩ gb) :
    RFt w0 b g r i { a with f4 := List.replicate n ⟨0, ⟨#[]⟩⟩ } (.slice (some ⟨gb, 0, none⟩) n n) v9 s W1 :=
  ⟨⟨hA, blk_grown h.S.hR hg (fun e => by injection e with e; exact h.S.gr e.symm), blk_grown h.S.hI hg (fun e => by injection e with e; exact h.S.gi e.symm), Kd.R_lower hN.2 h.S.hB.size,
    Kd.R_mono (Kd.R_grown (Kd.R_types h.S.hS h.S.hA (by decide)) hg (fun k hk e => by injection e with e; exact hk.2 e)) (fun _ _ => trivial), h.S.hB.grown hg h.S.hB.size (by intro k e; injection e with e; subst e; exact h.S.lg), h.S.lg, h.S.lr, h.S.li⟩,
   blk_grown h.F hg (fun e => by injection e with e; exact h.bg e)⟩
end
theorem textP_le {m : Nat} {v : Bytes} {l t : Bytes} (h : textP m l = some (v, t)) : t.length ≤ l.length := by
  unfold textP at h
  split at h
  · injection h with h
    injection h with h1 h2
    subst h2
    rw [List.length_drop]; omega
  · simp at h
def rdGl : Nat → Bytes → Option (List S48 × Bytes)
  | 0, l => some ([], l)
  | n + 1, l => (numP 7 l).bind fun q1 => (textP 16384 q1.2).bind fun q2 => (rdGl n q2.2).map fun q => (⟨(q1.1 : Int), mk q2.1⟩ :: q.1, q.2)
def rdGives (a : S37) (l : Bytes) : Option (S37 × Bytes) := (numP 6 l).bind fun q => (rdGl q.1 q.2).map fun z => ({ a with f4 := z.1 }, z.2)
set_option maxRecDepth 100000 in
set_option maxHeartbeats 8000000 in
theorem rpart48 : RPart 48 rdGives := by
  intro w0 g r i a v4 v9 s w hs hS
  have hm := meth_rnum
  have hm2 := meth_rtext
  have hmf : ∀ (fn : Fn) (first cap : Array Value) (w : World), (Instr.makeFunc fn first cap).run Try.prog w = .ok (.func fn first cap) w := fun _ _ _ _ => rfl
  obtain ⟨q0, hq0⟩ : ∃ q, q = rdGives a (L s) := ⟨_, rfl⟩
  rw [← hq0]
  unfold rdGives at hq0
  have Q0 := Aid.hide hq0
  clear hq0
  obtain ⟨A4, c4, rfl⟩ := Kd.R_slice hS.hG
  go_enter Try.func48, Try.ntmps48
  go_upto_region 1 with (fail)
  have hX := hS.boxed
  have hK : Keep2 w g r (w.alloc (.cells #[.pointer (some ⟨g, 0, none⟩), .iface 88 (.pointer (some ⟨r, 0, none⟩))] 78)) := (Keep2.refl _ _ _).below (below_alloc (Below.refl _ _) _)
  have hbw : w.heap.size ≤ w.heap.size := Nat.le_refl _
  generalize w.alloc (.cells #[.pointer (some ⟨g, 0, none⟩), .iface 88 (.pointer (some ⟨r, 0, none⟩))] 78) = wx at *
  obtain ⟨b, hb⟩ : ∃ b, b = w.heap.size := ⟨_, rfl⟩
  rw [← hb] at hX ⊢
  have hbw : w.heap.size ≤ b := by omega
  clear hS hb
  have k4 := hX.S.hA.ten.k4
  have f0 := hX.F.c0
  have f1 := hX.F.c1
  cases hn : numP 6 (L s) with
  | none =>
    have C := Aid.hide (fun W n0 fv (k : RFt w0 b g r i a (.slice A4 a.f4.length c4) v9 s W) => rrows63_no g r n0 6 s fv W k.S.hR (by omega) hn)
    have H := Aid.hide (And.intro hX hK)
    clear hX hK
    go_region_with ((go_at_call 63; refine (Aid.unhide C _ _ _ (by (repeat first | exact (Aid.unhide H).1 | apply RFt.drew | apply RFt.alloc))).mono ?_; rintro e1 w1 ⟨rfl, hD⟩; refine (fun (_ : wpAny Try.prog .any #[] (fun _ _ _ => True) 0 #[] ⟨#[], []⟩ w1) => ?_) ?_; · (refine ⟨rfl, ?_⟩; rw [Aid.unhide Q0, hn, Option.bind_none]; exact ⟨rfl, RSt.dead (RFt.S (RFt.below (W := _) (by (repeat first | exact (Aid.unhide H).1 | apply RFt.drew | apply RFt.alloc)) hD))⟩)))
    all_goals trivial
  | some z =>
    obtain ⟨n, t0⟩ := z
    obtain ⟨hn6, hlt0⟩ := numP_le hn
    rw [L_len] at hlt0
    have hz0 : t0.length ≤ 1000000 := by omega
    have C := Aid.hide (fun W n0 (k : RFt w0 b g r i a (.slice A4 a.f4.length c4) v9 s W) => rrows63 64 (Or.inl rfl) b g r n0 6 n s t0 W k.S.hR (by omega) hn (fun W1 w' => ∃ gb, NewRow k48 48 W1 w' n ⟨0, ⟨#[]⟩⟩ gb ∧ ActV w' g a (.slice (some ⟨gb, 0, none⟩) n n) v9 ∧ W1.grownBy w' (some g))
      (fun W1 hg hr => (room64 b g 88 r n a (.slice A4 a.f4.length c4) v9 W1 (by omega) (k.step hr hg).F (k.step hr hg).S.hA).mono (fun e w' ⟨h1, gb, h2, h3, h4⟩ => ⟨h1, ⟨gb, h2, h3, h4⟩, g, k.S.hA.lt, h4⟩)))
    have H := Aid.hide (And.intro hX hK)
    have HN := Aid.hide hn
    clear hX hK hn
    go_cut [11, 12] (fun x ii wy => x = .int .i64 (n : Int) ∧ ii = .int .i64 0 ∧ ∃ gb, w.heap.size ≤ gb ∧ RFt w0 b g r i { a with f4 := List.replicate n ⟨0, ⟨#[]⟩⟩ } (.slice (some ⟨gb, 0, none⟩) n n) v9 (mk t0) wy ∧ Keep2 w g r wy)
    case first =>
      as_aux_lemma =>
      go_region_with ((go_at_call 63; refine (Aid.unhide C _ _ (by (repeat first | exact (Aid.unhide H).1 | apply RFt.drew | apply RFt.alloc))).mono ?_; rintro e1 w1 ⟨rfl, W1, hg, hr, gb, hN, hA, hgg⟩))
      all_goals
        have hX := RFt.step (s := s) (by (repeat first | exact (Aid.unhide H).1 | apply RFt.drew | apply RFt.alloc)) hr hg
        have hK := ((Aid.unhide H).2.below (by (repeat first | exact Below.refl _ _ | apply below_drew | apply below_alloc))).grown hg
        have hgb : w.heap.size ≤ gb := Nat.le_trans hK.1 hN.1
        clear hg hr
        go_wp2_with (fail)
        go_meet
        exact ⟨rfl, rfl, gb, hgb, hX.room hA hgg hN, hK.grown_g hgg⟩
    case rest =>
      obtain ⟨rfl, rfl, gb, hgb, hX, hK⟩ := hcut
      clear k4 f0 f1 C H
      go_wp2_with (fail)
      go_loopw [12] (fun ii wr => ∃ (k : Nat) (xs : List S48) (t : Bytes), ii = .int .i64 (k : Int) ∧ k ≤ n ∧ t.length ≤ 1000000 ∧ Hid (xs.length = k) ∧ Hid (rdGl n t0 = (rdGl (n - k) t).map fun q => (xs ++ q.1, q.2)) ∧ RFt w0 b g r i { a with f4 := xs ++ List.replicate (n - k) ⟨0, ⟨#[]⟩⟩ } (.slice (some ⟨gb, 0, none⟩) n n) v9 (mk t) wr ∧ Keep2 w g r wr) (fun ii _ => n - (intOf ii).toNat)
      case atStart => exact ⟨0, [], t0, rfl, by omega, hz0, rfl, by show _ = _; rw [Nat.sub_zero]; cases rdGl n t0 <;> rfl, by rw [Nat.sub_zero]; exact hX, hK⟩
      case round =>
        clear hX hK
        obtain ⟨k, xs, t, rfl, hk, hzt, hxl, hq, hX, hK⟩ := hrel
        by_cases hlt : k < n
        · have hrl : ∃ m, n - k = m + 1 := ⟨n - k - 1, by omega⟩
          obtain ⟨m, hmk⟩ := hrl
          have hq2 := hq.out
          rw [hmk] at hq2 hX
          rw [rdGl] at hq2
          have hget : (xs ++ List.replicate (m + 1) (⟨0, ⟨#[]⟩⟩ : S48))[k]? = some ⟨0, ⟨#[]⟩⟩ := by
            rw [List.getElem?_append_right (by rw [hxl.out]; exact Nat.le_refl _), hxl.out, Nat.sub_self]; rfl
          have hset : ∀ y, (xs ++ List.replicate (m + 1) (⟨0, ⟨#[]⟩⟩ : S48)).set k y = (xs ++ [y]) ++ List.replicate m ⟨0, ⟨#[]⟩⟩ := by
            intro y
            rw [← hxl.out, List.set_append_right _ _ (Nat.le_refl _), Nat.sub_self, List.append_assoc]; rfl
          generalize hys : xs ++ List.replicate (m + 1) (⟨0, ⟨#[]⟩⟩ : S48) = ys at *
          clear hys
          have hv := gv_of hX.S.hG hget
          have g0 := hv.g0
          have k4 := hX.S.hA.ten.k4
          have f0 := hX.F.c0
          have f1 := hX.F.c1
          have B := Aid.hide (And.intro hq2 (And.intro hget (And.intro hset hmk)))
          have hgr : gb ≠ r := by
            obtain ⟨inner, ho⟩ := Kd.R_own hX.S.hG
            have hkl := (List.getElem?_eq_some_iff.1 hget).1
            obtain ⟨sb, cur, e1, hbk⟩ := own_block ho (by simp only; omega)
            injection e1 with e1
            injection e1 with e1 _ _
            subst e1
            exact ty_ne hbk hX.S.hR (by decide)
          have hgbb : gb ≠ b := by
            obtain ⟨inner, ho⟩ := Kd.R_own hX.S.hG
            have hkl := (List.getElem?_eq_some_iff.1 hget).1
            obtain ⟨sb, cur, e1, hbk⟩ := own_block ho (by simp only; omega)
            injection e1 with e1
            injection e1 with e1 _ _
            subst e1
            exact ty_ne hbk hX.F (by decide)
          clear hq2 hget hset hmk hq hv
          go_upto_region 4 with (fail)
          cases h1 : numP 7 t with
          | none =>
            have C := Aid.hide (fun W (k' : RFt w0 b g r i { a with f4 := ys } (.slice (some ⟨gb, 0, none⟩) n n) v9 (mk t) W) => rnum103_no r ⟨gb, k * 2, none⟩ 7 (mk t) W k'.S.hR (by omega) (by rw [L_mk]; exact h1))
            have H := Aid.hide (And.intro hX hK)
            clear hX hK
            refine wp_region_tail 12 (by kernel_rfl) (by kernel_rfl) ?_
            simp only [List.take_succ_cons, List.take_zero, List.drop_succ_cons, List.drop_zero]
            repeat still_step
            refine wpStill_nil ?_
            go_wp2_with (go_at_call 103; refine (Aid.unhide C _ (by (repeat first | exact (Aid.unhide H).1 | apply RFt.drew | apply RFt.alloc))).mono ?_; rintro e1 w1 ⟨rfl, rfl⟩)
            refine ⟨rfl, ?_⟩
            rw [Aid.unhide Q0, Aid.unhide HN, Option.bind_some, (Aid.unhide B).1, h1]
            exact ⟨rfl, RSt.dead (RFt.S (by (repeat first | exact (Aid.unhide H).1 | apply RFt.drew | apply RFt.alloc)))⟩
          | some z =>
            obtain ⟨v1, t1⟩ := z
            have C := Aid.hide (fun W (k' : RFt w0 b g r i { a with f4 := ys } (.slice (some ⟨gb, 0, none⟩) n n) v9 (mk t) W) => rnum103_ok r ⟨gb, k * 2, none⟩ 7 v1 0 (mk t) t1 W k'.S.hR (gv_of k'.S.hG (Aid.unhide B).2.1).g0 ((gv_of k'.S.hG (Aid.unhide B).2.1).fr _) hgr (by omega) (by rw [L_mk]; exact h1))
            have H := Aid.hide (And.intro hX hK)
            clear hX hK
            have hz1 := (numP_le h1).2
            refine wp_region_tail 12 (by kernel_rfl) (by kernel_rfl) ?_
            simp only [List.take_succ_cons, List.take_zero, List.drop_succ_cons, List.drop_zero]
            repeat still_step
            refine wpStill_nil ?_
            go_upto_region 5 with (go_at_call 103; refine (Aid.unhide C _ (by (repeat first | exact (Aid.unhide H).1 | apply RFt.drew | apply RFt.alloc))).mono ?_; rintro e1 w1 ⟨rfl, hT⟩)
            have hS1 := RSt.tookG0 (a := { a with f4 := ys }) (s := mk t) (RFt.S (by (repeat first | exact (Aid.unhide H).1 | apply RFt.drew | apply RFt.alloc))) (Aid.unhide B).2.1 hT
            have hX := RFt.tookG (a := { a with f4 := ys }) (s := mk t) (by (repeat first | exact (Aid.unhide H).1 | apply RFt.drew | apply RFt.alloc)) hgbb hT hS1
            have hK := Keep2.tookn ((Aid.unhide H).2.below (by (repeat first | exact Below.refl _ _ | apply below_drew | apply below_alloc))) hT hgb
            simp only at hX
            clear hS1 hT C H k4 f0 f1 g0
            have hget1 : (ys.set k ⟨(v1 : Int), ⟨#[]⟩⟩)[k]? = some ⟨(v1 : Int), ⟨#[]⟩⟩ := List.getElem?_set_self (List.getElem?_eq_some_iff.1 (Aid.unhide B).2.1).1
            have G1 := Aid.hide hget1
            clear hget1
            have g1 := (gv_of hX.S.hG (Aid.unhide G1)).g1
            have k4 := hX.S.hA.ten.k4
            have f0 := hX.F.c0
            have f1 := hX.F.c1
            have HN1 := Aid.hide h1
            clear h1
            cases h2 : textP 16384 t1 with
            | none =>
              have C := Aid.hide (fun W (k' : RFt w0 b g r i { a with f4 := ys.set k ⟨(v1 : Int), ⟨#[]⟩⟩ } (.slice (some ⟨gb, 0, none⟩) n n) v9 (mk t1) W) => rtext104_no r ⟨gb, k * 2 + 1, none⟩ 16384 (mk t1) W k'.S.hR (by omega) (by rw [size_mk]; omega) (by rw [L_mk]; exact h2))
              have H := Aid.hide (And.intro hX hK)
              clear hX hK
              refine wp_region_tail 12 (by kernel_rfl) (by kernel_rfl) ?_
              simp only [List.take_succ_cons, List.take_zero, List.drop_succ_cons, List.drop_zero]
              repeat still_step
              refine wpStill_nil ?_
              go_wp2_with (go_at_call 104; refine (Aid.unhide C _ (by (repeat first | exact (Aid.unhide H).1 | apply RFt.drew | apply RFt.alloc))).mono ?_; rintro e1 w1 ⟨rfl, rfl⟩)
              refine ⟨rfl, ?_⟩
              rw [Aid.unhide Q0, Aid.unhide HN, Option.bind_some, (Aid.unhide B).1, Aid.unhide HN1, Option.bind_some, h2]
              exact ⟨rfl, RSt.dead (RFt.S (by (repeat first | exact (Aid.unhide H).1 | apply RFt.drew | apply RFt.alloc)))⟩
            | some z =>
              obtain ⟨v2, t2⟩ := z
              have C := Aid.hide (fun W (k' : RFt w0 b g r i { a with f4 := ys.set k ⟨(v1 : Int), ⟨#[]⟩⟩ } (.slice (some ⟨gb, 0, none⟩) n n) v9 (mk t1) W) => rtext104_ok r ⟨gb, k * 2 + 1, none⟩ 16384 _ v2 (mk t1) t2 W k'.S.hR (gv_of k'.S.hG (Aid.unhide G1)).g1 ((gv_of k'.S.hG (Aid.unhide G1)).fr _) hgr (by omega) (by rw [size_mk]; omega) (by rw [L_mk]; exact h2))
              have H := Aid.hide (And.intro hX hK)
              clear hX hK
              have hz2 := textP_le h2
              refine wp_region_tail 12 (by kernel_rfl) (by kernel_rfl) ?_
              simp only [List.take_succ_cons, List.take_zero, List.drop_succ_cons, List.drop_zero]
              repeat still_step
              refine wpStill_nil ?_
              go_wp2_with (go_at_call 104; refine (Aid.unhide C _ (by (repeat first | exact (Aid.unhide H).1 | apply RFt.drew | apply RFt.alloc))).mono ?_; rintro e1 w1 ⟨rfl, hT⟩)
              have hS1 := RSt.tookG1 (a := { a with f4 := ys.set k ⟨(v1 : Int), ⟨#[]⟩⟩ }) (s := mk t1) (RFt.S (by (repeat first | exact (Aid.unhide H).1 | apply RFt.drew | apply RFt.alloc))) (Aid.unhide G1) hT
              have hX := RFt.tookG (a := { a with f4 := ys.set k ⟨(v1 : Int), ⟨#[]⟩⟩ }) (s := mk t1) (by (repeat first | exact (Aid.unhide H).1 | apply RFt.drew | apply RFt.alloc)) hgbb hT hS1
              have hK := Keep2.tookn ((Aid.unhide H).2.below (by (repeat first | exact Below.refl _ _ | apply below_drew | apply below_alloc))) hT hgb
              simp only [List.set_set] at hX
              rw [(Aid.unhide B).2.2.1 ⟨(v1 : Int), mk v2⟩] at hX
              clear hS1 hT C H k4 f0 f1 g1
              go_roundw
              case rel => exact ⟨k + 1, xs ++ [⟨(v1 : Int), mk v2⟩], t2, by go_num, by omega, by omega, (by show _ = _; rw [List.length_append, hxl.out]; rfl), (by show _ = _; rw [(Aid.unhide B).1, Aid.unhide HN1, Option.bind_some, h2, Option.bind_some, show n - (k + 1) = m from by have := (Aid.unhide B).2.2.2; omega]; cases rdGl m t2 <;> simp), (by rw [show n - (k + 1) = m from by have := (Aid.unhide B).2.2.2; omega]; exact hX), hK⟩
              case measure => simp [intOf]; omega
        · obtain rfl : k = n := by omega
          have hq2 := hq.out
          rw [Nat.sub_self] at hq2 hX
          go_wp2_with (fail)
          go_end0
          rw [Aid.unhide Q0, Aid.unhide HN, Option.bind_some, hq2]
          rw [List.replicate_zero, List.append_nil] at hX
          have key := hX.S
          rw [← List.append_nil xs] at key
          exact ⟨rfl, ⟨_, _, key⟩, hK⟩
end Go.Proofs.Ytppgbahiolhgbaa
