/- Contracts and plain laws over the seat, laid together (group 41 of what the claim needs). -/
import Derived.Test.YtppgbahiolhgbaaH40
set_option linter.unusedVariables false
set_option linter.unusedSimpArgs false
namespace Go.Proofs.Ytppgbahiolhgbaa
open Go.RowKit Go.Proofs.YtppgbahiolhgbaaW.PrintWords Sp
open PScriptReads
def rdNums : Nat → Bytes → Option (List Int × Bytes)
  | 0, l => some ([], l)
  | n + 1, l => (numP 2147483647 l).bind fun q1 => (rdNums n q1.2).map fun q => ((q1.1 : Int) :: q.1, q.2)
def n4 (l : List Int) (j : Nat) : Int := l.getD j 0
def rdStep (l : Bytes) : Option (S51 × Bytes) :=
  (numP 9 l).bind fun q0 => (rdNums 4 q0.2).bind fun z => (textP 1024 z.2).bind fun q5 => (numP 32 q5.2).bind fun qn => (rdNums qn.1 qn.2).map fun y =>
    (⟨(q0.1 : Int), n4 z.1 0, n4 z.1 1, n4 z.1 2, n4 z.1 3, mk q5.1, y.1⟩, y.2)
def rdSl : Nat → Bytes → Option (List S51 × Bytes)
  | 0, l => some ([], l)
  | n + 1, l => (rdStep l).bind fun q1 => (rdSl n q1.2).map fun q => (q1.1 :: q.1, q.2)
def rdSteps (a : S37) (l : Bytes) : Option (S37 × Bytes) := (numP 64 l).bind fun q => (rdSl q.1 q.2).map fun z => ({ a with f7 := z.1 }, z.2)
structure SSt (w0 : World) (b g r i sb n : Nat) (a : S37) (v4 : Value) (ps : List Raw) (s : ByteArray) (W : World) : Prop where
  hA : ActV W g a v4 (.slice (some ⟨sb, 0, none⟩) n n)
  hR : RdAt W r s
  hI : W.heap[i]? = some (.cells #[.bool false] 4 (0, 0))
  hF : FAt W b g 88 r
  hG : k48.R 48 W w0.heap.size (fun _ => True) v4 a.f4
  hS : kraw.R 51 W w0.heap.size (fun _ => True) (.slice (some ⟨sb, 0, none⟩) n n) ps
  hC : ∃ cur, W.heap[sb]? = some (.cells cur 51 (0, 0))
  hL : ∀ (j : Nat) (p : Raw), ps[j]? = some p → (Kd.int .i64).R 3 W w0.heap.size (fun _ => True) (encL p.2) p.1.f6
  hB : Below w0.heap.size w0 W
  lg : w0.heap.size ≤ g
  lr : w0.heap.size ≤ r
  li : w0.heap.size ≤ i
  ls : w0.heap.size ≤ sb
theorem Kd.R_grownT {α : Type} {d : Kd α} {e : Nat} {base : Nat} {v : Value} {xs : List α} {W W1 : World} {x : Nat} {y : Array Value} {ty : TypeId} (hR : d.R e W base (fun _ => True) v xs) (hg : W.grownBy W1 (some x)) (hx : W.heap[x]? = some (.cells y ty (0, 0))) (h1 : ∀ q, q ∈ e :: d.E → q ≠ ty) : d.R e W1 base (fun _ => True) v xs :=
  Kd.R_mono (Kd.R_grown (Kd.R_types hR hx h1) hg (fun k hk e => by injection e with e; exact hk.2 e)) (fun _ _ => trivial)
section
variable {w0 : World} {b g r i sb n k : Nat} {a : S37} {v4 : Value} {ps : List Raw} {s t : ByteArray} {W W1 : World}
theorem SSt.dead (h : SSt w0 b g r i sb n a v4 ps s W) : DSt w0 g i W := ⟨⟨_, _, _, h.hA⟩, h.hI, h.hB, h.lg, h.li⟩
theorem SSt.gr (h : SSt w0 b g r i sb n a v4 ps s W) : g ≠ r := ty_ne h.hA h.hR (by decide)
theorem SSt.ir (h : SSt w0 b g r i sb n a v4 ps s W) : i ≠ r := ty_ne h.hI h.hR (by decide)
theorem SSt.br (h : SSt w0 b g r i sb n a v4 ps s W) : b ≠ r := ty_ne h.hF h.hR (by decide)
theorem SSt.sr (h : SSt w0 b g r i sb n a v4 ps s W) : sb ≠ r := by obtain ⟨cur, hc⟩ := h.hC; exact ty_ne hc h.hR (by decide)
theorem SSt.gs (h : SSt w0 b g r i sb n a v4 ps s W) : g ≠ sb := by obtain ⟨cur, hc⟩ := h.hC; exact ty_ne h.hA hc (by decide)
theorem SSt.is (h : SSt w0 b g r i sb n a v4 ps s W) : i ≠ sb := by obtain ⟨cur, hc⟩ := h.hC; exact ty_ne h.hI hc (by decide)
theorem SSt.bs (h : SSt w0 b g r i sb n a v4 ps s W) : b ≠ sb := by obtain ⟨cur, hc⟩ := h.hC; exact ty_ne h.hF hc (by decide)
theorem SSt.below (h : SSt w0 b g r i sb n a v4 ps s W) (hb : Below W.heap.size W W1) : SSt w0 b g r i sb n a v4 ps s W1 :=
  ⟨h.hA.below hb, h.hR.below hb, blk_of h.hI hb, h.hF.below hb, Kd.R_below h.hG hb, Kd.R_below h.hS hb, by obtain ⟨cur, hc⟩ := h.hC; exact ⟨cur, blk_of hc hb⟩, fun j p hp => Kd.R_below (h.hL j p hp) hb, h.hB.trans (hb.mono h.hB.size), h.lg, h.lr, h.li, h.ls⟩
theorem SSt.alloc (h : SSt w0 b g r i sb n a v4 ps s W) (o : Obj) : SSt w0 b g r i sb n a v4 ps s (W.alloc o) := h.below (below_alloc (Below.refl _ _) o)
theorem SSt.drew (h : SSt w0 b g r i sb n a v4 ps s W) : SSt w0 b g r i sb n a v4 ps s W.drew := h.below (below_drew (Below.refl _ _))
theorem SSt.step (h : SSt w0 b g r i sb n a v4 ps s W) (hr : RdAt W1 r t) (hg : W.grownBy W1 (some r)) : SSt w0 b g r i sb n a v4 ps t W1 :=
  ⟨h.hA.grown hg (fun e => by injection e with e; exact h.gr e), hr, blk_grown h.hI hg (fun e => by injection e with e; exact h.ir e), blk_grown h.hF hg (fun e => by injection e with e; exact h.br e),
   Kd.R_grownT h.hG hg h.hR (by decide), Kd.R_grownT h.hS hg h.hR (by decide), by obtain ⟨cur, hc⟩ := h.hC; exact ⟨cur, blk_grown hc hg (fun e => by injection e with e; exact h.sr e)⟩, fun j p hp => Kd.R_grownT (h.hL j p hp) hg h.hR (by decide),
   h.hB.grown hg h.hB.size (by intro k e; injection e with e; subst e; exact h.lr), h.lg, h.lr, h.li, h.ls⟩
theorem SSt.len (h : SSt w0 b g r i sb n a v4 ps s W) : n = ps.length := (Kd.R_reads' h.hS).1
theorem SSt.at_ (h : SSt w0 b g r i sb n a v4 ps s W) {p : Raw} (hp : ps[k]? = some p) : ∀ j u, (rawC p.1 (encL p.2))[j]? = some u → W.cell? ⟨sb, k * 7 + j, none⟩ = some u := by
  intro j u hj
  obtain ⟨hk, _⟩ := List.getElem?_eq_some_iff.1 hp
  have hn := h.len
  obtain ⟨ad, c, hA, hl, hK, hc⟩ := Kd.C_get (Kd.R_reads' h.hS).2.2 p (k : Int) (by omega) (by omega)
  injection hA with hA
  subst hA
  rw [Int.toNat_natCast, List.getD_eq_getElem?_getD, hp] at hK
  have := kraw_open hK
  subst this
  have h2 := hc j u hj
  rw [Int.toNat_natCast] at h2
  have e : (⟨sb, 0, none⟩ : Addr).add (k * kraw.sz + j) = ⟨sb, k * 7 + j, none⟩ := by
    by_cases h0 : k * kraw.sz + j = 0
    · rw [h0]; have : k * 7 + j = 0 := h0; rw [this]; rfl
    · unfold Addr.add; rw [if_neg h0, kraw_sz]; simp
  rwa [e] at h2
theorem SSt.frz (h : SSt w0 b g r i sb n a v4 ps s W) (o : Nat) : W.frozen? ⟨sb, o, none⟩ = false := by
  obtain ⟨cur, hc⟩ := h.hC
  simp [World.frozen?, hc]
theorem SSt.took (h : SSt w0 b g r i sb n a v4 ps s W) {p : Raw} (hp : ps[k]? = some p) {x' : S51} {j : Nat} {u : Value} (hT : Took W r ⟨sb, k * 7 + j, none⟩ u t W1) (hj : j + 1 ≤ 7)
    (hM : (rawC p.1 (encL p.2)).take j ++ [u] ++ (rawC p.1 (encL p.2)).drop (j + 1) = rawC x' (encL p.2)) (h6 : x'.f6 = p.1.f6) : SSt w0 b g r i sb n a v4 (ps.set k (x', p.2)) t W1 := by
  obtain ⟨hk, _⟩ := List.getElem?_eq_some_iff.1 hp
  have hn := h.len
  obtain ⟨cur, hc⟩ := h.hC
  have hS1 := Kd.R_tookrow kraw (i := k) (j := j) (x' := (x', p.2)) (c := rawC p.1 (encL p.2)) (okp := fun _ => False) h.hS hT h.hR (by decide) (by omega) rfl (h.at_ hp) hj (by rw [hM]; exact kraw_mkM _ _ _ (x', p.2)) (fun _ hk => hk.elim)
  refine ⟨(hT.far g h.gr h.gs).trans h.hA, hT.rd, (hT.far i h.ir h.is).trans h.hI, (hT.far b h.br h.bs).trans h.hF, Kd.R_took h.hG hT h.hR hc (by decide) (by decide), hS1, ?_, fun j' p' hp' => ?_, h.hB.trans (hT.below h.lr h.ls), h.lg, h.lr, h.li, h.ls⟩
  · refine ⟨cur.set! (k * 7 + j) u, ?_⟩
    have := hT.at_
    have e : (⟨sb, k * 7 + j, none⟩ : Addr).block = sb := rfl
    rw [e] at this
    rw [this, blk_set hc]
  · by_cases e : j' = k
    · subst e
      rw [List.getElem?_set_self hk] at hp'
      injection hp' with hp'
      subst hp'
      rw [h6]
      exact Kd.R_took (h.hL j' p hp) hT h.hR hc (by decide) (by decide)
    · rw [List.getElem?_set_ne (by omega)] at hp'
      exact Kd.R_took (h.hL j' p' hp') hT h.hR hc (by decide) (by decide)
theorem SSt.put (h : SSt w0 b g r i sb n a v4 ps s W) {p : Raw} (hp : ps[k]? = some p) {x' : S51} {j : Nat} {u : Value} (hj : j + 1 ≤ 7)
    (hM : (rawC p.1 (encL p.2)).take j ++ [u] ++ (rawC p.1 (encL p.2)).drop (j + 1) = rawC x' (encL p.2)) (h6 : x'.f6 = p.1.f6) : SSt w0 b g r i sb n a v4 (ps.set k (x', p.2)) s (W.setCell ⟨sb, k * 7 + j, none⟩ u) := by
  obtain ⟨hk, _⟩ := List.getElem?_eq_some_iff.1 hp
  have hn := h.len
  obtain ⟨cur, hc⟩ := h.hC
  have hseg := Kd.R_seg (okp := fun _ => False) (x' := (x', p.2)) (seg := [u]) (j := j) h.hS (k : Int) (by omega) (by omega) (c := rawC p.1 (encL p.2)) rfl (by intro j u hj; rw [Int.toNat_natCast]; exact h.at_ hp j u hj) hj (by rw [show j + [u].length = j + 1 from rfl, hM]; exact kraw_mkM _ _ _ (x', p.2)) (fun _ hk => hk.elim)
  rw [Int.toNat_natCast] at hseg
  have hset : W.setCells sb (k * kraw.sz + j) [u] = W.setCell ⟨sb, k * 7 + j, none⟩ u := rfl
  rw [hset] at hseg
  refine ⟨blk_far h.hA h.gs, blk_far h.hR (Ne.symm h.sr), blk_far h.hI h.is, blk_far h.hF h.bs, Kd.R_set h.hG hc (by decide) _ _, hseg.1, ⟨_, blk_set hc⟩, fun j' p' hp' => ?_, h.hB.setCell h.ls _, h.lg, h.lr, h.li, h.ls⟩
  by_cases e : j' = k
  · subst e
    rw [List.getElem?_set_self hk] at hp'
    injection hp' with hp'
    subst hp'
    rw [h6]
    exact Kd.R_set (h.hL j' p hp) hc (by decide) _ _
  · rw [List.getElem?_set_ne (by omega)] at hp'
    exact Kd.R_set (h.hL j' p' hp') hc (by decide) _ _
theorem SSt.room (h : SSt w0 b g r i sb n a v4 ps s W) {x : S51} {q : RL} (hp : ps[k]? = some (x, q)) {m lb : Nat} (hN : NewRow (Kd.int .i64) 3 W W1 m 0 lb) (hat : W1.heap[sb]? = (W.setCell ⟨sb, k * 7 + 6, none⟩ (.slice (some ⟨lb, 0, none⟩) m m)).heap[sb]?) (hg : W.grownBy W1 (some sb)) :
    SSt w0 b g r i sb n a v4 (ps.set k ({ x with f6 := List.replicate m 0 }, (some ⟨lb, 0, none⟩, m, m))) s W1 := by
  obtain ⟨hk, _⟩ := List.getElem?_eq_some_iff.1 hp
  have hn := h.len
  obtain ⟨cur, hc⟩ := h.hC
  have hseg := Kd.R_seg (okp := fun _ => False) (x' := (({ x with f6 := List.replicate m 0 } : S51), ((some ⟨lb, 0, none⟩, m, m) : RL))) (seg := [Value.slice (some ⟨lb, 0, none⟩) m m]) (j := 6) h.hS (k : Int) (by omega) (by omega) (c := rawC x (encL q)) rfl (by intro j u hj; rw [Int.toNat_natCast]; exact h.at_ hp j u hj) (by show 6 + 1 ≤ 7; omega) (kraw_mkM _ _ _ _) (fun _ hk => hk.elim)
  rw [Int.toNat_natCast] at hseg
  have hset : ∀ u, W.setCells sb (k * kraw.sz + 6) [u] = W.setCell ⟨sb, k * 7 + 6, none⟩ u := fun u => rfl
  rw [hset] at hseg
  refine ⟨h.hA.grown hg (fun e => by injection e with e; exact h.gs e), blk_grown h.hR hg (fun e => by injection e with e; exact h.sr e.symm), blk_grown h.hI hg (fun e => by injection e with e; exact h.is e), blk_grown h.hF hg (fun e => by injection e with e; exact h.bs e),
    Kd.R_grownT h.hG hg hc (by decide), ?_, ⟨_, hat.trans (blk_set hc)⟩, fun j' p' hp' => ?_, h.hB.grown hg h.hB.size (by intro k e; injection e with e; subst e; exact h.ls), h.lg, h.lr, h.li, h.ls⟩
  · refine Kd.R_step hseg.1 (fun x hx hlt => ?_)
    by_cases e : x = sb
    · subst e; exact hat
    · have hxl : x < W.heap.size := by simpa [World.setCell] using hlt
      exact (hg.block x hxl (fun e2 => by injection e2 with e2; exact e e2)).trans (Below.heap_setCell W ⟨sb, k * 7 + 6, none⟩ _ x e).symm
  · by_cases e : j' = k
    · subst e
      rw [List.getElem?_set_self hk] at hp'
      injection hp' with hp'
      subst hp'
      exact Kd.R_lower hN.2 h.hB.size
    · rw [List.getElem?_set_ne (by omega)] at hp'
      exact Kd.R_grownT (h.hL j' p' hp') hg hc (by decide)
end
theorem kraw_ghost {e : Nat} {W : World} {base : Nat} {ok : Nat → Prop} {v : Value} {ps : List Raw} {k : Nat} {x x' : S51} {q : RL} (h : kraw.R e W base ok v ps) (hp : ps[k]? = some (x, q)) (hx : ∀ u, rawC x u = rawC x' u) : kraw.R e W base ok v (ps.set k (x', q)) := by
  obtain ⟨hk, _⟩ := List.getElem?_eq_some_iff.1 hp
  obtain ⟨h0, inner, ho, hr⟩ := h
  refine ⟨h0, inner, by rw [List.length_set]; exact ho, by rw [List.length_set]; exact hr.1, fun j p hj => ?_⟩
  by_cases e : j = k
  · subst e
    rw [List.getElem?_set_self hk] at hj
    injection hj with hj
    subst hj
    have hM := kraw_openM (hr.2 j _ hp)
    rw [hM, hx]
    exact kraw_mkM _ _ _ (x', q)
  · rw [List.getElem?_set_ne (by omega)] at hj
    exact hr.2 j p hj
structure LSt (w0 : World) (b g r i sb n k lb m : Nat) (a : S37) (v4 : Value) (ps : List Raw) (x : S51) (s : ByteArray) (W : World) : Prop where
  S : SSt w0 b g r i sb n a v4 ps s W
  hp : ps[k]? = some (x, (some ⟨lb, 0, none⟩, m, m))
  hO : ∀ (j : Nat) (p : Raw), ps[j]? = some p → j ≠ k → (Kd.int .i64).R 3 W w0.heap.size (fun y => y < lb) (encL p.2) p.1.f6
  hm : x.f6.length = m
section
variable {w0 : World} {b g r i sb n k lb m q : Nat} {a : S37} {v4 : Value} {ps : List Raw} {x : S51} {s t : ByteArray} {W W1 : World} {v : Int}
theorem LSt.below (h : LSt w0 b g r i sb n k lb m a v4 ps x s W) (hb : Below W.heap.size W W1) : LSt w0 b g r i sb n k lb m a v4 ps x s W1 := ⟨h.S.below hb, h.hp, fun j p hp hj => Kd.R_below (h.hO j p hp hj) hb, h.hm⟩
theorem LSt.alloc (h : LSt w0 b g r i sb n k lb m a v4 ps x s W) (o : Obj) : LSt w0 b g r i sb n k lb m a v4 ps x s (W.alloc o) := h.below (below_alloc (Below.refl _ _) o)
theorem LSt.drew (h : LSt w0 b g r i sb n k lb m a v4 ps x s W) : LSt w0 b g r i sb n k lb m a v4 ps x s W.drew := h.below (below_drew (Below.refl _ _))
theorem LSt.lblk (h : LSt w0 b g r i sb n k lb m a v4 ps x s W) (h0 : 0 < m) : ∃ cur, W.heap[lb]? = some (.cells cur 3 (0, 0)) := by
  obtain ⟨inner, ho⟩ := Kd.R_own (h.S.hL k _ h.hp)
  obtain ⟨sb', cur, e1, hb⟩ := own_block (A := some ⟨lb, 0, none⟩) (m := m) (c := m) ho (by show 0 < x.f6.length; have := h.hm; omega)
  injection e1 with e1
  injection e1 with e1 _ _
  subst e1
  exact ⟨cur, hb⟩
theorem LSt.cell (h : LSt w0 b g r i sb n k lb m a v4 ps x s W) (hq : q < m) : W.cell? ⟨lb, q, none⟩ = some (.int .i64 (x.f6.getD q 0)) ∧ W.frozen? ⟨lb, q, none⟩ = false := by
  obtain ⟨cur, hb⟩ := h.lblk (by omega)
  have hR := h.S.hL k _ h.hp
  have hC : (Kd.int .i64).C W (some ⟨lb, 0, none⟩) x.f6.length x.f6 := (Kd.R_reads' (A := some ⟨lb, 0, none⟩) (n := m) (c := m) hR).2.2
  obtain ⟨ad, hA, e0⟩ := Kd.at_int hC (q : Int) (by omega) (by have := h.hm; omega)
  injection hA with hA
  subst hA
  rw [Int.toNat_natCast] at e0
  have e : (⟨lb, 0, none⟩ : Addr).add q = ⟨lb, q, none⟩ := by
    by_cases h0 : q = 0
    · subst h0; rfl
    · unfold Addr.add; rw [if_neg h0]; simp
  rw [e] at e0
  refine ⟨?_, by simp [World.frozen?, hb]⟩
  rw [e0]
  unfold rd
  rw [Int.toNat_natCast]
theorem LSt.took (h : LSt w0 b g r i sb n k lb m a v4 ps x s W) (hq : q < m) (hT : Took W r ⟨lb, q, none⟩ (.int .i64 v) t W1) (hlb : w0.heap.size ≤ lb) :
    LSt w0 b g r i sb n k lb m a v4 (ps.set k ({ x with f6 := x.f6.set q v }, (some ⟨lb, 0, none⟩, m, m))) { x with f6 := x.f6.set q v } t W1 := by
  obtain ⟨cur, hb⟩ := h.lblk (by omega)
  obtain ⟨hk, _⟩ := List.getElem?_eq_some_iff.1 h.hp
  have hR := h.S.hL k _ h.hp
  have hc := h.cell hq
  have hT2 : Took W r ⟨lb, q * (Kd.int .i64).sz + 0, none⟩ (.int .i64 v) t W1 := by
    have e : q * (Kd.int .i64).sz + 0 = q := by show q * 1 + 0 = q; omega
    rw [e]; exact hT
  have hR1 := Kd.R_tookrow (Kd.int .i64) (i := q) (j := 0) (x' := v) (c := [.int .i64 (x.f6.getD q 0)]) (okp := fun _ => False) (n := m) (cap := m) hR hT2 h.S.hR (by decide) hq rfl
    (by
      intro j u hj
      match j, hj with
      | 0, hj =>
        injection hj with hj; subst hj
        have e : q * (Kd.int .i64).sz + 0 = q := by show q * 1 + 0 = q; omega
        rw [e]; exact hc.1) (by decide) rfl (fun _ hk => hk.elim)
  obtain ⟨cs, hsb⟩ := h.S.hC
  have hls : lb ≠ sb := ty_ne hb hsb (by decide)
  have hoth : ∀ j p, ps[j]? = some p → j ≠ k → (Kd.int .i64).R 3 W1 w0.heap.size (fun y => y < lb) (encL p.2) p.1.f6 := fun j p hp hj =>
    Kd.R_mono (Kd.R_step (Kd.R_types (h.hO j p hp hj) h.S.hR (by decide)) (fun y hy _ => hT.far y hy.2 (Nat.ne_of_lt hy.1))) (fun y hy => hy.1)
  refine ⟨⟨(hT.far g h.S.gr (ty_ne h.S.hA hb (by decide))).trans h.S.hA, hT.rd, (hT.far i h.S.ir (ty_ne h.S.hI hb (by decide))).trans h.S.hI, (hT.far b h.S.br (ty_ne h.S.hF hb (by decide))).trans h.S.hF, Kd.R_took h.S.hG hT h.S.hR hb (by decide) (by decide),
      kraw_ghost (Kd.R_took h.S.hS hT h.S.hR hb (by decide) (by decide)) h.hp (fun _ => rfl), ⟨cs, (hT.far sb h.S.sr (Ne.symm hls)).trans hsb⟩, fun j' p' hp' => ?_, h.S.hB.trans (hT.below h.S.lr hlb), h.S.lg, h.S.lr, h.S.li, h.S.ls⟩, List.getElem?_set_self hk, fun j' p' hp' hj => ?_, by rw [List.length_set]; exact h.hm⟩
  · by_cases e : j' = k
    · subst e
      rw [List.getElem?_set_self hk] at hp'
      injection hp' with hp'
      subst hp'
      exact hR1
    · rw [List.getElem?_set_ne (by omega)] at hp'
      exact Kd.R_mono (hoth j' p' hp' e) (fun _ _ => trivial)
  · rw [List.getElem?_set_ne (by omega)] at hp'
    exact hoth j' p' hp' hj
theorem SSt.roomL (h : SSt w0 b g r i sb n a v4 ps s W) {q : RL} (hp : ps[k]? = some (x, q)) (hN : NewRow (Kd.int .i64) 3 W W1 m 0 lb) (hat : W1.heap[sb]? = (W.setCell ⟨sb, k * 7 + 6, none⟩ (.slice (some ⟨lb, 0, none⟩) m m)).heap[sb]?) (hg : W.grownBy W1 (some sb)) :
    LSt w0 b g r i sb n k lb m a v4 (ps.set k ({ x with f6 := List.replicate m 0 }, (some ⟨lb, 0, none⟩, m, m))) { x with f6 := List.replicate m 0 } s W1 := by
  obtain ⟨hk, _⟩ := List.getElem?_eq_some_iff.1 hp
  obtain ⟨cur, hc⟩ := h.hC
  refine ⟨h.room hp hN hat hg, List.getElem?_set_self hk, fun j p' hp' hj => ?_, by simp⟩
  rw [List.getElem?_set_ne (by omega)] at hp'
  have hR := Kd.R_bound (Kd.R_types (h.hL j p' hp') hc (by decide))
  exact Kd.R_mono (Kd.R_step hR (fun y hy _ => hg.block y hy.2.2.1 (fun e => by injection e with e; exact hy.1.2 e))) (fun y hy => Nat.lt_of_lt_of_le hy.2.2.1 hN.1)
end
end Go.Proofs.Ytppgbahiolhgbaa
