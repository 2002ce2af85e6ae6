/- Contracts and plain laws over the seat, laid together (group 47 of what the claim needs). -/
import Derived.Test.YtppgbahiolhgbaaH46
import Derived.Test.YtppgbahiolhgbaaH45
import Derived.Test.YtppgbahiolhgbaaH7
import Derived.Deep.Slices
import Derived.ChangeArms
section
set_option linter.unusedVariables false
set_option linter.unusedSimpArgs false
namespace Go.Proofs.Ytppgbahiolhgbaa
open Go.RowKit Go.Proofs.YtppgbahiolhgbaaW.PrintWords Sp
open PScriptReads
set_option maxRecDepth 100000 in
set_option maxHeartbeats 8000000 in
theorem tells3 (A1 : Option Addr) (c1 : Nat) (l1 : List S37) (w : World) (hr1 : k37.C w A1 l1.length l1) (hc1 : l1.length ≤ c1) :
    Calls Try.prog 3 #[.slice A1 l1.length c1] w (TellsPost w) := by
  obtain ⟨r1, hS1, hL1⟩ := long7 A1 c1 l1 hc1
  have L1 := fun W (hW : Below w.heap.size w W) => hL1 W (Kd.C_below hr1 hW)
  clear hL1
  cases r1 with
  | false =>
    have s1 := hS1 rfl
    obtain ⟨k, hk⟩ := same_refl l1 (by have := s1.h1; omega) s1.own
    have K : (encV l1).2 = 0 ∨ (encV l1).2 = 5 ∨ (encV l1).2 = 2 := by
      unfold encV
      repeat' split
      all_goals simp
    exact tells_main (x := mk (encV l1).1) (n := (encV l1).2) ⟨hr1, L1, fun W hW => own9 A1 c1 l1 W (Kd.C_below hr1 hW) hc1 (by have := s1.h1; omega) s1.own,
      fun W A c hA => encode10 A c l1 W hA s1.small, fun W hW => encR11 A1 c1 l1 W (Kd.C_below hr1 hW) s1.small, fun W A c hA hcA hW => chirographref32_Same.calls k A c l1 A1 c1 l1 true W hA hcA (Kd.C_below hr1 hW) hc1 hk, s1.small⟩ K
  | true =>
    have H := Aid.hide L1
    have hW : Below w.heap.size w w := Below.refl _ _
    clear L1 hr1 hS1
    go_enter Try.func3, Try.ntmps3
    go_wp2_with (first
      | (go_at_call 7; (with_reducible refine ((Aid.unhide H) _ hW).mono ?_); rintro e1 w1 ⟨rfl, hb1⟩; replace hW := below_bt hW hb1; clear hb1)
      | (go_at_call 8; refine (alive8 _).mono ?_; rintro e1 w1 ⟨rfl, hb1⟩; replace hW := below_bt hW hb1; clear hb1))
    go_ret
    exact ⟨rfl, hW⟩
end Go.Proofs.Ytppgbahiolhgbaa
end
section
set_option linter.unusedVariables false
set_option linter.unusedSimpArgs false
namespace Go.Proofs.Ytppgbahiolhgbaa
open Go.RowKit Go.Proofs.YtppgbahiolhgbaaW.PrintWords Sp
open PScriptReads
theorem cells3 : Try.prog.cellsOf 3 = 1 := by kernel_rfl
theorem cells4 : Try.prog.cellsOf 4 = 1 := by kernel_rfl
theorem cells5 : Try.prog.cellsOf 5 = 1 := by kernel_rfl
theorem cells9 : Try.prog.cellsOf 9 = 1 := by kernel_rfl
theorem cells32 : Try.prog.cellsOf 32 = 1 := by kernel_rfl
theorem cells35 : Try.prog.cellsOf 35 = 1 := by kernel_rfl
theorem cells49 : Try.prog.cellsOf 49 = 1 := by kernel_rfl
theorem cells34 : Try.prog.cellsOf 34 = 3 := by kernel_rfl
theorem cells48 : Try.prog.cellsOf 48 = 2 := by kernel_rfl
theorem cells51 : Try.prog.cellsOf 51 = 7 := by kernel_rfl
theorem cells37 : Try.prog.cellsOf 37 = 10 := by kernel_rfl
def Opens {α : Type} (d : Kd α) (t : TypeId) : Prop := ∀ {H : Type} {enc : TypeId × Value → H} {W : World} {base : Nat} {sp : Nat → Bool} {held : Bool} {fuel : Nat} {cs : List Value} {x : DataW H × List MemPlace},
  DataW.trod enc Try.prog W base sp held fuel t cs = some x → ∃ a : α, d.K W a cs
theorem opens_row {α : Type} {d : Kd α} {t e : TypeId} (ht : Try.prog.underlying t = some (.slice e)) (hC : Try.prog.cellsOf e = d.sz) (ho : Opens d e) : Opens (Kd.slice e d) t := by
  intro H enc W base sp held fuel cs x h
  rcases Go.Deep.open_slice ht h with ⟨rfl, _⟩ | ⟨a, len, cap, m, n, D, Pl, rfl, hb, hl, hm, hmm, hx, hi⟩
  · exact ⟨[], none, 0, rfl, Nat.le_refl _, Kd.C_nil _ _⟩
  · have hlm : len ≤ m := by rw [hmm]; split <;> omega
    have key : ∀ k, k ≤ len → ∃ l : List α, l.length = k ∧ ∀ j p, l[j]? = some p → ∃ c, c.length = d.sz ∧ d.K W p c ∧ ∀ i u, c[i]? = some u → W.cell? (a.add (j * d.sz + i)) = some u := by
      intro k
      induction k with
      | zero => intro _; exact ⟨[], rfl, fun j p hj => by simp at hj⟩
      | succ k ih =>
        intro hk
        obtain ⟨l, h1, h2⟩ := ih (by omega)
        obtain ⟨cs', hc, htr⟩ := hi k (by omega)
        obtain ⟨p, hp⟩ := ho htr
        rw [hC] at hc
        obtain ⟨_, hcl, hat⟩ := World.cells?_some hc
        refine ⟨l ++ [p], by simp [h1], fun j q hj => ?_⟩
        by_cases hjl : j < l.length
        · rw [List.getElem?_append_left hjl] at hj
          exact h2 j q hj
        · rw [List.getElem?_append_right (by omega)] at hj
          have hj0 : j = k := by
            have := (List.getElem?_eq_some_iff.1 hj).1
            simp at this
            omega
          subst hj0
          rw [h1, Nat.sub_self] at hj
          obtain rfl : p = q := by simpa using hj
          refine ⟨cs', hcl, hp, fun i u hu => ?_⟩
          have hil : i < d.sz := by
            have := (List.getElem?_eq_some_iff.1 hu).1
            omega
          rw [← Go.Deep.add_add]
          exact (hat i hil).trans hu
    obtain ⟨l, h1, h2⟩ := key len (Nat.le_refl _)
    refine ⟨l, some a, cap, by rw [h1], by omega, rfl, by simp only [maxLen] at hm; omega, fun _ => ⟨a, rfl, h2⟩⟩
theorem opens_int (k : IntKind) {t : TypeId} (ht : Try.prog.underlying t = some (.int k)) : Opens (Kd.int k) t := by
  intro H enc W base sp held fuel cs x h
  obtain ⟨n, rfl, _⟩ := DataW.trod_int ht h
  exact ⟨n, rfl⟩
set_option maxRecDepth 100000 in
theorem opens48 : Opens k48 48 := by
  intro H enc W base sp held fuel cs x h
  obtain ⟨xs, n, _, rfl, hl, hlen, hf⟩ := DataW.trod_struct Try.underlying48 h
  have hl2 := hl.trans cells48
  match xs, hlen, cs, hl2 with
  | [y0, y1], _, [c0, c1], _ =>
    have f0 : DataW.trod enc Try.prog W base sp held n 3 [c0] = some y0 := by simpa [cells3] using hf 0 _ rfl
    have f1 : DataW.trod enc Try.prog W base sp held n 9 [c1] = some y1 := by simpa [cells9] using hf 1 _ rfl
    obtain ⟨n0, e0, _⟩ := DataW.trod_int Try.underlying3 f0
    obtain ⟨s1, e1, _⟩ := DataW.trod_string Try.underlying9 f1
    obtain rfl : c0 = .int .i64 n0 := by simpa using e0
    obtain rfl : c1 = .string s1 := by simpa using e1
    exact ⟨⟨n0, s1⟩, k48_mk W _⟩
set_option maxRecDepth 100000 in
theorem opens51 : Opens k51 51 := by
  intro H enc W base sp held fuel cs x h
  obtain ⟨xs, n, _, rfl, hl, hlen, hf⟩ := DataW.trod_struct Try.underlying51 h
  have hl2 := hl.trans cells51
  match xs, hlen, cs, hl2 with
  | [y0, y1, y2, y3, y4, y5, y6], _, [c0, c1, c2, c3, c4, c5, c6], _ =>
    have f0 : DataW.trod enc Try.prog W base sp held n 5 [c0] = some y0 := by simpa [cells5] using hf 0 _ rfl
    have f1 : DataW.trod enc Try.prog W base sp held n 3 [c1] = some y1 := by simpa [cells3] using hf 1 _ rfl
    have f2 : DataW.trod enc Try.prog W base sp held n 3 [c2] = some y2 := by simpa [cells3] using hf 2 _ rfl
    have f3 : DataW.trod enc Try.prog W base sp held n 3 [c3] = some y3 := by simpa [cells3] using hf 3 _ rfl
    have f4 : DataW.trod enc Try.prog W base sp held n 3 [c4] = some y4 := by simpa [cells3] using hf 4 _ rfl
    have f5 : DataW.trod enc Try.prog W base sp held n 9 [c5] = some y5 := by simpa [cells9] using hf 5 _ rfl
    have f6 : DataW.trod enc Try.prog W base sp held n 49 [c6] = some y6 := by simpa [cells49] using hf 6 _ rfl
    obtain ⟨n0, e0, _⟩ := DataW.trod_int Try.underlying5 f0
    obtain ⟨n1, e1, _⟩ := DataW.trod_int Try.underlying3 f1
    obtain ⟨n2, e2, _⟩ := DataW.trod_int Try.underlying3 f2
    obtain ⟨n3, e3, _⟩ := DataW.trod_int Try.underlying3 f3
    obtain ⟨n4, e4, _⟩ := DataW.trod_int Try.underlying3 f4
    obtain ⟨s5, e5, _⟩ := DataW.trod_string Try.underlying9 f5
    obtain ⟨l6, A6, q6, e6, h6, g6⟩ := opens_row Try.underlying49 cells3 (opens_int .i64 Try.underlying3) f6
    obtain rfl : c0 = .int .u8 n0 := by simpa using e0
    obtain rfl : c1 = .int .i64 n1 := by simpa using e1
    obtain rfl : c2 = .int .i64 n2 := by simpa using e2
    obtain rfl : c3 = .int .i64 n3 := by simpa using e3
    obtain rfl : c4 = .int .i64 n4 := by simpa using e4
    obtain rfl : c5 = .string s5 := by simpa using e5
    obtain rfl : c6 = .slice A6 l6.length q6 := by simpa using e6
    exact ⟨⟨n0, n1, n2, n3, n4, s5, l6⟩, k51_mk W _ h6 g6⟩
set_option maxRecDepth 100000 in
theorem opens37 : Opens k37 37 := by
  intro H enc W base sp held fuel cs x h
  obtain ⟨xs, n, _, rfl, hl, hlen, hf⟩ := DataW.trod_struct Try.underlying37 h
  have hl2 := hl.trans cells37
  match xs, hlen, cs, hl2 with
  | [y0, y1, y2, y3, y4, y5, y6, y7], _, [c0, c1, c2, c3, c4, c5, c6, c7, c8, c9], _ =>
    have f0 : DataW.trod enc Try.prog W base sp held n 5 [c0] = some y0 := by simpa [cells5] using hf 0 _ rfl
    have f1 : DataW.trod enc Try.prog W base sp held n 3 [c1] = some y1 := by simpa [cells3] using hf 1 _ rfl
    have f2 : DataW.trod enc Try.prog W base sp held n 3 [c2] = some y2 := by simpa [cells3] using hf 2 _ rfl
    have f3 : DataW.trod enc Try.prog W base sp held n 3 [c3] = some y3 := by simpa [cells3] using hf 3 _ rfl
    have f4 : DataW.trod enc Try.prog W base sp held n 32 [c4] = some y4 := by simpa [cells32] using hf 4 _ rfl
    have f5 : DataW.trod enc Try.prog W base sp held n 34 [c5, c6, c7] = some y5 := by simpa [cells34] using hf 5 _ rfl
    have f6 : DataW.trod enc Try.prog W base sp held n 4 [c8] = some y6 := by simpa [cells4] using hf 6 _ rfl
    have f7 : DataW.trod enc Try.prog W base sp held n 35 [c9] = some y7 := by simpa [cells35] using hf 7 _ rfl
    obtain ⟨n0, e0, _⟩ := DataW.trod_int Try.underlying5 f0
    obtain ⟨n1, e1, _⟩ := DataW.trod_int Try.underlying3 f1
    obtain ⟨n2, e2, _⟩ := DataW.trod_int Try.underlying3 f2
    obtain ⟨n3, e3, _⟩ := DataW.trod_int Try.underlying3 f3
    obtain ⟨l4, A4, q4, e4, h4, g4⟩ := opens_row Try.underlying32 cells48 opens48 f4
    obtain ⟨b6, e6, _⟩ := DataW.trod_bool Try.underlying4 f6
    obtain ⟨l7, A7, q7, e7, h7, g7⟩ := opens_row Try.underlying35 cells51 opens51 f7
    obtain ⟨zs, m, _, rfl, _, hzlen, hz⟩ := DataW.trod_struct Try.underlying34 f5
    match zs, hzlen with
    | [z0, z1, z2], _ =>
      have k0 : DataW.trod enc Try.prog W base sp held m 3 [c5] = some z0 := by simpa [cells3] using hz 0 _ rfl
      have k1 : DataW.trod enc Try.prog W base sp held m 3 [c6] = some z1 := by simpa [cells3] using hz 1 _ rfl
      have k2 : DataW.trod enc Try.prog W base sp held m 3 [c7] = some z2 := by simpa [cells3] using hz 2 _ rfl
      obtain ⟨t0, o0, _⟩ := DataW.trod_int Try.underlying3 k0
      obtain ⟨t1, o1, _⟩ := DataW.trod_int Try.underlying3 k1
      obtain ⟨t2, o2, _⟩ := DataW.trod_int Try.underlying3 k2
      obtain rfl : c0 = .int .u8 n0 := by simpa using e0
      obtain rfl : c1 = .int .i64 n1 := by simpa using e1
      obtain rfl : c2 = .int .i64 n2 := by simpa using e2
      obtain rfl : c3 = .int .i64 n3 := by simpa using e3
      obtain rfl : c4 = .slice A4 l4.length q4 := by simpa using e4
      obtain rfl : c5 = .int .i64 t0 := by simpa using o0
      obtain rfl : c6 = .int .i64 t1 := by simpa using o1
      obtain rfl : c7 = .int .i64 t2 := by simpa using o2
      obtain rfl : c8 = .bool b6 := by simpa using e6
      obtain rfl : c9 = .slice A7 l7.length q7 := by simpa using e7
      exact ⟨⟨n0, n1, n2, n3, l4, ⟨t0, t1, t2⟩, b6, l7⟩, k37_mk W ⟨n0, n1, n2, n3, l4, ⟨t0, t1, t2⟩, b6, l7⟩ h4 g4 h7 g7⟩
theorem opens22 : Opens (Kd.slice 37 k37) 22 := opens_row Try.underlying22 cells37 opens37
end Go.Proofs.Ytppgbahiolhgbaa
end
