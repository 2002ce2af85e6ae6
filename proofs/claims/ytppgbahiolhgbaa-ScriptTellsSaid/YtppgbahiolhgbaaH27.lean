/- Contracts and plain laws over the seat, laid together (group 27 of what the claim needs). -/
import Derived.Test.YtppgbahiolhgbaaH25
import Derived.Test.YtppgbahiolhgbaaH26
import Derived.Defers
import Derived.Recover
import Derived.Laws.Pointers
section
set_option linter.unusedVariables false
set_option linter.unusedSimpArgs false
namespace Go.Proofs.Ytppgbahiolhgbaa
open Go.RowKit Go.Proofs.YtppgbahiolhgbaaW.PrintWords Sp
open PScriptReads
def headT : Bytes → Nat × Nat × Nat
  | [] => (0, 0, 6)
  | c :: t =>
    if c.toNat = 100 then (if (rdText t 1024).2.2 ≠ 0 then (0, 0, (rdText t 1024).2.2) else (1 + (rdText t 1024).2.1, 0, 0))
    else if c.toNat = 97 then (if (rdText t 32).2.2 ≠ 0 then (0, 0, (rdText t 32).2.2) else if namedB (rdText t 32).1 = true then (1 + (rdText t 32).2.1, 0, 0) else (0, 0, 7))
    else if c.toNat = 114 then (if (rdNum t).2.2 ≠ 0 then (0, 0, (rdNum t).2.2) else if 32 < (rdNum t).1 then (0, 0, 5) else (1 + (rdNum t).2.1, (rdNum t).1, 0))
    else if c.toNat = 104 then (1, 1, 0) else if c.toNat = 109 then (1, 2, 0) else if c.toNat = 115 then (1, 3, 0) else (0, 0, 7)
def tparts (rd : Bytes → Nat × Nat) : Nat → Nat → Bytes → Nat × Nat
  | 0, n, _ => (n, 0)
  | p + 1, n, l => if (rd (l.drop n)).2 ≠ 0 then (0, (rd (l.drop n)).2) else tparts rd p (n + (rd (l.drop n)).1) l
def tread : Nat → Bytes → Nat × Nat
  | 0, _ => (0, 60)
  | f + 1, l => if (headT l).2.2 ≠ 0 then (0, (headT l).2.2) else tparts (tread f) (headT l).2.1 (headT l).1 l
def tRead (l : Bytes) : Nat × Nat := if (tread 16 l).2 ≠ 0 then (0, (tread 16 l).2) else if 16384 < (tread 16 l).1 then (0, 5) else ((tread 16 l).1, 0)
def tcheck (l : Bytes) : Nat := if (tRead l).2 ≠ 0 then (tRead l).2 else if (tRead l).1 ≠ l.length then 7 else 0
theorem tparts_zero (rd : Bytes → Nat × Nat) (n : Nat) (l : Bytes) : tparts rd 0 n l = (n, 0) := rfl
theorem tparts_succ (rd : Bytes → Nat × Nat) (p n : Nat) (l : Bytes) : tparts rd (p + 1) n l = if (rd (l.drop n)).2 ≠ 0 then (0, (rd (l.drop n)).2) else tparts rd p (n + (rd (l.drop n)).1) l := rfl
theorem tread_succ (f : Nat) (l : Bytes) : tread (f + 1) l = if (headT l).2.2 ≠ 0 then (0, (headT l).2.2) else tparts (tread f) (headT l).2.1 (headT l).1 l := rfl
theorem headT_cons (c : UInt8) (t : Bytes) : headT (c :: t) =
    if c.toNat = 100 then (if (rdText t 1024).2.2 ≠ 0 then (0, 0, (rdText t 1024).2.2) else (1 + (rdText t 1024).2.1, 0, 0))
    else if c.toNat = 97 then (if (rdText t 32).2.2 ≠ 0 then (0, 0, (rdText t 32).2.2) else if namedB (rdText t 32).1 = true then (1 + (rdText t 32).2.1, 0, 0) else (0, 0, 7))
    else if c.toNat = 114 then (if (rdNum t).2.2 ≠ 0 then (0, 0, (rdNum t).2.2) else if 32 < (rdNum t).1 then (0, 0, 5) else (1 + (rdNum t).2.1, (rdNum t).1, 0))
    else if c.toNat = 104 then (1, 1, 0) else if c.toNat = 109 then (1, 2, 0) else if c.toNat = 115 then (1, 3, 0) else (0, 0, 7) := rfl
theorem rdText_len {l : Bytes} {m : Nat} (h : (rdText l m).2.2 = 0) : (rdText l m).1.length ≤ m ∧ (rdText l m).1.length ≤ l.length ∧ (rdText l m).2.1 ≤ l.length := by
  have h1 := rdText_ok (s := (rdText l m).1) (n := (rdText l m).2.1) (by rw [← h])
  have h2 : (textB (rdText l m).1).length = (numB (rdText l m).1.length).length + (rdText l m).1.length := by unfold textB; rw [List.length_append]
  omega
theorem pair3 {α β γ : Type} {r : α × β × γ} {c : γ} (h : r.2.2 = c) : r = (r.1, r.2.1, c) := by rw [← h]
theorem headT_ok (l : Bytes) (h : (headT l).2.2 = 0) : (headT l).1 ≤ l.length ∧ (headT l).2.1 ≤ 32 ∧ 1 ≤ (headT l).1 := by
  cases l with
  | nil => simp [headT] at h
  | cons c t =>
    rw [headT_cons] at *
    by_cases c1 : c.toNat = 100
    · rw [if_pos c1] at *
      by_cases e : (rdText t 1024).2.2 = 0
      · rw [if_neg (by simpa using e)]
        have := (rdText_ok (pair3 e)).1
        simp; omega
      · rw [if_pos e] at h; exact absurd h e
    · rw [if_neg c1] at *
      by_cases c2 : c.toNat = 97
      · rw [if_pos c2] at *
        by_cases e : (rdText t 32).2.2 = 0
        · rw [if_neg (by simpa using e)] at *
          by_cases hn : namedB (rdText t 32).1 = true
          · rw [if_pos hn]
            have := (rdText_ok (pair3 e)).1
            simp; omega
          · rw [if_neg hn] at h; simp at h
        · rw [if_pos e] at h; exact absurd h e
      · rw [if_neg c2] at *
        by_cases c3 : c.toNat = 114
        · rw [if_pos c3] at *
          by_cases e : (rdNum t).2.2 = 0
          · rw [if_neg (by simpa using e)] at *
            by_cases hn : 32 < (rdNum t).1
            · rw [if_pos hn] at h; simp at h
            · rw [if_neg hn]
              have := (rdNum_ok (pair3 e)).1
              simp; omega
          · rw [if_pos e] at h; exact absurd h e
        · rw [if_neg c3] at *
          repeat' (split at h)
          all_goals first | (simp at h; done) | skip
          · rename_i c4; rw [if_pos c4]; simp
          · rename_i c4 c5; rw [if_neg c4, if_pos c5]; simp
          · rename_i c4 c5 c6; rw [if_neg c4, if_neg c5, if_pos c6]; simp
theorem tparts_le (rd : Bytes → Nat × Nat) (hrd : ∀ l, (rd l).2 = 0 → (rd l).1 ≤ l.length) (l : Bytes) : ∀ (p n : Nat), n ≤ l.length → (tparts rd p n l).2 = 0 → n ≤ (tparts rd p n l).1 ∧ (tparts rd p n l).1 ≤ l.length := by
  intro p
  induction p with
  | zero => intro n hn _; exact ⟨Nat.le_refl _, hn⟩
  | succ p ih =>
    intro n hn h
    rw [tparts_succ] at *
    by_cases e : (rd (l.drop n)).2 = 0
    · rw [if_neg (by simpa using e)] at *
      have := hrd _ e
      rw [List.length_drop] at this
      have := ih (n + (rd (l.drop n)).1) (by omega) h
      omega
    · rw [if_pos e] at h; exact absurd h e
theorem tread_le : ∀ (f : Nat) (l : Bytes), (tread f l).2 = 0 → (tread f l).1 ≤ l.length := by
  intro f
  induction f with
  | zero => intro l h; simp [tread] at h
  | succ f ih =>
    intro l h
    rw [tread_succ] at *
    by_cases e : (headT l).2.2 = 0
    · rw [if_neg (by simpa using e)] at *
      exact (tparts_le _ ih l _ _ (headT_ok l e).1 h).2
    · rw [if_pos e] at h; exact absurd h e
theorem head_f (s : ByteArray) (hs : s.size ≤ 9223372036854775807) : ∃ r1 r2 : Int, ∀ k, s.size + 30 ≤ k → chirographref06_head.f k s = some (r1, r2, ((headT (L s)).2.2 : Int)) ∧ ((headT (L s)).2.2 = 0 → r1 = ((headT (L s)).1 : Int) ∧ r2 = ((headT (L s)).2.1 : Int)) := by
  unfold chirographref06_head.f
  have hl := L_len s
  cases h : L s with
  | nil =>
    rw [h] at hl
    refine ⟨0, 0, fun k hk => ?_⟩
    rw [if_pos (by simp at hl; omega)]
    simp [headT]
  | cons c t =>
    obtain ⟨c1, hsz, hb0⟩ := at0 h
    have hu := u8_lt c
    have ht : L (s.extract 1 s.size) = t := by rw [L_ext, h, hsz]; simp
    have hz : (s.extract 1 s.size).size = t.length := by rw [← L_len, ht]
    have hk9 : ∀ k, s.size + 30 ≤ k → 21 ≤ k := fun k hk => by omega
    have hT := fun (m : Int) (k : Nat) (hk : s.size + 30 ≤ k) h0 h1 => rt62_f (s.extract 1 s.size) m k (hk9 k hk) (by omega) h0 h1
    have hN := fun (k : Nat) (hk : s.size + 30 ≤ k) => rn61_f (s.extract 1 s.size) k (by omega)
    rw [ht] at hT hN
    rw [hb0, headT_cons]
    by_cases d1 : c.toNat = 100
    · by_cases e : (rdText t 1024).2.2 = 0
      · have hk1 := rdText_ok (pair3 e)
        refine ⟨((1 + (rdText t 1024).2.1 : Nat) : Int), 0, fun k hk => ?_⟩
        rw [if_neg (by omega), if_pos (by omega), if_pos (by omega), if_pos (by omega), hT 1024 k hk (by omega) (by omega)]
        simp only [Option.bind_some]
        rw [if_pos d1, if_neg (by simpa using e)]
        rw [w64 (by have := hk1.1; simp; omega) (by have := hk1.1; simp; omega)]
        simp [e]
      · refine ⟨wrap64 (1 + ((rdText t 1024).2.1 : Int)), 0, fun k hk => ?_⟩
        rw [if_neg (by omega), if_pos (by omega), if_pos (by omega), if_pos (by omega), hT 1024 k hk (by omega) (by omega)]
        simp only [Option.bind_some]
        rw [if_pos d1, if_pos e]
        exact ⟨rfl, fun h => absurd h e⟩
    · by_cases d2 : c.toNat = 97
      · by_cases e : (rdText t 32).2.2 = 0
        · have hk1 := rdText_len e
          have hk1 : (rdText t 32).2.1 ≤ t.length ∧ (rdText t 32).1.length ≤ t.length := ⟨hk1.2.2, hk1.2.1⟩
          have hnm := fun (k : Nat) (hk : s.size + 30 ≤ k) => name75_f (mk (rdText t 32).1) (by rw [size_mk]; omega) k (by rw [size_mk]; omega)
          by_cases hn : namedB (rdText t 32).1 = true
          · refine ⟨((1 + (rdText t 32).2.1 : Nat) : Int), 0, fun k hk => ?_⟩
            rw [if_neg (by omega), if_pos (by omega), if_neg (by omega), if_pos (by omega), if_pos (by omega), hT 32 k hk (by omega) (by omega)]
            simp only [Option.bind_some]
            rw [show (32 : Int).toNat = 32 from rfl, if_pos (by omega), hnm k hk, L_mk]
            simp only [Option.bind_some]
            rw [if_pos hn, if_neg d1, if_pos d2, if_neg (by simpa using e), if_pos hn, w64 (by have := hk1.1; omega) (by have := hk1.1; omega)]
            simp [e]
          · refine ⟨0, 0, fun k hk => ?_⟩
            rw [if_neg (by omega), if_pos (by omega), if_neg (by omega), if_pos (by omega), if_pos (by omega), hT 32 k hk (by omega) (by omega)]
            simp only [Option.bind_some]
            rw [show (32 : Int).toNat = 32 from rfl, if_pos (by omega), hnm k hk, L_mk]
            simp only [Option.bind_some]
            rw [if_neg hn, if_neg d1, if_pos d2, if_neg (by simpa using e), if_neg hn]
            simp
        · refine ⟨wrap64 (1 + ((rdText t 32).2.1 : Int)), 0, fun k hk => ?_⟩
          rw [if_neg (by omega), if_pos (by omega), if_neg (by omega), if_pos (by omega), if_pos (by omega), hT 32 k hk (by omega) (by omega)]
          simp only [Option.bind_some]
          rw [show (32 : Int).toNat = 32 from rfl, if_neg (by omega), if_neg d1, if_pos d2, if_pos e]
          exact ⟨rfl, fun h => absurd h e⟩
      · by_cases d3 : c.toNat = 114
        · by_cases e : (rdNum t).2.2 = 0
          · have hk1 := rdNum_ok (pair3 e)
            by_cases hn : 32 < (rdNum t).1
            · refine ⟨0, 0, fun k hk => ?_⟩
              rw [if_neg (by omega), if_pos (by omega), if_neg (by omega), if_neg (by omega), if_pos (by omega), if_pos (by omega), hN k hk]
              simp only [Option.bind_some]
              rw [if_pos (by omega), if_pos (by omega), if_neg d1, if_neg d2, if_pos d3, if_neg (by simpa using e), if_pos hn]
              simp
            · refine ⟨((1 + (rdNum t).2.1 : Nat) : Int), ((rdNum t).1 : Int), fun k hk => ?_⟩
              rw [if_neg (by omega), if_pos (by omega), if_neg (by omega), if_neg (by omega), if_pos (by omega), if_pos (by omega), hN k hk]
              simp only [Option.bind_some]
              rw [if_pos (by omega), if_neg (by omega), if_neg d1, if_neg d2, if_pos d3, if_neg (by simpa using e), if_neg hn, w64 (by have := hk1.1; omega) (by have := hk1.1; omega), w64 (by omega) (by omega)]
              simp [e]
          · refine ⟨wrap64 (1 + ((rdNum t).2.1 : Int)), wrap64 ((rdNum t).1 : Int), fun k hk => ?_⟩
            rw [if_neg (by omega), if_pos (by omega), if_neg (by omega), if_neg (by omega), if_pos (by omega), if_pos (by omega), hN k hk]
            simp only [Option.bind_some]
            rw [if_neg (by omega), if_neg d1, if_neg d2, if_pos d3, if_pos e]
            exact ⟨rfl, fun h => absurd h e⟩
        · by_cases d4 : c.toNat = 104
          · refine ⟨1, 1, fun k hk => ?_⟩
            rw [if_neg (by omega), if_pos (by omega), if_neg (by omega), if_neg (by omega), if_neg (by omega), if_pos (by omega), if_neg d1, if_neg d2, if_neg d3, if_pos d4]
            simp
          · by_cases d5 : c.toNat = 109
            · refine ⟨1, 2, fun k hk => ?_⟩
              rw [if_neg (by omega), if_pos (by omega), if_neg (by omega), if_neg (by omega), if_neg (by omega), if_neg (by omega), if_pos (by omega), if_neg d1, if_neg d2, if_neg d3, if_neg d4, if_pos d5]
              simp
            · by_cases d6 : c.toNat = 115
              · refine ⟨1, 3, fun k hk => ?_⟩
                rw [if_neg (by omega), if_pos (by omega), if_neg (by omega), if_neg (by omega), if_neg (by omega), if_neg (by omega), if_neg (by omega), if_pos (by omega), if_neg d1, if_neg d2, if_neg d3, if_neg d4, if_neg d5, if_pos d6]
                simp
              · refine ⟨0, 0, fun k hk => ?_⟩
                rw [if_neg (by omega), if_pos (by omega), if_neg (by omega), if_neg (by omega), if_neg (by omega), if_neg (by omega), if_neg (by omega), if_neg (by omega), if_neg d1, if_neg d2, if_neg d3, if_neg d4, if_neg d5, if_neg d6]
                simp
theorem read_stuck (s : ByteArray) (k : Nat) (e : Int) (e0 : e ≠ 0) (a b c d : Int) : chirographref06_read.l0 (k + 1) s a b c e d = some (0, e) := by
  unfold chirographref06_read.l0
  rw [if_neg e0, if_neg e0]
  split <;> rfl
theorem read_step (s : ByteArray) (f n parts i : Nat) (hn : n ≤ s.size) (hf : f ≤ 16) (hi : i < parts) (r e : Int) (m : Nat) (q : Option (Int × Int))
    (h1 : chirographref06_read.f m (s.extract n s.size) (17 - (f : Int)) = some (r, e)) (hq : chirographref06_read.l0 m s (16 - (f : Int)) (wrap64 ((n : Int) + r)) parts e (wrap64 ((i : Int) + 1)) = q) :
    chirographref06_read.l0 (m + 1) s (16 - (f : Int)) (n : Int) (parts : Int) 0 (i : Int) = q := by
  have hw : wrap64 (16 - (f : Int) + 1) = 17 - (f : Int) := by rw [w64 (by omega) (by omega)]; omega
  have c1 : (i : Int) < (parts : Int) := by omega
  have c2 : (0 : Int) ≤ (n : Int) := by omega
  have c3 : (n : Int) ≤ (s.size : Int) := by omega
  unfold chirographref06_read.l0
  rw [if_pos c1, if_pos rfl, if_pos c2, if_pos c3, Int.toNat_natCast, hw, h1]
  simp only [Option.bind_some]
  exact hq
theorem read_ends (s : ByteArray) (d : Int) (n parts k : Nat) : chirographref06_read.l0 (k + 1) s d (n : Int) (parts : Int) 0 (parts : Int) = some ((n : Int), 0) := by
  unfold chirographref06_read.l0
  rw [if_neg (Int.lt_irrefl _), if_pos rfl]
theorem read_loop (s : ByteArray) (hs : s.size ≤ 4611686018427387904) (f : Nat) (hf : f ≤ 16)
    (ih : ∀ u : ByteArray, u.size ≤ 4611686018427387904 → ∃ K, ∀ k, K ≤ k → chirographref06_read.f k u (17 - (f : Int)) = some (((tread f (L u)).1 : Int), ((tread f (L u)).2 : Int)))
    (parts : Nat) (hp : parts ≤ 32) (d : Nat) : ∀ (n i : Nat), n ≤ s.size → i + d = parts →
    ∃ K, ∀ k, K ≤ k → chirographref06_read.l0 k s (16 - (f : Int)) (n : Int) (parts : Int) 0 (i : Int) = some (((tparts (tread f) d n (L s)).1 : Int), ((tparts (tread f) d n (L s)).2 : Int)) := by
  induction d with
  | zero =>
    intro n i hn hi
    obtain rfl : i = parts := by omega
    refine ⟨1, fun k hk => ?_⟩
    obtain ⟨k, rfl⟩ : ∃ m, k = m + 1 := ⟨k - 1, by omega⟩
    rw [read_ends, tparts_zero]
    rfl
  | succ d ihd =>
    intro n i hn hi
    have hz : (s.extract n s.size).size ≤ s.size := by rw [← L_len, L_ext, List.length_take, List.length_drop, L_len]; omega
    obtain ⟨K1, h1⟩ := ih (s.extract n s.size) (Nat.le_trans hz hs)
    have hx : L (s.extract n s.size) = (L s).drop n := by
      rw [L_ext, List.take_of_length_le]; rw [List.length_drop, L_len]; omega
    rw [hx] at h1
    rw [tparts_succ]
    have hle := tread_le f ((L s).drop n)
    rw [List.length_drop, L_len] at hle
    generalize tread f ((L s).drop n) = q at *
    obtain ⟨r, e⟩ := q
    simp only at *
    by_cases e0 : e = 0
    · subst e0
      have hle := hle rfl
      obtain ⟨K2, h2⟩ := ihd (n + r) (i + 1) (by omega) (by omega)
      refine ⟨max K1 K2 + 1, fun k hk => ?_⟩
      obtain ⟨k, rfl⟩ : ∃ m, k = m + 1 := ⟨k - 1, by omega⟩
      rw [if_neg (fun h => h rfl)]
      have hw2 : wrap64 ((n : Int) + (r : Int)) = ((n + r : Nat) : Int) := by rw [w64 (by omega) (by omega)]; omega
      have hw3 : wrap64 ((i : Int) + 1) = ((i + 1 : Nat) : Int) := by rw [w64 (by omega) (by omega)]; omega
      refine read_step s f n parts i hn hf (by omega) (r : Int) 0 k _ (h1 k (by omega)) ?_
      rw [hw2, hw3]
      exact h2 k (by omega)
    · rw [if_pos e0]
      refine ⟨K1 + 2, fun k hk => ?_⟩
      obtain ⟨k, rfl⟩ : ∃ m, k = m + 1 + 1 := ⟨k - 2, by omega⟩
      exact read_step s f n parts i hn hf (by omega) (r : Int) (e : Int) (k + 1) _ (h1 (k + 1) (by omega)) (read_stuck s k (e : Int) (by omega) _ _ _ _)
theorem read_f : ∀ (f : Nat) (hf : f ≤ 16) (s : ByteArray) (hs : s.size ≤ 4611686018427387904),
    ∃ K, ∀ k, K ≤ k → chirographref06_read.f k s (17 - (f : Int)) = some (((tread f (L s)).1 : Int), ((tread f (L s)).2 : Int)) := by
  intro f
  induction f with
  | zero =>
    intro _ s _
    refine ⟨1, fun k hk => ?_⟩
    obtain ⟨k, rfl⟩ : ∃ m, k = m + 1 := ⟨k - 1, by omega⟩
    simp [chirographref06_read.f, tread]
  | succ f ih =>
    intro hf s hs
    obtain ⟨r1, r2, hh⟩ := head_f s (by omega)
    rw [tread_succ]
    by_cases e : (headT (L s)).2.2 = 0
    · obtain ⟨_, hr⟩ := hh (s.size + 30) (Nat.le_refl _)
      obtain ⟨rfl, rfl⟩ := hr e
      have hk := headT_ok (L s) e
      rw [L_len] at hk
      obtain ⟨K, h⟩ := read_loop s hs f (by omega) (ih (by omega)) (headT (L s)).2.1 hk.2.1 (headT (L s)).2.1 (headT (L s)).1 0 hk.1 (by omega)
      refine ⟨max K (s.size + 30) + 1, fun k hk => ?_⟩
      obtain ⟨k, rfl⟩ : ∃ m, k = m + 1 := ⟨k - 1, by omega⟩
      simp only [chirographref06_read.f]
      rw [if_neg (by omega), (hh k (by omega)).1]
      simp only [Option.bind_some]
      rw [if_neg (by simpa using e), e, show 17 - ((f + 1 : Nat) : Int) = 16 - (f : Int) from by omega]
      exact h k (by omega)
    · refine ⟨s.size + 32, fun k hk => ?_⟩
      obtain ⟨k, rfl⟩ : ∃ m, k = m + 2 := ⟨k - 2, by omega⟩
      simp only [chirographref06_read.f]
      rw [if_neg (by omega), (hh (k + 1) (by omega)).1]
      simp only [Option.bind_some]
      rw [if_pos e]
      simp only [chirographref06_read.l0]
      have e' : ¬ ((headT (L s)).2.2 : Int) = 0 := by omega
      split
      · try rw [if_neg e']
        rfl
      · try rw [if_neg e']
        rfl
theorem Read_f (s : ByteArray) (hs : s.size ≤ 4611686018427387904) : ∃ K, ∀ k, K ≤ k → chirographref06_Read.f k s = some (((tRead (L s)).1 : Int), ((tRead (L s)).2 : Int)) := by
  obtain ⟨K, h⟩ := read_f 16 (Nat.le_refl _) s hs
  refine ⟨K, fun k hk => ?_⟩
  unfold chirographref06_Read.f tRead
  rw [show (1 : Int) = 17 - ((16 : Nat) : Int) from rfl, h k hk]
  simp only [Option.bind_some]
  generalize tread 16 (L s) = r
  obtain ⟨n, e⟩ := r
  simp only
  by_cases e0 : e = 0
  · subst e0
    by_cases h2 : 16384 < n
    · have h3 : (n : Int) > 16384 := by omega
      simp [h2, h3]
    · have h3 : ¬ (n : Int) > 16384 := by omega
      simp [h2, h3]
  · have h3 : ¬ (e : Int) = 0 := by omega
    simp [e0, h3]
theorem Check_f (s : ByteArray) (hs : s.size ≤ 4611686018427387904) : ∃ K, ∀ k, K ≤ k → chirographref06_Check.f k s = some ((tcheck (L s)) : Int) := by
  obtain ⟨K, h⟩ := Read_f s hs
  refine ⟨K, fun k hk => ?_⟩
  unfold chirographref06_Check.f tcheck
  rw [h k hk, L_len]
  simp only [Option.bind_some]
  generalize tRead (L s) = r
  obtain ⟨n, e⟩ := r
  simp only
  by_cases e0 : e = 0
  · subst e0
    by_cases h2 : n = s.size
    · simp [h2]
    · have h3 : ¬ (n : Int) = s.size := by omega
      simp [h2, h3]
  · have h3 : ¬ (e : Int) = 0 := by omega
    simp [e0, h3]
theorem may31 (s : ByteArray) (w : World) (hs : s.size ≤ 4611686018427387904) : Calls Try.prog 31 #[.string s] w fun e w' => e = .returned (.bool (tcheck (L s) == 0)) ∧ Below w.heap.size w w' := by
  obtain ⟨K, h⟩ := Check_f s hs
  refine chirographref06_May.calls K s _ w ?_
  unfold chirographref06_May.f
  rw [h K (Nat.le_refl _)]
  simp only [Option.bind_some]
  congr 1
  rw [Bool.eq_iff_iff]; simp
end Go.Proofs.Ytppgbahiolhgbaa
end
section
set_option linter.unusedVariables false
set_option linter.unusedSimpArgs false
namespace Go.Proofs.Ytppgbahiolhgbaa
open Go.RowKit Go.Proofs.YtppgbahiolhgbaaW.PrintWords Sp
def thrown (n : Int) : List PanicEntry := [{ v := .iface 113 (.agg #[.int .i64 n]), recovered := false }]
theorem must_ok (w : World) : Calls Try.prog 59 #[.int .i64 0] w fun e w' => e = .returned (.tuple #[]) ∧ w = w' := by
  go_enter Try.func59, Try.ntmps59
  go_wp2
  go_end0
  exact ⟨rfl, rfl⟩
theorem must_no (n : Int) (w : World) (hn : (n != 0) = true) : Calls Try.prog 59 #[.int .i64 n] w fun e w' => e = .panicked (thrown n) ∧ w = w' := by
  go_enter Try.func59, Try.ntmps59
  go_wp2
  exact ⟨rfl, rfl, rfl⟩
def endF (r : Nat × Nat × Nat) : Ending := if r.2.2 = 0 then .returned (.tuple #[.int .i64 (r.1 : Int), .int .i64 (r.2.1 : Int)]) else .panicked (thrown (r.2.2 : Int))
theorem endF_bad (n p e : Nat) (h : e ≠ 0) : endF (n, p, e) = .panicked (thrown (e : Int)) := if_neg h
theorem endF_ok (n p : Nat) : endF (n, p, 0) = .returned (.tuple #[.int .i64 (n : Int), .int .i64 (p : Int)]) := rfl
def FrontIs (s : ByteArray) (w : World) : Prop := Calls Try.prog 68 #[.string s] w fun e w' => e = endF (headT (L s)) ∧ Below w.heap.size w w'
theorem front_empty (s : ByteArray) (w : World) (h : L s = []) : FrontIs s w := by
  have c1 : (s.toList == ([] : List UInt8)) = true := by rw [toL, h]; rfl
  have F : endF (headT (L s)) = .panicked (thrown 6) := by rw [h]; rfl
  have F' := Lib.hid F
  clear F h
  unfold FrontIs
  go_enter Try.func68, Try.ntmps68
  go_wp2_with (go_at_call 59; refine (must_no _ _ (by decide)).mono ?_; rintro e1 w1 ⟨rfl, rfl⟩)
  exact ⟨rfl, by rw [F'.out], Below.refl _ _⟩
structure Frn (s : ByteArray) (n : Int) (t : Bytes) : Prop where
  c1 : (s.toList == ([] : List UInt8)) = false
  p1 : (0 < s.size) = True
  p2 : (0 < (s.size : Int)) = True
  hx : ∀ h : 0 < s.size, ((s[0]'h).toNat : Int) = n
  q1 : (1 ≤ s.size) = True
  q2 : (1 ≤ (s.size : Int)) = True
  hb : 0 ≤ n ∧ n ≤ 255
  ht : L (s.extract 1 s.size) = t
  hz : (s.extract 1 s.size).size ≤ s.size
theorem frn {s : ByteArray} {c : UInt8} {t : Bytes} (h : L s = c :: t) : Frn s (c.toNat : Int) t := by
  obtain ⟨c1, hsz, hb0⟩ := at0 h
  have hu := u8_lt c
  have ht : L (s.extract 1 s.size) = t := by rw [L_ext, h, hsz]; simp
  exact ⟨c1, eq_true (by omega), eq_true (by omega), fun h => by rw [← hb0]; exact bt_at s 0 h, eq_true (by omega), eq_true (by omega), by omega, ht, by rw [← L_len, ht]; omega⟩
theorem eqs (n m : Int) (h : n ≠ m) : (n == m) = false := by simpa using h
set_option maxHeartbeats 4000000 in
theorem front_d (s : ByteArray) (c : UInt8) (t : Bytes) (w : World) (hs : s.size ≤ 4611686018427387904) (h : L s = c :: t) (hc : c.toNat = 100) : FrontIs s w := by
  obtain ⟨c1, p1, p2, hx, q1, q2, hb, ht, hz⟩ := frn h
  rw [hc] at hx
  have F : endF (headT (L s)) = if (rdText t 1024).2.2 ≠ 0 then .panicked (thrown ((rdText t 1024).2.2 : Int)) else .returned (.tuple #[.int .i64 (1 + ((rdText t 1024).2.1 : Int)), .int .i64 0]) := by
    rw [h, headT_cons, if_pos hc]
    by_cases e : (rdText t 1024).2.2 = 0
    · rw [if_neg (fun h => h e), if_neg (fun h => h e), endF_ok]; rfl
    · rw [if_pos e, if_pos e, endF_bad _ _ _ e]
  have hk := fun e => rdText_len (l := t) (m := 1024) e
  have hl : t.length + 1 = s.size := by rw [← L_len, h]; rfl
  have hT := fun w => rt70 (s.extract 1 s.size) 1024 w (by omega) (by omega) (by omega)
  rw [ht] at hT
  generalize hr : rdText t 1024 = r at *
  have hT' : ∀ w, Calls Try.prog 70 #[.string (s.extract 1 s.size), .int .i64 1024] w fun e w' => e = .returned (rtV r) ∧ w = w' := fun w => by rw [← hr]; exact hT w
  obtain ⟨u, n, e⟩ := r
  have F' := Lib.hid (And.intro F (And.intro hT' hk))
  clear F hT hT' hr hc hb ht hz h hk
  by_cases he : e = 0
  · subst he
    have hn : (n : Int) ≤ s.size := by have := (F'.out.2.2 rfl).2.2; simp only at this; omega
    unfold FrontIs
    go_enter Try.func68, Try.ntmps68
    go_wp2_with (first | (go_at_call 70; refine (F'.out.2.1 _).mono ?_; rintro e1 w1 ⟨rfl, rfl⟩; unfold rtV) | (go_at_call 59; refine (must_ok _).mono ?_; rintro e1 w1 ⟨rfl, rfl⟩))
    go_ret2
    exact ⟨by rw [F'.out.1, if_neg (fun h => h rfl)]; rfl, Below.refl _ _⟩
  · have hen : ((e : Int) != 0) = true := by simpa using he
    unfold FrontIs
    go_enter Try.func68, Try.ntmps68
    go_wp2_with (first | (go_at_call 70; refine (F'.out.2.1 _).mono ?_; rintro e1 w1 ⟨rfl, rfl⟩; unfold rtV) | (go_at_call 59; refine (must_no _ _ hen).mono ?_; rintro e1 w1 ⟨rfl, rfl⟩))
    exact ⟨rfl, by rw [F'.out.1, if_pos he], Below.refl _ _⟩
set_option maxHeartbeats 4000000 in
theorem front_a (s : ByteArray) (c : UInt8) (t : Bytes) (w : World) (hs : s.size ≤ 4611686018427387904) (h : L s = c :: t) (hc : c.toNat = 97) : FrontIs s w := by
  obtain ⟨c1, p1, p2, hx, q1, q2, hb, ht, hz⟩ := frn h
  rw [hc] at hx
  have F : endF (headT (L s)) = if (rdText t 32).2.2 ≠ 0 then .panicked (thrown ((rdText t 32).2.2 : Int)) else if namedB (rdText t 32).1 = true then .returned (.tuple #[.int .i64 (1 + ((rdText t 32).2.1 : Int)), .int .i64 0]) else .panicked (thrown 7) := by
    rw [h, headT_cons, if_neg (by omega), if_pos hc]
    by_cases e : (rdText t 32).2.2 = 0
    · have e' : ¬ (rdText t 32).2.2 ≠ 0 := fun h => h e
      rw [if_neg e', if_neg e']
      by_cases hn : namedB (rdText t 32).1 = true
      · rw [if_pos hn, if_pos hn, endF_ok]; rfl
      · rw [if_neg hn, if_neg hn, endF_bad _ _ _ (by omega)]; rfl
    · rw [if_pos e, if_pos e, endF_bad _ _ _ e]
  have hk := fun e => rdText_len (l := t) (m := 32) e
  have hl : t.length + 1 = s.size := by rw [← L_len, h]; rfl
  have hT := fun w => rt70 (s.extract 1 s.size) 32 w (by omega) (by omega) (by omega)
  rw [ht, show (32 : Int).toNat = 32 from rfl] at hT
  generalize hr : rdText t 32 = r at *
  have hT' : ∀ w, Calls Try.prog 70 #[.string (s.extract 1 s.size), .int .i64 32] w fun e w' => e = .returned (rtV r) ∧ w = w' := hT
  obtain ⟨u, n, e⟩ := r
  have hN : ∀ w, Calls Try.prog 71 #[.string (mk u)] w fun e w' => e = .returned (.bool (namedB u)) ∧ Below w.heap.size w w' := fun w => by have := named71 (mk u) w; rwa [L_mk] at this
  have F' := Lib.hid (And.intro F (And.intro hT' (And.intro hk hN)))
  clear F hT hT' hr hc hb ht hz h hk hN
  by_cases he : e = 0
  · subst he
    have hn : (n : Int) ≤ s.size := by have := (F'.out.2.2.1 rfl).2.2; simp only at this; omega
    by_cases hnm : namedB u = true
    · have NM := Lib.hid hnm
      clear hnm
      unfold FrontIs
      go_enter Try.func68, Try.ntmps68
      go_wp2_with (first | (go_at_call 70; refine (F'.out.2.1 _).mono ?_; rintro e1 w1 ⟨rfl, rfl⟩; unfold rtV) | (go_at_call 59; refine (must_ok _).mono ?_; rintro e1 w1 ⟨rfl, rfl⟩) | (go_at_call 71; refine (F'.out.2.2.2 _).mono ?_; rintro e1 w1 ⟨rfl, hb1⟩; rw [NM.out]))
      go_ret2
      exact ⟨by rw [F'.out.1, if_neg (fun h => h rfl), if_pos NM.out]; rfl, hb1⟩
    · have hnm' : namedB u = false := by simpa using hnm
      have NM := Lib.hid hnm'
      clear hnm hnm'
      unfold FrontIs
      go_enter Try.func68, Try.ntmps68
      go_wp2_with (first | (go_at_call 70; refine (F'.out.2.1 _).mono ?_; rintro e1 w1 ⟨rfl, rfl⟩; unfold rtV) | (go_at_call_of 59 (Value.int IntKind.i64 7); refine (must_no _ _ (by decide)).mono ?_; rintro e1 w1 ⟨rfl, rfl⟩) | (go_at_call 59; refine (must_ok _).mono ?_; rintro e1 w1 ⟨rfl, rfl⟩) | (go_at_call 71; refine (F'.out.2.2.2 _).mono ?_; rintro e1 w1 ⟨rfl, hb1⟩; rw [NM.out]))
      exact ⟨rfl, by rw [F'.out.1, if_neg (fun h => h rfl), if_neg (by rw [NM.out]; exact Bool.false_ne_true)], hb1⟩
  · have hen : ((e : Int) != 0) = true := by simpa using he
    unfold FrontIs
    go_enter Try.func68, Try.ntmps68
    go_wp2_with (first | (go_at_call 70; refine (F'.out.2.1 _).mono ?_; rintro e1 w1 ⟨rfl, rfl⟩; unfold rtV) | (go_at_call 59; refine (must_no _ _ hen).mono ?_; rintro e1 w1 ⟨rfl, rfl⟩))
    exact ⟨rfl, by rw [F'.out.1, if_pos he], Below.refl _ _⟩
set_option maxHeartbeats 4000000 in
theorem front_r (s : ByteArray) (c : UInt8) (t : Bytes) (w : World) (hs : s.size ≤ 4611686018427387904) (h : L s = c :: t) (hc : c.toNat = 114) : FrontIs s w := by
  obtain ⟨c1, p1, p2, hx, q1, q2, hb, ht, hz⟩ := frn h
  rw [hc] at hx
  have F : endF (headT (L s)) = if (rdNum t).2.2 ≠ 0 then .panicked (thrown ((rdNum t).2.2 : Int)) else if 32 < (rdNum t).1 then .panicked (thrown 5) else .returned (.tuple #[.int .i64 (1 + ((rdNum t).2.1 : Int)), .int .i64 ((rdNum t).1 : Int)]) := by
    rw [h, headT_cons, if_neg (by omega), if_neg (by omega), if_pos hc]
    by_cases e : (rdNum t).2.2 = 0
    · have e' : ¬ (rdNum t).2.2 ≠ 0 := fun h => h e
      rw [if_neg e', if_neg e']
      by_cases hn : 32 < (rdNum t).1
      · rw [if_pos hn, if_pos hn, endF_bad _ _ _ (by omega)]; rfl
      · rw [if_neg hn, if_neg hn, endF_ok]; rfl
    · rw [if_pos e, if_pos e, endF_bad _ _ _ e]
  have hk : (rdNum t).2.2 = 0 → _ := fun e => rdNum_ok (pair3 e)
  have hl : t.length + 1 = s.size := by rw [← L_len, h]; rfl
  have hT := fun w => rn72 (s.extract 1 s.size) w
  rw [ht] at hT
  generalize hr : rdNum t = r at *
  obtain ⟨v, n, e⟩ := r
  have F' := Lib.hid (And.intro F (And.intro hT hk))
  clear F hT hr hc hb ht hz h hk
  by_cases he : e = 0
  · subst he
    have hn : (n : Int) ≤ s.size := by have := (F'.out.2.2 rfl).1; simp only at this; omega
    by_cases hv : 32 < v
    · unfold FrontIs
      go_enter Try.func68, Try.ntmps68
      go_wp2_with (first | (go_at_call 72; refine (F'.out.2.1 _).mono ?_; rintro e1 w1 ⟨rfl, rfl⟩; unfold rnV) | (go_at_call_of 59 (Value.int IntKind.i64 5); refine (must_no _ _ (by decide)).mono ?_; rintro e1 w1 ⟨rfl, rfl⟩) | (go_at_call 59; refine (must_ok _).mono ?_; rintro e1 w1 ⟨rfl, rfl⟩))
      exact ⟨rfl, by rw [F'.out.1, if_neg (fun h => h rfl), if_pos hv], Below.refl _ _⟩
    · unfold FrontIs
      go_enter Try.func68, Try.ntmps68
      go_wp2_with (first | (go_at_call 72; refine (F'.out.2.1 _).mono ?_; rintro e1 w1 ⟨rfl, rfl⟩; unfold rnV) | (go_at_call 59; refine (must_ok _).mono ?_; rintro e1 w1 ⟨rfl, rfl⟩))
      go_ret2
      exact ⟨by rw [F'.out.1, if_neg (fun h => h rfl), if_neg (by omega)]; rfl, Below.refl _ _⟩
  · have hen : ((e : Int) != 0) = true := by simpa using he
    unfold FrontIs
    go_enter Try.func68, Try.ntmps68
    go_wp2_with (first | (go_at_call 72; refine (F'.out.2.1 _).mono ?_; rintro e1 w1 ⟨rfl, rfl⟩; unfold rnV) | (go_at_call 59; refine (must_no _ _ hen).mono ?_; rintro e1 w1 ⟨rfl, rfl⟩))
    exact ⟨rfl, by rw [F'.out.1, if_pos he], Below.refl _ _⟩
set_option maxHeartbeats 4000000 in
theorem front_one (s : ByteArray) (c : UInt8) (t : Bytes) (w : World) (h : L s = c :: t) (hc : c.toNat = 104 ∨ c.toNat = 109 ∨ c.toNat = 115) : FrontIs s w := by
  obtain ⟨c1, p1, p2, hx, q1, q2, hb, ht, hz⟩ := frn h
  have F : headT (L s) = if c.toNat = 104 then (1, 1, 0) else if c.toNat = 109 then (1, 2, 0) else (1, 3, 0) := by
    rw [h, headT_cons, if_neg (by omega), if_neg (by omega), if_neg (by omega)]
    by_cases h1 : c.toNat = 104
    · rw [if_pos h1, if_pos h1]
    · rw [if_neg h1, if_neg h1]
      by_cases h2 : c.toNat = 109
      · rw [if_pos h2, if_pos h2]
      · rw [if_neg h2, if_neg h2, if_pos (by omega)]
  have F' := Lib.hid F
  clear F h ht hz hb
  unfold FrontIs
  rcases hc with hc | hc | hc
  all_goals
    rw [hc] at hx F'
    clear hc
    go_enter Try.func68, Try.ntmps68
    go_wp2
    go_ret2
    exact ⟨by rw [F'.out]; rfl, Below.refl _ _⟩
set_option maxHeartbeats 4000000 in
theorem front_no (s : ByteArray) (c : UInt8) (t : Bytes) (w : World) (h : L s = c :: t) (d1 : c.toNat ≠ 100) (d2 : c.toNat ≠ 97) (d3 : c.toNat ≠ 114) (d4 : c.toNat ≠ 104) (d5 : c.toNat ≠ 109) (d6 : c.toNat ≠ 115) : FrontIs s w := by
  obtain ⟨c1, p1, p2, hx, q1, q2, hb, ht, hz⟩ := frn h
  have F : headT (L s) = (0, 0, 7) := by
    rw [h, headT_cons, if_neg d1, if_neg d2, if_neg d3, if_neg d4, if_neg d5, if_neg d6]
  have F' := Lib.hid F
  have e1 := eqs (c.toNat : Int) 100 (by omega)
  have e2 := eqs (c.toNat : Int) 97 (by omega)
  have e3 := eqs (c.toNat : Int) 114 (by omega)
  have e4 := eqs (c.toNat : Int) 104 (by omega)
  have e5 := eqs (c.toNat : Int) 109 (by omega)
  have e6 := eqs (c.toNat : Int) 115 (by omega)
  clear F h ht hz hb d1 d2 d3 d4 d5 d6
  generalize (c.toNat : Int) = n at *
  unfold FrontIs
  go_enter Try.func68, Try.ntmps68
  go_wp2_with (go_at_call 59; refine (must_no _ _ (by decide)).mono ?_; rintro e1 w1 ⟨rfl, rfl⟩)
  exact ⟨rfl, by rw [F'.out]; rfl, Below.refl _ _⟩
theorem front68 (s : ByteArray) (w : World) (hs : s.size ≤ 4611686018427387904) : Calls Try.prog 68 #[.string s] w fun e w' => e = endF (headT (L s)) ∧ Below w.heap.size w w' := by
  cases h : L s with
  | nil => rw [← h]; exact front_empty s w h
  | cons c t =>
    rw [← h]
    by_cases d1 : c.toNat = 100
    · exact front_d s c t w hs h d1
    by_cases d2 : c.toNat = 97
    · exact front_a s c t w hs h d2
    by_cases d3 : c.toNat = 114
    · exact front_r s c t w hs h d3
    by_cases d4 : c.toNat = 104 ∨ c.toNat = 109 ∨ c.toNat = 115
    · exact front_one s c t w h d4
    exact front_no s c t w h d1 d2 d3 (fun e => d4 (.inl e)) (fun e => d4 (.inr (.inl e))) (fun e => d4 (.inr (.inr e)))
end Go.Proofs.Ytppgbahiolhgbaa
end
section
set_option linter.unusedVariables false
set_option linter.unusedSimpArgs false
namespace Go.Proofs.Ytppgbahiolhgbaa
open Go.RowKit Go.Proofs.YtppgbahiolhgbaaW.PrintWords Sp
def endW (at_ : Nat) (r : Nat × Nat) : Ending := if r.2 = 0 then .returned (.int .i64 ((at_ + r.1 : Nat) : Int)) else .panicked (thrown (r.2 : Int))
theorem endW_bad (a n e : Nat) (h : e ≠ 0) : endW a (n, e) = .panicked (thrown (e : Int)) := if_neg h
theorem endW_ok (a n : Nat) : endW a (n, 0) = .returned (.int .i64 ((a + n : Nat) : Int)) := rfl
theorem tell58 (a b c : Value) (w : World) : Calls Try.prog 58 #[a, b, c] w fun e w' => e = .returned (.tuple #[]) ∧ w = w' := by
  go_enter Try.func58, Try.ntmps58
  go_wp2
  go_end0
  exact ⟨rfl, rfl⟩
def WalkIs (f : Nat) : Prop := ∀ (s : ByteArray) (a : Nat) (w : World), s.size ≤ 4611686018427387904 → a ≤ s.size →
  Calls Try.prog 57 #[.string s, .int .i64 (a : Int), .int .i64 (17 - (f : Int)), .func (.func 58) #[] #[]] w fun e w' => e = endW a (tread f ((L s).drop a)) ∧ Below w.heap.size w w'
theorem walk_deep : WalkIs 0 := by
  intro s a w hs ha
  go_enter Try.func57, Try.ntmps57
  go_wp2_with (go_at_call 59; refine (must_no _ _ (by decide)).mono ?_; rintro e1 w1 ⟨rfl, rfl⟩)
  exact ⟨rfl, rfl, Below.refl _ _⟩
theorem drop_ext (s : ByteArray) (a : Nat) : L (s.extract a s.size) = (L s).drop a := by
  rw [L_ext, List.take_of_length_le]; rw [List.length_drop, L_len]; omega
set_option maxHeartbeats 4000000 in
theorem walk_step (f : Nat) (hf : f < 16) (ih : WalkIs f) : WalkIs (f + 1) := by
  intro s a w hs ha
  have hF := fun w => front68 (s.extract a s.size) w (by rw [← L_len, drop_ext, List.length_drop, L_len]; omega)
  rw [drop_ext] at hF
  have hk := headT_ok ((L s).drop a)
  rw [List.length_drop, L_len] at hk
  have hr := tread_succ f ((L s).drop a)
  generalize headT ((L s).drop a) = r at *
  obtain ⟨n, parts, e⟩ := r
  simp only at hk hr
  have d1 : 17 - ((f + 1 : Nat) : Int) = 16 - (f : Int) := by omega
  rw [d1]
  have d0 : (0 : Int) ≤ f := by omega
  have d2 : (f : Int) ≤ 15 := by omega
  have F' := Lib.hid (And.intro hF (And.intro hk (And.intro hr ih)))
  clear hF hk hr ih d1 hf
  by_cases he : e = 0
  · subst he
    obtain ⟨k1, k2, k3⟩ := F'.out.2.1 rfl
    go_enter Try.func57, Try.ntmps57
    go_wp2_with (go_at_call 68; refine (F'.out.1 _).mono ?_; rintro e1 w1 ⟨rfl, hb1⟩; rw [endF_ok])
    go_loopw [11, 26] (fun x i wr => ∃ m j : Nat, i = .int .i64 (j : Int) ∧ x = .int .i64 ((a : Int) + (m : Int)) ∧ j ≤ parts ∧ a + m ≤ s.size ∧ Hid (tread (f + 1) ((L s).drop a) = tparts (tread f) (parts - j) m ((L s).drop a)) ∧ Below w.heap.size w wr) (fun _ i _ => parts - (intOf i).toNat)
    case atStart => exact ⟨n, 0, rfl, rfl, by omega, by omega, by show _ = _; rw [F'.out.2.2.1, if_neg (fun h => h rfl)]; rfl, hb1⟩
    case round =>
      obtain ⟨m, j, rfl, rfl, hj, hm, hq, hbe⟩ := hrel
      by_cases hlt : j < parts
      · have hI := F'.out.2.2.2 s (a + m)
        have hq2 := hq.out
        have hx : (L s).drop (a + m) = ((L s).drop a).drop m := by rw [List.drop_drop]
        have hle := tread_le f ((L s).drop (a + m))
        rw [show parts - j = parts - (j + 1) + 1 from by omega, tparts_succ, ← hx] at hq2
        generalize tread f ((L s).drop (a + m)) = q at *
        obtain ⟨r, e⟩ := q
        simp only at hq2 hle
        rw [List.length_drop, L_len] at hle
        by_cases he : e = 0
        · subst he
          have hle := hle rfl
          have Q := Lib.hid (And.intro hI hq2)
          clear hI hq2 hx
          go_wp2_with (go_at_call 57; rw [show 16 - (f : Int) + 1 = 17 - (f : Int) from by omega, show (a : Int) + (m : Int) = ((a + m : Nat) : Int) from by omega]; refine (Q.out.1 _ hs hm).mono ?_; rintro e1 w2 ⟨rfl, hb2⟩; rw [endW_ok])
          go_roundw
          case rel => exact ⟨m + r, j + 1, by go_num, congrArg (Value.int .i64) (by omega), by omega, by omega, by show _ = _; rw [Q.out.2, if_neg (fun h => h rfl)], hbe.trans (hb2.mono hbe.size)⟩
          case measure => simp [intOf]; omega
        · have Q := Lib.hid (And.intro hI hq2)
          clear hI hq2 hx hle
          go_wp2_with (go_at_call 57; rw [show 16 - (f : Int) + 1 = 17 - (f : Int) from by omega, show (a : Int) + (m : Int) = ((a + m : Nat) : Int) from by omega]; refine (Q.out.1 _ hs hm).mono ?_; rintro e1 w2 ⟨rfl, hb2⟩; rw [endW_bad _ _ _ he])
          exact ⟨rfl, by rw [Q.out.2, if_pos he, endW_bad _ _ _ he], hbe.trans (hb2.mono hbe.size)⟩
      · obtain rfl : j = parts := by omega
        go_wp2_with (go_at_call 58; refine (tell58 _ _ _ _).mono ?_; rintro e1 w2 ⟨rfl, rfl⟩)
        go_ret
        exact ⟨by rw [hq.out, show j - j = 0 from by omega, tparts_zero, endW_ok]; rfl, hbe⟩
  · go_enter Try.func57, Try.ntmps57
    go_wp2_with (go_at_call 68; refine (F'.out.1 _).mono ?_; rintro e1 w1 ⟨rfl, hb1⟩; rw [endF_bad _ _ _ he])
    exact ⟨rfl, by rw [F'.out.2.2.1, if_pos he, endW_bad _ _ _ he], hb1⟩
theorem walk_any : ∀ f, f ≤ 16 → WalkIs f := by
  intro f
  induction f with
  | zero => intro _; exact walk_deep
  | succ f ih => intro h; exact walk_step f (by omega) (ih (by omega))
end Go.Proofs.Ytppgbahiolhgbaa
end
section
set_option linter.unusedVariables false
set_option linter.unusedSimpArgs false
namespace Go.Proofs.Ytppgbahiolhgbaa
open Go.RowKit Go.Proofs.YtppgbahiolhgbaaW.PrintWords Sp
theorem caught56 (n : Int) (w : World) : Calls Try.prog 56 #[.iface 113 (.agg #[.int .i64 n])] w fun e w' => e = .returned (.int .i64 n) ∧ Below w.heap.size w w' := by
  have hta : ∀ W : World, (Instr.typeAssert (.iface 113 (.agg #[.int .i64 n])) 20 113 true).run Try.prog W = .ok (.tuple #[.agg #[.int .i64 n], .bool true]) W := fun _ => by kernel_rfl
  go_enter Try.func56, Try.ntmps56
  go_wp2
  go_ret
  exact ⟨rfl, below_alloc (Below.refl _ _) _⟩
theorem catch55 (p q : Addr) (n : Int) (x y : Value) (older : List PanicEntry) (w : World) (hp : w.cell? p = some x) (hq : w.cell? q = some y) (fp : w.frozen? p = false) (fq : w.frozen? q = false) (hne : p.block ≠ q.block) :
    CallsD Try.prog 55 #[.pointer (some p), .pointer (some q)] (.panicking ({ v := .iface 113 (.agg #[.int .i64 n]), recovered := false } :: older)) w fun e u' w' =>
      e = .returned (.tuple #[]) ∧ u' = .panicking ({ v := .iface 113 (.agg #[.int .i64 n]), recovered := true } :: older) ∧ w'.cell? p = some (.int .i64 0) ∧ w'.cell? q = some (.int .i64 n) ∧ (∀ B, B ≤ p.block → B ≤ q.block → B ≤ w.heap.size → Below B w w') := by
  have hpq : p ≠ q := fun h => hne (by rw [h])
  refine callsD_of_wpS Try.func55 rfl fun c₀ cs hu => ?_
  apply wpS_seq
  apply wpS_region
  simp [wpOpsS, go_sem, recoverD, hu, Try.ntmps55, Exit.thenS]
  refine wpS_of_wp ?_
  have hnq : ∀ W : World, (binOp .neq 20 (.iface 113 (.agg #[.int .i64 n])) .nilIface).run Try.prog W = .ok (.bool true) W := fun _ => by kernel_rfl
  have hlp := World.block_lt_of_cell? w p hp
  have hlq := World.block_lt_of_cell? w q hq
  go_wp2_with (go_at_call 56; refine (caught56 _ _).mono ?_; rintro e1 w1 ⟨rfl, hb1⟩; have k1 := (hb1.cell hlp).trans hp; have k2 := (hb1.cell hlq).trans hq; have k3 := (hb1.frozen hlp).trans fp; have k4 := (hb1.frozen hlq).trans fq; have k5 : (w1.setCell p (.int .i64 0)).cell? q = some y := (World.cell?_setCell_other _ _ _ _ hpq).trans k2)
  have m1 : ((w1.setCell p (.int .i64 0)).setCell q (.int .i64 n)).cell? p = some (.int .i64 0) := (World.cell?_setCell_other _ _ _ _ (Ne.symm hpq)).trans (World.cell?_setCell_same _ _ _ k1)
  have m2 : ((w1.setCell p (.int .i64 0)).setCell q (.int .i64 n)).cell? q = some (.int .i64 n) := World.cell?_setCell_same _ _ _ k5
  simp [bodyPostS, results, Try.results55]
  refine ⟨m1, m2, fun B h1 h2 h3 => ?_⟩
  exact ((hb1.mono h3).setCell h1 _).setCell h2 _
theorem idle55 (p q : Addr) (w : World) : CallsD Try.prog 55 #[.pointer (some p), .pointer (some q)] .returning w fun e u' w' => e = .returned (.tuple #[]) ∧ u' = .returning ∧ w' = w := by
  refine callsD_of_wpS Try.func55 rfl fun c₀ cs hu => ?_
  apply wpS_seq
  apply wpS_region
  simp [wpOpsS, go_sem, recoverD, hu, Try.ntmps55, Exit.thenS]
  have hnq : ∀ W : World, (binOp .neq 20 .nilIface .nilIface).run Try.prog W = .ok (.bool false) W := fun _ => by kernel_rfl
  refine wpS_of_wp ?_
  go_wp2
  cases c₀
  simp_all [bodyPostS, results, Try.results55]
structure Two (w w1 : World) : Prop where
  g1 : w1.cell? ⟨w.heap.size, 0, none⟩ = some (.int .i64 0)
  g2 : w1.cell? ⟨w.heap.size + 1, 0, none⟩ = some (.int .i64 0)
  f1 : w1.frozen? ⟨w.heap.size, 0, none⟩ = false
  f2 : w1.frozen? ⟨w.heap.size + 1, 0, none⟩ = false
  hb : Below w.heap.size w w1
theorem two {w w1 : World} {t u : TypeId} (h : Below ((w.alloc (.cells #[.int .i64 0] t)).alloc (.cells #[.int .i64 0] u)).heap.size ((w.alloc (.cells #[.int .i64 0] t)).alloc (.cells #[.int .i64 0] u)) w1) : Two w w1 :=
  ⟨(h.cell (by simp; omega)).trans (by simp [go_sem]), (h.cell (by simp)).trans (by simp [go_sem]), (h.frozen (by simp; omega)).trans (by simp [go_sem]), (h.frozen (by simp)).trans (by simp [go_sem]),
    (below_alloc (below_alloc (Below.refl _ _) _) _).trans (h.mono (by simp; omega))⟩
def rdV (r : Nat × Nat) : Value := .tuple #[.int .i64 (r.1 : Int), .int .i64 (r.2 : Int)]
set_option maxHeartbeats 2000000 in
theorem read40 (s : ByteArray) (w : World) (hs : s.size ≤ 4611686018427387904) : Calls Try.prog 40 #[.string s] w fun e w' => e = .returned (rdV (tRead (L s))) ∧ Below w.heap.size w w' := by
  have hmf : ∀ (fn : Fn) (first cap : Array Value) (w : World), (Instr.makeFunc fn first cap).run Try.prog w = .ok (.func fn first cap) w := fun _ _ _ _ => rfl
  have hW := fun w => walk_any 16 (Nat.le_refl _) s 0 w hs (Nat.zero_le _)
  rw [List.drop_zero] at hW
  have hR : tRead (L s) = if (tread 16 (L s)).2 ≠ 0 then (0, (tread 16 (L s)).2) else if 16384 < (tread 16 (L s)).1 then (0, 5) else ((tread 16 (L s)).1, 0) := rfl
  have hle := tread_le 16 (L s)
  rw [L_len] at hle
  generalize tread 16 (L s) = r at *
  obtain ⟨n, e⟩ := r
  simp only at hR hle
  by_cases he : e = 0
  · subst he
    have hle := hle rfl
    have F := Lib.hid (And.intro hW hR)
    clear hW hR
    by_cases hn : 16384 < n
    · go_enter_defers Try.func40, Try.ntmps40
      go_wp2_with (first | (go_at_call 57; refine (F.out.1 _).mono ?_; rintro e1 w1 ⟨rfl, hb1⟩; rw [endW_ok]; obtain ⟨g1, g2, f1, f2, hb⟩ := two hb1) | (go_at_call 59; refine (must_no _ _ (by decide)).mono ?_; rintro e1 w2 ⟨rfl, rfl⟩))
      refine leaves_cons (f := 55) (args := #[.pointer (some ⟨w.heap.size, 0, none⟩), .pointer (some ⟨w.heap.size + 1, 0, none⟩)]) (by simp) (by simp [go_sem]) ?_
      refine (catch55 ⟨w.heap.size, 0, none⟩ ⟨w.heap.size + 1, 0, none⟩ 5 _ _ [] _ (World.cell?_setCell_same _ _ _ g1) ((World.cell?_setCell_other _ _ _ _ (by simp)).trans g2) (by rw [World.frozen?_setCell]; exact f1) (by rw [World.frozen?_setCell]; exact f2) (by simp)).mono ?_
      rintro e u' w'' ⟨rfl, rfl, c1, c2, cb⟩
      have cb' := cb w.heap.size (by simp) (by simp) (by have := hb.size; simpa using this)
      simp [Leaves, settle, results, Try.results40, go_sem, c1, c2]
      exact ⟨by rw [F.out.2, if_neg (fun h => h rfl), if_pos hn]; rfl, (hb.setCell (by simp) _).trans cb'⟩
    · go_enter_defers Try.func40, Try.ntmps40
      go_wp2_with (first | (go_at_call 57; refine (F.out.1 _).mono ?_; rintro e1 w1 ⟨rfl, hb1⟩; rw [endW_ok]; obtain ⟨g1, g2, f1, f2, hb⟩ := two hb1) | (go_at_call 59; refine (must_no _ _ (by decide)).mono ?_; rintro e1 w2 ⟨rfl, rfl⟩))
      refine leaves_cons (f := 55) (args := #[.pointer (some ⟨w.heap.size, 0, none⟩), .pointer (some ⟨w.heap.size + 1, 0, none⟩)]) (by simp) (by simp [go_sem]) ?_
      refine (idle55 ⟨w.heap.size, 0, none⟩ ⟨w.heap.size + 1, 0, none⟩ _).mono ?_
      rintro e u' w'' ⟨rfl, rfl, rfl⟩
      have d1 := World.cell?_setCell_same _ _ (.int .i64 (n : Int)) g1
      have d2 := World.cell?_setCell_same _ _ (.int .i64 (n : Int)) d1
      have ne1 : (⟨w.heap.size, 0, none⟩ : Addr) ≠ ⟨w.heap.size + 1, 0, none⟩ := by simp
      have d3 := (World.cell?_setCell_other ((w1.setCell ⟨w.heap.size, 0, none⟩ (.int .i64 (n : Int))).setCell ⟨w.heap.size, 0, none⟩ (.int .i64 (n : Int))) ⟨w.heap.size + 1, 0, none⟩ ⟨w.heap.size, 0, none⟩ (.int .i64 0) ne1.symm).trans d2
      have d4 := World.cell?_setCell_same ((w1.setCell ⟨w.heap.size, 0, none⟩ (.int .i64 (n : Int))).setCell ⟨w.heap.size, 0, none⟩ (.int .i64 (n : Int))) ⟨w.heap.size + 1, 0, none⟩ (.int .i64 0) (((World.cell?_setCell_other _ _ _ _ ne1).trans (World.cell?_setCell_other _ _ _ _ ne1)).trans g2)
      simp [Leaves, settle, results, Try.results40, go_sem, d3, d4]
      exact ⟨by rw [F.out.2, if_neg (fun h => h rfl), if_neg hn]; rfl, ((hb.setCell (by simp) _).setCell (by simp) _).setCell (by simp) _⟩
  · have F := Lib.hid (And.intro hW hR)
    clear hW hR hle
    go_enter_defers Try.func40, Try.ntmps40
    go_wp2_with (go_at_call 57; refine (F.out.1 _).mono ?_; rintro e1 w1 ⟨rfl, hb1⟩; rw [endW_bad _ _ _ he]; obtain ⟨g1, g2, f1, f2, hb⟩ := two hb1)
    refine leaves_cons (f := 55) (args := #[.pointer (some ⟨w.heap.size, 0, none⟩), .pointer (some ⟨w.heap.size + 1, 0, none⟩)]) (by simp) (by simp [go_sem]) ?_
    refine (catch55 ⟨w.heap.size, 0, none⟩ ⟨w.heap.size + 1, 0, none⟩ e _ _ [] _ g1 g2 f1 f2 (by simp)).mono ?_
    rintro e u' w'' ⟨rfl, rfl, c1, c2, cb⟩
    have cb' := cb w.heap.size (by simp) (by simp) hb.size
    simp [Leaves, settle, results, Try.results40, go_sem, c1, c2]
    exact ⟨by rw [F.out.2, if_pos he]; rfl, hb.trans cb'⟩
set_option maxHeartbeats 1000000 in
theorem check26 (s : ByteArray) (w : World) (hs : s.size ≤ 4611686018427387904) : Calls Try.prog 26 #[.string s] w fun e w' => e = .returned (.int .i64 ((tcheck (L s) : Nat) : Int)) ∧ Below w.heap.size w w' := by
  have hR := fun w => read40 s w hs
  have hC : tcheck (L s) = if (tRead (L s)).2 ≠ 0 then (tRead (L s)).2 else if (tRead (L s)).1 ≠ s.size then 7 else 0 := by unfold tcheck; rw [L_len]
  generalize tRead (L s) = r at *
  obtain ⟨n, e⟩ := r
  simp only at hC
  have F := Lib.hid (And.intro hR hC)
  clear hR hC
  by_cases he : e = 0
  · subst he
    by_cases hn : n = s.size
    · have c1 : ((n : Int) != (s.size : Int)) = false := by simp [hn]
      have N := Lib.hid hn
      clear hn
      go_enter Try.func26, Try.ntmps26
      go_wp2_with (go_at_call 40; refine (F.out.1 _).mono ?_; rintro e1 w1 ⟨rfl, hb1⟩; unfold rdV)
      go_ret
      exact ⟨by rw [F.out.2, if_neg (fun h => h rfl), if_neg (fun h => h N.out)]; rfl, hb1⟩
    · have c1 : ((n : Int) != (s.size : Int)) = true := by rw [bne_iff_ne]; omega
      have N := Lib.hid hn
      clear hn
      go_enter Try.func26, Try.ntmps26
      go_wp2_with (go_at_call 40; refine (F.out.1 _).mono ?_; rintro e1 w1 ⟨rfl, hb1⟩; unfold rdV)
      go_ret
      exact ⟨by rw [F.out.2, if_neg (fun h => h rfl), if_pos N.out]; rfl, hb1⟩
  · have c0 : ((e : Int) == 0) = false := by simpa using he
    have N := Lib.hid he
    clear he
    go_enter Try.func26, Try.ntmps26
    go_wp2_with (go_at_call 40; refine (F.out.1 _).mono ?_; rintro e1 w1 ⟨rfl, hb1⟩; unfold rdV)
    go_ret
    exact ⟨by rw [F.out.2, if_pos N.out]; rfl, hb1⟩
end Go.Proofs.Ytppgbahiolhgbaa
end
