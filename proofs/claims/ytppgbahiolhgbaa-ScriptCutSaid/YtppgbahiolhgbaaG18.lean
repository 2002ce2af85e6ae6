import Derived.Test.YtppgbahiolhgbaaG14
import Derived.Test.YtppgbahiolhgbaaG15
section
/- A script that is cut: the plain law of ScriptCut. -/
set_option linter.unusedVariables false
set_option linter.unusedSimpArgs false
namespace Go.Proofs.Ytppgbahiolhgbaa
open Go.RowKit Go.Proofs.YtppgbahiolhgbaaW.PrintWords Sp
open PScriptReads

/-- How many bytes the first k acts take. -/
def atB (l : List S37) (k : Nat) : Nat := ((l.take k).flatMap oneB).length
theorem atB_succ {l : List S37} {k : Nat} (hk : k < l.length) : atB l (k + 1) = atB l k + (oneB l[k]).length := by
  unfold atB
  rw [List.take_succ_eq_append_getElem hk, List.flatMap_append, List.length_append]
  simp
theorem atB_all (l : List S37) : atB l l.length = (l.flatMap oneB).length := by unfold atB; rw [List.take_length]
theorem cut_law {l : List S37} (hall : l.all mayAct = true) {k K : Nat} (hk : k ≤ l.length) (h1 : atB l k ≤ K) (h2 : k = l.length → K ≤ (l.flatMap oneB).length) (h3 : ∀ h : k < l.length, K < atB l k + (oneB l[k]).length) :
    ∃ r, frontP ((l.flatMap oneB).take K) = (l.take k, r) ∧ r.length = K - atB l k ∧ ((l.flatMap oneB).take K).length = K := by
  have hsplit : l.flatMap oneB = (l.take k).flatMap oneB ++ (l.drop k).flatMap oneB := by rw [← List.flatMap_append, List.take_append_drop]
  have hat : ((l.take k).flatMap oneB).length = atB l k := rfl
  have hm : (l.take k).all mayAct = true := by
    rw [List.all_eq_true] at hall ⊢
    exact fun x hx => hall x (List.mem_of_mem_take hx)
  have htake : (l.flatMap oneB).take K = (l.take k).flatMap oneB ++ ((l.drop k).flatMap oneB).take (K - atB l k) := by
    rw [hsplit, List.take_append, List.take_of_length_le (by omega), hat]
  rw [htake, frontP_flat _ _ hm]
  by_cases hlt : k < l.length
  · have h3 := h3 hlt
    have hd : l.drop k = l[k] :: l.drop (k + 1) := List.drop_eq_getElem_cons hlt
    have hr : ((l.drop k).flatMap oneB).take (K - atB l k) = (oneB l[k]).take (K - atB l k) := by
      rw [hd, List.flatMap_cons, List.take_append_of_le_length (by omega)]
    have hmk : mayAct l[k] = true := List.all_eq_true.mp hall _ (List.getElem_mem hlt)
    have hno : rdOK ((oneB l[k]).take (K - atB l k)) = none := rdOK_front hmk (List.take_append_drop (K - atB l k) _).symm (by
      intro h
      have := congrArg List.length h
      rw [List.length_drop, List.length_nil] at this
      omega)
    rw [hr, frontP_none hno]
    refine ⟨_, by rw [List.append_nil], by rw [List.length_take]; omega, by rw [List.length_append, List.length_take, hat]; omega⟩
  · obtain rfl : k = l.length := by omega
    have h2 := h2 rfl
    have e := atB_all l
    rw [List.drop_length]
    refine ⟨[], by simp [frontP_empty], by simp; omega, by simp; rw [← List.length_flatMap]; omega⟩
end Go.Proofs.Ytppgbahiolhgbaa
end
section
/- The walk of the law ScriptCut. -/
set_option linter.unusedVariables false
set_option linter.unusedSimpArgs false
namespace Go.Proofs.Ytppgbahiolhgbaa
open Go.RowKit Go.Proofs.YtppgbahiolhgbaaW.PrintWords Sp
open PScriptReads

/-- What the walk leans on. -/
structure CEnv (w : World) (A : Option Addr) (c : Nat) (l : List S37) (x : ByteArray) : Prop where
  r : k37.C w A l.length l
  q : l.length ≤ c
  L1 : ∀ W, Below w.heap.size w W → Calls Try.prog 7 #[.slice A l.length c] W fun e w' => e = .returned (.bool false) ∧ Below W.heap.size W w'
  O : ∀ W, Below w.heap.size w W → Calls Try.prog 9 #[.slice A l.length c] W (OwnPost W l)
  E : ∀ W A c, AC W A l.length l → Calls Try.prog 10 #[.slice A l.length c] W (EncR W x 0)
  hx : x = mk (l.flatMap oneB)
  hall : l.all mayAct = true
  hs : Short l

/-- What the walk leans on behind the loop. -/
structure REnv (w : World) (A : Option Addr) (c : Nat) (l : List S37) (y : ByteArray) (k : Nat) (at_ e : Int) : Prop where
  F : ∀ W, Calls Try.prog 15 #[.string y] W (DecR W (l.take k) at_)
  D : ∀ W, ∃ l', Calls Try.prog 17 #[.string y] W (DecR W l' e)
  S : ∀ W A' c', k37.C W A' k (l.take k) → k ≤ c' → Below w.heap.size w W → Calls Try.prog 12 #[.slice A' k c', .slice A k c] W fun e w' => e = .returned (.bool true) ∧ Below W.heap.size W w'
theorem renv {w : World} {A : Option Addr} {c : Nat} {l : List S37} {x : ByteArray} (H : CEnv w A c l x) (zx : x.size ≤ 65536) {k K : Nat} (hk : k ≤ l.length) (h1 : atB l k ≤ K) (hKx : K ≤ x.size) (h3 : ∀ h : k < l.length, K < atB l k + (oneB l[k]).length) :
    REnv w A c l (x.extract 0 K) k ((atB l k : Nat) : Int) (if atB l k = K then 0 else 7) := by
  have hL : L (x.extract 0 K) = (l.flatMap oneB).take K := by rw [L_ext, H.hx, L_mk, List.drop_zero, Nat.sub_zero]
  have hxl : x.size = (l.flatMap oneB).length := by rw [H.hx, size_mk]
  obtain ⟨r, hf, hr, hlen⟩ := cut_law H.hall hk h1 (fun _ => by omega) h3
  have hz : (x.extract 0 K).size = K := by rw [← L_len, hL, hlen]
  have hte : (l.take k).length = k := by rw [List.length_take]; omega
  have hsk : Short (l.take k) := ⟨by rw [hte]; have := H.hs.h1; omega, fun y hy => H.hs.h2 y (List.mem_of_mem_take hy)⟩
  refine ⟨fun W => ?_, fun W => ?_, fun W A' c' hA hc' hW => ?_⟩
  · refine (frontF (x.extract 0 K) W (by omega)).mono ?_
    rintro e w' ⟨v, rfl, hR, hB⟩
    rw [hL, hf] at hR ⊢
    have hat : (K : Int) - (r.length : Int) = ((atB l k : Nat) : Int) := by omega
    exact ⟨v, by rw [hlen]; simp only; rw [hat], hR, hB⟩
  · have hd : (decP (L (x.extract 0 K))).2 = if atB l k = K then 0 else 7 := by
      rw [hL]
      unfold decP
      rw [if_neg (by omega), hf]
      by_cases h : atB l k = K
      · rw [if_pos h, if_neg (by simp only; omega)]
      · rw [if_neg h, if_pos (by simp only; omega)]
    refine ⟨(decP (L (x.extract 0 K))).1, (decode17 (x.extract 0 K) W (by omega)).mono ?_⟩
    rintro e w' ⟨v, rfl, hR, hB⟩
    rw [hd]
    exact ⟨v, rfl, hR, hB⟩
  · obtain ⟨kk, hkk⟩ := same_refl (l.take k) (by rw [hte]; have := H.hs.h1; omega) hsk.own
    have := chirographref32_Same.calls kk A' c' (l.take k) A c (l.take k) true W (by rw [hte]; exact hA) (by rw [hte]; exact hc') (Kd.C_below (Kd.C_take H.r hk) hW) (by rw [hte]; have := H.q; omega) hkk
    rw [hte] at this
    exact this

set_option maxRecDepth 100000 in
set_option maxHeartbeats 8000000 in
theorem cut_main {w : World} {A : Option Addr} {c : Nat} {l : List S37} {x : ByteArray} (H0 : CEnv w A c l x) (zx : x.size ≤ 65536) (n : Int) (hn : 0 ≤ n ∧ n ≤ 65535) :
    Calls Try.prog 6 #[.slice A l.length c, .int .u16 n] w (BackPost w) := by
  have hl60 := H0.hs.h1
  have hqc := H0.q
  have H := Aid.hide H0
  clear H0
  have hW : Below w.heap.size w w := Below.refl _ _
  obtain ⟨K, hK⟩ : ∃ K : Nat, (K : Int) = n % ((x.size : Int) + 1) := ⟨(n % ((x.size : Int) + 1)).toNat, Int.toNat_of_nonneg (Int.emod_nonneg _ (by omega))⟩
  have hKx : K ≤ x.size := by have := Int.emod_lt_of_pos n (show (0 : Int) < (x.size : Int) + 1 by omega); omega
  go_enter Try.func6, Try.ntmps6
  go_wp2_with (first
    | (go_at_call 7; (with_reducible refine ((Aid.unhide H).L1 _ hW).mono ?_); rintro e1 w1 ⟨rfl, hb1⟩; replace hW := below_bt hW hb1; clear hb1)
    | (go_at_call 9; (with_reducible refine ((Aid.unhide H).O _ hW).mono ?_); rintro e1 wa ⟨va, rfl, hRa, hBa⟩; obtain ⟨A3, c3, rfl, hca, haca⟩ := AC_of_R hRa; replace hW := below_bt hW hBa; clear hBa hRa)
    | (go_at_call 10; (with_reducible refine ((Aid.unhide H).E _ A3 c3 haca).mono ?_); rintro e1 w1 ⟨rfl, hb1⟩; replace hW := below_bt hW hb1; clear hb1 haca))
  rw [← hK]
  have hKK := Aid.hide hK
  clear hK
  have hWw := hW
  go_loopw [8, 9] (fun f a wr => ∃ k : Nat, f = .int .i64 (k : Int) ∧ a = .int .i64 ((atB l k : Nat) : Int) ∧ k ≤ l.length ∧ atB l k ≤ K ∧ Below w.heap.size w wr) (fun f _ _ => l.length - (intOf f).toNat)
  case atStart => exact ⟨0, rfl, by rw [show atB l 0 = 0 by simp [atB]]; rfl, by omega, by rw [show atB l 0 = 0 by simp [atB]]; omega, hW⟩
  case round =>
    clear hW hWw
    obtain ⟨k, rfl, rfl, hk, hat, hW⟩ := hrel
    by_cases hlt : k < l.length
    · obtain ⟨ad, rfl⟩ : ∃ ad, A = some ad := by
        obtain ⟨ad, h, _⟩ := (Aid.unhide H).r.2.2 (by omega)
        exact ⟨ad, h⟩
      have hE := (Aid.unhide H)
      have hxl : x.size = (l.flatMap oneB).length := by rw [hE.hx, size_mk]
      have hle := flat_take_le l (k + 1)
      have hs1 := atB_succ hlt
      have hmy : mayAct l[k] = true := List.all_eq_true.mp hE.hall _ (List.getElem_mem hlt)
      have hcut : (l.take (k + 1)).drop k = [l[k]] := by rw [List.take_succ_eq_append_getElem hlt, List.drop_append_of_le_length (by rw [List.length_take]; omega), List.drop_of_length_le (by rw [List.length_take]; omega)]; rfl
      have hmid := Kd.C_mid (lo := k) (hi := k + 1) hE.r (by omega) (by omega) hqc
      rw [if_neg (by omega), hcut] at hmid
      have hy2 := hE.hs.h2 _ (List.getElem_mem hlt)
      have hrenv : K < atB l k + (oneB l[k]).length → _ := fun h3 => renv hE zx (Nat.le_of_lt hlt) hat hKx (fun _ => h3)
      have hp1 : 1 ≤ (oneB l[k]).length := by rw [one_parts hmy, List.length_append]; simp
      have hgo : atB l (k + 1) ≤ K ∨ K < atB l (k + 1) := by omega
      rw [hs1] at hgo
      have hfl : atB l (k + 1) ≤ 65536 := by unfold atB; omega
      rw [hs1] at hfl
      generalize l[k] = y at *
      have O1 : ∀ W, Below w.heap.size w W → Calls Try.prog 9 #[.slice (some (ad.add (k * 10))) 1 (c - k)] W (OwnPost W [y]) := fun W hW =>
        own9 (some (ad.add (k * 10))) (c - k) [y] W (Kd.C_below hmid hW) (by show 1 ≤ c - k; omega) (by simp) (fun z hz => by obtain rfl : z = y := (by simpa using hz); obtain ⟨a, b, c, d⟩ := hy2; exact ⟨by omega, by omega, fun y hy => by have := d y hy; omega⟩)
      obtain ⟨u, hu⟩ : ∃ u, u = mk (oneB y) := ⟨_, rfl⟩
      have zu : u.size = (oneB y).length := by rw [hu, size_mk]
      have E1 : ∀ W A c, AC W A 1 [y] → Calls Try.prog 10 #[.slice A 1 c] W (EncR W u 0) := fun W A c hA => by
        have h1 : encV [y] = (oneB y, 0) := by
          unfold encV
          rw [if_pos (by simp [hmy]), show [y].flatMap oneB = oneB y by simp, if_neg (by omega)]
        have := encode10 A c [y] W hA (small_of_may (by simp [hmy]) (by simp))
        rw [h1, ← hu] at this
        exact this
      have hone : [y].length = 1 := rfl
      have hte : (l.take k).length = k := by rw [List.length_take]; omega
      have cne : (u.toList == ([] : List UInt8)) = false := by
        rw [toL, beq_eq_false_iff_ne]
        intro h
        have := congrArg List.length h
        rw [L_len, List.length_nil] at this
        omega
      have cne2 : u.toList.isEmpty = false := by
        rw [← Bool.not_eq_true]
        intro h
        rw [List.isEmpty_iff] at h
        rw [h] at cne
        simp at cne
      rw [← zu] at hs1 hfl hgo
      clear hmid hE hle hmy hy2 hcut hp1 hu hxl
      rcases hgo with hgo | hgo
      · clear hrenv
        have HS := Aid.hide hs1
        clear hs1
        go_wp2_with (first
          | (go_at_call 9; (with_reducible refine (O1 _ hW).mono ?_); rintro e1 wa ⟨va, rfl, hRa, hBa⟩; obtain ⟨A4, c4, rfl, hca4, hac4⟩ := AC_of_R hRa; rw [hone]; replace hW := below_bt hW hBa; clear hBa hRa)
          | (go_at_call 10; (with_reducible refine (E1 _ A4 c4 hac4).mono ?_); rintro e1 w1 ⟨rfl, hb1⟩; replace hW := below_bt hW hb1; clear hb1 hac4))
        go_roundw
        case rel => exact ⟨k + 1, by go_num, by rw [Aid.unhide HS]; go_num, by omega, by rw [Aid.unhide HS]; exact hgo, hW⟩
        case measure => simp [intOf]; omega
      · have HR := Aid.hide (hrenv (by rw [← zu]; exact hgo))
        clear hrenv hs1
        obtain ⟨bq, hbq⟩ : ∃ b, b = (((atB l k : Nat) : Int) == ((K : Nat) : Int)) := ⟨_, rfl⟩
        by_cases hq : atB l k = K
        all_goals
          first | (rw [if_pos hq] at HR; have hbb : (((atB l k : Nat) : Int) == ((K : Nat) : Int)) = true := by rw [hq]; exact beq_self_eq_true _) | (rw [if_neg hq] at HR; have hbb : (((atB l k : Nat) : Int) == ((K : Nat) : Int)) = false := by rw [beq_eq_false_iff_ne]; omega)
          clear hbq
          go_wp2_with (first
            | (go_at_call 9; (with_reducible refine (O1 _ hW).mono ?_); rintro e1 wa ⟨va, rfl, hRa, hBa⟩; obtain ⟨A4, c4, rfl, hca4, hac4⟩ := AC_of_R hRa; rw [hone]; replace hW := below_bt hW hBa; clear hBa hRa)
            | (go_at_call 10; (with_reducible refine (E1 _ A4 c4 hac4).mono ?_); rintro e1 w1 ⟨rfl, hb1⟩; replace hW := below_bt hW hb1; clear hb1 hac4)
            | (go_at_call 15; (with_reducible refine ((Aid.unhide HR).F _).mono ?_); rintro e1 w1 ⟨v6, rfl, hR6, hb1⟩; obtain ⟨A6, c6, rfl, hc6, hac6⟩ := AC_of_R hR6; rw [hte]; replace hW := below_bt hW hb1; clear hb1 hR6)
            | (go_at_call 17; obtain ⟨l', hD⟩ := (Aid.unhide HR).D _; (with_reducible refine hD.mono ?_); rintro e1 w1 ⟨v7, rfl, hR7, hb1⟩; have hac7 := hac6.C; rw [hte] at hac7; replace hac7 := Kd.C_below hac7 hb1; replace hW := below_bt hW hb1; clear hb1 hR7 hD)
            | (go_at_call 12; (with_reducible refine ((Aid.unhide HR).S _ A6 c6 hac7 (by rw [← hte]; exact hc6) hW).mono ?_); rintro e1 w1 ⟨rfl, hb1⟩; replace hW := below_bt hW hb1; clear hb1)
            | (go_at_call 8; refine (alive8 _).mono ?_; rintro e1 w1 ⟨rfl, hb1⟩; replace hW := below_bt hW hb1; clear hb1))
          go_ret
          exact ⟨rfl, hW⟩
    · have hkl : k = l.length := by omega
      have hte : (l.take k).length = k := by rw [List.length_take]; omega
      have HR := Aid.hide (renv (Aid.unhide H) zx hk hat hKx (fun h => absurd h hlt))
      clear hkl
      by_cases hq : atB l k = K
      all_goals
        first | (rw [if_pos hq] at HR; have hbb : (((atB l k : Nat) : Int) == ((K : Nat) : Int)) = true := by rw [hq]; exact beq_self_eq_true _) | (rw [if_neg hq] at HR; have hbb : (((atB l k : Nat) : Int) == ((K : Nat) : Int)) = false := by rw [beq_eq_false_iff_ne]; omega)
        go_wp2_with (first
          | (go_at_call 15; (with_reducible refine ((Aid.unhide HR).F _).mono ?_); rintro e1 w1 ⟨v6, rfl, hR6, hb1⟩; obtain ⟨A6, c6, rfl, hc6, hac6⟩ := AC_of_R hR6; rw [hte]; replace hW := below_bt hW hb1; clear hb1 hR6)
          | (go_at_call 17; obtain ⟨l', hD⟩ := (Aid.unhide HR).D _; (with_reducible refine hD.mono ?_); rintro e1 w1 ⟨v7, rfl, hR7, hb1⟩; have hac7 := hac6.C; rw [hte] at hac7; replace hac7 := Kd.C_below hac7 hb1; replace hW := below_bt hW hb1; clear hb1 hR7 hD)
          | (go_at_call 12; (with_reducible refine ((Aid.unhide HR).S _ A6 c6 hac7 (by rw [← hte]; exact hc6) hW).mono ?_); rintro e1 w1 ⟨rfl, hb1⟩; replace hW := below_bt hW hb1; clear hb1)
          | (go_at_call 8; refine (alive8 _).mono ?_; rintro e1 w1 ⟨rfl, hb1⟩; replace hW := below_bt hW hb1; clear hb1))
        go_ret
        exact ⟨rfl, hW⟩
end Go.Proofs.Ytppgbahiolhgbaa
end
section
/- ScriptCut, whole. -/
set_option linter.unusedVariables false
set_option linter.unusedSimpArgs false
namespace Go.Proofs.Ytppgbahiolhgbaa
open Go.RowKit Go.Proofs.YtppgbahiolhgbaaW.PrintWords Sp
open PScriptReads

set_option maxRecDepth 100000 in
set_option maxHeartbeats 8000000 in
theorem cut6 (A : Option Addr) (c : Nat) (l : List S37) (n : Int) (w : World) (hr : k37.C w A l.length l) (hc : l.length ≤ c) (hn : 0 ≤ n ∧ n ≤ 65535) :
    Calls Try.prog 6 #[.slice A l.length c, .int .u16 n] w (BackPost w) := by
  obtain ⟨r1, hS1, hL1⟩ := long7 A c l hc
  have L1 := fun W (hW : Below w.heap.size w W) => hL1 W (Kd.C_below hr hW)
  clear hL1
  have hW : Below w.heap.size w w := Below.refl _ _
  cases r1 with
  | true =>
    have H := Aid.hide L1
    clear L1 hr hS1
    go_enter Try.func6, Try.ntmps6
    go_wp2_with (first
      | (go_at_call 7; (with_reducible refine (Aid.unhide H _ hW).mono ?_); rintro e1 w1 ⟨rfl, hb1⟩; replace hW := below_bt hW hb1; clear hb1)
      | (go_at_call 8; refine (alive8 _).mono ?_; rintro e1 w1 ⟨rfl, hb1⟩; replace hW := below_bt hW hb1; clear hb1))
    go_ret
    exact ⟨rfl, hW⟩
  | false =>
    have s1 := hS1 rfl
    have hO : ∀ W, Below w.heap.size w W → Calls Try.prog 9 #[.slice A l.length c] W (OwnPost W l) := fun W hW => own9 A c l W (Kd.C_below hr hW) hc (by have := s1.h1; omega) s1.own
    have hE : ∀ W A c, AC W A l.length l → Calls Try.prog 10 #[.slice A l.length c] W (EncR W (mk (encV l).1) (encV l).2) := fun W A c hA => encode10 A c l W hA s1.small
    rcases encV_cases l with ⟨e1, p1⟩ | ⟨e1, p1, z1⟩ | ⟨e1, p1, z1⟩
    · rw [e1] at hE
      have H := Aid.hide (And.intro L1 (And.intro hO hE))
      clear L1 hr hS1 hO hE s1
      go_enter Try.func6, Try.ntmps6
      go_wp2_with (first
        | (go_at_call 7; (with_reducible refine ((Aid.unhide H).1 _ hW).mono ?_); rintro e1 w1 ⟨rfl, hb1⟩; replace hW := below_bt hW hb1; clear hb1)
        | (go_at_call 9; (with_reducible refine ((Aid.unhide H).2.1 _ hW).mono ?_); rintro e1 wa ⟨va, rfl, hRa, hBa⟩; obtain ⟨A3, c3, rfl, hca, haca⟩ := AC_of_R hRa; replace hW := below_bt hW hBa; clear hBa hRa)
        | (go_at_call 10; (with_reducible refine ((Aid.unhide H).2.2 _ A3 c3 haca).mono ?_); rintro e1 w1 ⟨rfl, hb1⟩; replace hW := below_bt hW hb1; clear hb1 haca)
        | (go_at_call 8; refine (alive8 _).mono ?_; rintro e1 w1 ⟨rfl, hb1⟩; replace hW := below_bt hW hb1; clear hb1))
      go_ret
      exact ⟨rfl, hW⟩
    · rw [e1] at hE
      have H := Aid.hide (And.intro L1 (And.intro hO hE))
      clear L1 hr hS1 hO hE s1
      go_enter Try.func6, Try.ntmps6
      go_wp2_with (first
        | (go_at_call 7; (with_reducible refine ((Aid.unhide H).1 _ hW).mono ?_); rintro e1 w1 ⟨rfl, hb1⟩; replace hW := below_bt hW hb1; clear hb1)
        | (go_at_call 9; (with_reducible refine ((Aid.unhide H).2.1 _ hW).mono ?_); rintro e1 wa ⟨va, rfl, hRa, hBa⟩; obtain ⟨A3, c3, rfl, hca, haca⟩ := AC_of_R hRa; replace hW := below_bt hW hBa; clear hBa hRa)
        | (go_at_call 10; (with_reducible refine ((Aid.unhide H).2.2 _ A3 c3 haca).mono ?_); rintro e1 w1 ⟨rfl, hb1⟩; replace hW := below_bt hW hb1; clear hb1 haca)
        | (go_at_call 8; refine (alive8 _).mono ?_; rintro e1 w1 ⟨rfl, hb1⟩; replace hW := below_bt hW hb1; clear hb1))
      go_ret
      exact ⟨rfl, hW⟩
    · rw [e1] at hE
      exact cut_main ⟨hr, hc, L1, hO, hE, rfl, p1, s1⟩ (by rw [size_mk]; exact z1) n hn
end Go.Proofs.Ytppgbahiolhgbaa
end
