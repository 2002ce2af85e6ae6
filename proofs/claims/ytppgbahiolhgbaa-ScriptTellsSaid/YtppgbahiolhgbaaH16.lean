/- Contracts and plain laws over the seat, laid together (group 16 of what the claim needs). -/
import Derived.Test.YtppgbahiolhgbaaH13
import Derived.Test.YtppgbahiolhgbaaH14
import Derived.Test.YtppgbahiolhgbaaH15
namespace Go.Proofs.Ytppgbahiolhgbaa.PScriptReads
open Go.RowKit Go.Proofs.YtppgbahiolhgbaaW.PrintWords Go.Proofs.YtppgbahiolhgbaaW.PrintLast Go.Proofs.YtppgbahiolhgbaaW.PrintMore
set_option linter.unusedVariables false
set_option linter.unusedSimpArgs false
def IsS67 (w0 W : World) (g : Nat) (f0 : ByteArray) (f1 : Bool) : Prop := W.heap[g]? = some (.cells #[.string f0, .bool f1] 67 (0, 0)) ∧ w0.heap.size ≤ g
theorem IsS67.grown {w0 W : World} {g : Nat} {f0 : ByteArray} {f1 : Bool} {W1 : World} {row : Option Nat} (h : IsS67 w0 W g f0 f1) (hw : W.grownBy W1 row) (hne : some g ≠ row) : IsS67 w0 W1 g f0 f1 := by
 obtain ⟨hb, hg⟩ := h
 exact ⟨blk_grown hb hw hne, hg⟩
theorem IsS67.below {w0 W : World} {g : Nat} {f0 : ByteArray} {f1 : Bool} {W1 : World} (h : IsS67 w0 W g f0 f1) (hw : Below W.heap.size W W1) : IsS67 w0 W1 g f0 f1 := h.grown (grown_of_below hw none) (by simp)
theorem IsS67.alloc {w0 W : World} {g : Nat} {f0 : ByteArray} {f1 : Bool} (h : IsS67 w0 W g f0 f1) (o : Obj) : IsS67 w0 (W.alloc o) g f0 f1 := h.below (below_alloc (Below.refl _ _) o)
theorem IsS67.drewN {w0 W : World} {g : Nat} {f0 : ByteArray} {f1 : Bool} (h : IsS67 w0 W g f0 f1) (m : Nat) : IsS67 w0 (W.drewN m) g f0 f1 := h
theorem IsS67.at_ {w0 W : World} {g : Nat} {f0 : ByteArray} {f1 : Bool} {w' : World} {m : Nat} (hq : W.drewN m = w') (h : IsS67 w0 W g f0 f1) : IsS67 w0 w' g f0 f1 := by subst hq; exact IsS67.drewN h m
theorem IsS67.far {w0 W : World} {g : Nat} {f0 : ByteArray} {f1 : Bool} {p : Addr} (h : IsS67 w0 W g f0 f1) (hne : g ≠ p.block) (u : Value) : IsS67 w0 (W.setCell p u) g f0 f1 := by
 obtain ⟨hb, hg⟩ := h
 exact ⟨blk_far hb hne u, hg⟩
theorem IsS67.new (w0 W : World) (f0 : ByteArray) (f1 : Bool) (hB : Below w0.heap.size w0 W) : IsS67 w0 (W.alloc (.cells #[.string f0, .bool f1] 67)) W.heap.size f0 f1 := ⟨by simpa using heap_alloc_new W _, hB.size⟩
def chirographref32_taker_num.f (k : Nat) (s0_0 : ByteArray) (s0_1 : Bool) : Option (Int × ByteArray × Bool) := (chirographref01_ReadNum.f k s0_0).bind fun bt200 => (if s0_1 = true then (if bt200.2.2 = 0 then (if bt200.1 > 2147483647 then (some (0, s0_0, false)) else (if 0 ≤ bt200.2.1 then (if bt200.2.1 ≤ (s0_0.size : Int) then (some (wrap64 (bt200.1), s0_0.extract (bt200.2.1 : Int).toNat s0_0.size, s0_1)) else (none)) else (none))) else (some (0, s0_0, false))) else (some (0, s0_0, false)))
theorem chirographref32_taker_num.mono : ∀ a0 a1 k, LeO (chirographref32_taker_num.f k a0 a1) (chirographref32_taker_num.f (k + 1) a0 a1) := by
 intro a0 a1 k
 unfold chirographref32_taker_num.f
 repeat' first
   | (with_reducible exact chirographref01_ReadNum.mono _ _)
   | (with_reducible exact LeO.refl _)
   | (with_reducible exact LeO.none _)
   | (with_reducible refine LeO.ite ?_ ?_)
   | (with_reducible refine LeO.bind ?_ (fun _ => ?_))
   | exact chirographref01_ReadNum.mono _ _
   | exact LeO.none _
   | refine LeO.ite ?_ ?_
   | refine LeO.bind ?_ (fun _ => ?_)
def chirographref32_taker_text.f (k : Nat) (s0_0 : ByteArray) (s0_1 : Bool) (a1 : Int) : Option (ByteArray × ByteArray × Bool) := (chirographref01_ReadText.f k s0_0 a1).bind fun bt203 => (if s0_1 = true then (if bt203.2.2 = 0 then (if 0 ≤ bt203.2.1 then (if bt203.2.1 ≤ (s0_0.size : Int) then (some (bt203.1, s0_0.extract (bt203.2.1 : Int).toNat s0_0.size, s0_1)) else (none)) else (none)) else (some ((⟨#[]⟩ : ByteArray), s0_0, false))) else (some ((⟨#[]⟩ : ByteArray), s0_0, false)))
theorem chirographref32_taker_text.mono : ∀ a0 a1 a2 k, LeO (chirographref32_taker_text.f k a0 a1 a2) (chirographref32_taker_text.f (k + 1) a0 a1 a2) := by
 intro a0 a1 a2 k
 unfold chirographref32_taker_text.f
 repeat' first
   | (with_reducible exact chirographref01_ReadText.mono _ _ _)
   | (with_reducible exact LeO.refl _)
   | (with_reducible exact LeO.none _)
   | (with_reducible refine LeO.ite ?_ ?_)
   | (with_reducible refine LeO.bind ?_ (fun _ => ?_))
   | exact chirographref01_ReadText.mono _ _ _
   | exact LeO.none _
   | refine LeO.ite ?_ ?_
   | refine LeO.bind ?_ (fun _ => ?_)
def chirographref32_taker_step.l0 : Nat → Int → Int → ByteArray → Bool → Int → Int → Int → Int → Int → ByteArray → List Int → Option (Int × Int × Int × Int × Int × ByteArray × List Int × ByteArray × Bool)
 | 0, _, _, _, _, _, _, _, _, _, _, _ => none
 | k + 1, x5, x6, x1000, x1001, x208000, x208001, x208002, x208003, x208004, x208005, x208006 => if x6 < x5 then (if x1001 = true then ((chirographref32_taker_num.f k x1000 x1001).bind fun bt229 => (if x208006.length < 17592186044416 then (chirographref32_taker_step.l0 k x5 (wrap64 (x6 + 1)) bt229.2.1 bt229.2.2 x208000 x208001 x208002 x208003 x208004 x208005 (x208006 ++ [bt229.1])) else (none))) else (some (x208000, x208001, x208002, x208003, x208004, x208005, x208006, x1000, x1001))) else (some (x208000, x208001, x208002, x208003, x208004, x208005, x208006, x1000, x1001))
def chirographref32_taker_step.f (k : Nat) (s0_0 : ByteArray) (s0_1 : Bool) : Option (Int × Int × Int × Int × Int × ByteArray × List Int × ByteArray × Bool) := (chirographref32_taker_num.f k s0_0 s0_1).bind fun bt208 => (if bt208.1 > 255 then (some (0, 0, 0, 0, 0, (⟨#[]⟩ : ByteArray), ([] : List Int), bt208.2.1, false)) else ((chirographref32_taker_num.f k bt208.2.1 bt208.2.2).bind fun bt211 => ((chirographref32_taker_num.f k bt211.2.1 bt211.2.2).bind fun bt214 => ((chirographref32_taker_num.f k bt214.2.1 bt214.2.2).bind fun bt217 => ((chirographref32_taker_num.f k bt217.2.1 bt217.2.2).bind fun bt220 => ((chirographref32_taker_text.f k bt220.2.1 bt220.2.2 1024).bind fun bt223 => ((chirographref32_taker_num.f k bt223.2.1 bt223.2.2).bind fun bt226 => (chirographref32_taker_step.l0 k bt226.1 0 bt226.2.1 bt226.2.2 ((bt208.1) % 256) bt211.1 bt214.1 bt217.1 bt220.1 bt223.1 ([] : List Int)))))))))
theorem chirographref32_taker_step.mono_l : ∀ k, (∀ y0 y1 y2 y3 y4 y5 y6 y7 y8 y9 y10, LeO (chirographref32_taker_step.l0 k y0 y1 y2 y3 y4 y5 y6 y7 y8 y9 y10) (chirographref32_taker_step.l0 (k + 1) y0 y1 y2 y3 y4 y5 y6 y7 y8 y9 y10))
 | 0 => fun _ _ _ _ _ _ _ _ _ _ _ r h => by simp [chirographref32_taker_step.l0] at h
 | k + 1 => by
  have ih0 := chirographref32_taker_step.mono_l k
  ·
   intro y0 y1 y2 y3 y4 y5 y6 y7 y8 y9 y10
   unfold chirographref32_taker_step.l0
   repeat' first
   | (with_reducible exact ih0 _ _ _ _ _ _ _ _ _ _ _)
   | (with_reducible exact chirographref32_taker_num.mono _ _ _)
   | (with_reducible exact chirographref32_taker_text.mono _ _ _ _)
   | (with_reducible exact LeO.refl _)
   | (with_reducible exact LeO.none _)
   | (with_reducible refine LeO.ite ?_ ?_)
   | (with_reducible refine LeO.bind ?_ (fun _ => ?_))
   | exact ih0 _ _ _ _ _ _ _ _ _ _ _
   | exact chirographref32_taker_num.mono _ _ _
   | exact chirographref32_taker_text.mono _ _ _ _
   | exact LeO.none _
   | refine LeO.ite ?_ ?_
   | refine LeO.bind ?_ (fun _ => ?_)
theorem chirographref32_taker_step.mono : ∀ a0 a1 k, LeO (chirographref32_taker_step.f k a0 a1) (chirographref32_taker_step.f (k + 1) a0 a1) := by
 intro a0 a1 k
 have ih0 := chirographref32_taker_step.mono_l k
 unfold chirographref32_taker_step.f
 repeat' first
   | (with_reducible exact ih0 _ _ _ _ _ _ _ _ _ _ _)
   | (with_reducible exact chirographref32_taker_num.mono _ _ _)
   | (with_reducible exact chirographref32_taker_text.mono _ _ _ _)
   | (with_reducible exact LeO.refl _)
   | (with_reducible exact LeO.none _)
   | (with_reducible refine LeO.ite ?_ ?_)
   | (with_reducible refine LeO.bind ?_ (fun _ => ?_))
   | exact ih0 _ _ _ _ _ _ _ _ _ _ _
   | exact chirographref32_taker_num.mono _ _ _
   | exact chirographref32_taker_text.mono _ _ _ _
   | exact LeO.none _
   | refine LeO.ite ?_ ?_
   | refine LeO.bind ?_ (fun _ => ?_)
end Go.Proofs.Ytppgbahiolhgbaa.PScriptReads
