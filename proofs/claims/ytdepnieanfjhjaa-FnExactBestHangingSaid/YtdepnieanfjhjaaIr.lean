/- Contracts of functions, and plain facts: what each call answers, and what it leaves as it was. -/
import Derived.Test.YtdepnieanfjhjaaX0
import Derived.Test.YtdepnieanfjhjaaX5
import Derived.Test.YtdepnieanfjhjaaBlk
set_option linter.unusedVariables false
set_option linter.unusedSimpArgs false
namespace Go.Proofs.Ytdepnieanfjhjaa.X
open Go.RowKit Go.Proofs.YtdepnieanfjhjaaW.PrintWords Go.Proofs.YtdepnieanfjhjaaW.PrintLast Go.Proofs.YtdepnieanfjhjaaW.PrintMore
attribute [local go_sem] max2_int min2_int max_two min_two max_three min_three max_four min_four
/-- what a call leaves as it was: all blocks but those of S -/
def KpG (w W : World) (S : Nat → Prop) : Prop := Below 0 w W ∧ Kept w W S
section
variable {w W W2 : World} {S : Nat → Prop}
theorem KpG.of_below (h : Below w.heap.size w W) (S : Nat → Prop) : KpG w W S := ⟨h.mono (Nat.zero_le _), Kept.of_below h S⟩
theorem KpG.of_grown {row : Option Nat} (hg : W.grownBy W2 row) (h : KpG w W S) (hr : ∀ k, row = some k → S k ∨ w.heap.size ≤ k) : KpG w W2 S := ⟨h.1.grown hg (Nat.zero_le _) (fun k _ => Nat.zero_le _), Kept.of_grown hg h.2 hr⟩
theorem KpG.below (h : KpG w W S) (hb : Below W.heap.size W W2) : KpG w W2 S := ⟨h.1.trans (hb.mono (Nat.zero_le _)), h.2.below hb⟩
theorem KpG.alloc (h : KpG w W S) (o : Obj) : KpG w (W.alloc o) S := h.below (below_alloc (Below.refl _ _) o)
theorem KpG.drew (h : KpG w W S) : KpG w W.drew S := h.below (below_drew (Below.refl _ _))
theorem KpG.setCell (h : KpG w W S) {p : Addr} (hp : S p.block ∨ w.heap.size ≤ p.block) (u : Value) : KpG w (W.setCell p u) S := ⟨h.1.setCell (Nat.zero_le _) u, h.2.setCell hp u⟩
theorem KpG.refl (w : World) (S : Nat → Prop) : KpG w w S := KpG.of_below (Below.refl _ _) S
theorem KpG.size (h : KpG w W S) : w.heap.size ≤ W.heap.size := h.2.1
theorem KpG.trans (h : KpG w W S) (h2 : KpG W W2 S) : KpG w W2 S := ⟨h.1.trans h2.1, Nat.le_trans h.2.1 h2.2.1, fun k hk hn => (h2.2.2 k (Nat.lt_of_lt_of_le hk h.2.1) hn).trans (h.2.2 k hk hn)⟩
/-- only blocks of S that are new were written: nothing below was -/
theorem KpG.to_below {B : Nat} (h : KpG w W S) (hB : ∀ k, S k → B ≤ k) (hs : B ≤ w.heap.size) : Below B w W :=
  ⟨h.1.os, h.1.tape, h.1.output, h.1.size, fun b hb => h.2.2 b (Nat.lt_of_lt_of_le hb hs) (fun hn => by have := hB b hn; omega)⟩
theorem KpG.sub {S' : Nat → Prop} (h : KpG w W S) (hS : ∀ k, k < w.heap.size → S k → S' k) : KpG w W S' := ⟨h.1, h.2.1, fun k hk hn => h.2.2 k hk (fun hs => hn (hS k hk hs))⟩
end
theorem int64Info : (Try.prog.info? 2).map (fun i => (i.zero, i.size, i.bytes)) = some (some (.int .i64 0), 1, 8) := by kernel_rfl
theorem nums_snoc (xs : List Int) (x : Int) : nums .i64 xs ++ [.int .i64 x] = nums .i64 (xs ++ [x]) := by simp [nums]
/-- a row of int64 of one's own -/
def Ir (w : World) (base : Nat) (v : Value) (l : List Int) : Prop := w.ownsRow base 2 1 v l.length (nums .i64 l)
section
variable {w w1 : World} {base base' : Nat} {v : Value} {l : List Int} {S : Nat → Prop}
theorem Ir.lower (h : Ir w base v l) (hb : base' ≤ base) : Ir w base' v l := own_weaken h hb
theorem Ir.below (h : Ir w base v l) (hb : Below w.heap.size w w1) : Ir w1 base v l := pw_own_below h hb
theorem Ir.alloc (h : Ir w base v l) (o : Obj) : Ir (w.alloc o) base v l := h.below (below_alloc (Below.refl _ _) o)
theorem Ir.drew (h : Ir w base v l) : Ir w.drew base v l := h
theorem Ir.drewN (h : Ir w base v l) (k : Nat) : Ir (w.drewN k) base v l := h
theorem Ir.grown (h : Ir w base v l) {row : Option Nat} (hg : w.grownBy w1 row) (hne : v.ownBlock = none ∨ v.ownBlock ≠ row) : Ir w1 base v l := own_other h hg hne
theorem Ir.kept (h : Ir w base v l) (hk : Kept w w1 S) (hn : ∀ k, v.ownBlock = some k → ¬ S k) : Ir w1 base v l := own_move h (fun k hv => hk.2 k (own_lt h k hv) (hn k hv))
theorem Ir.row (h : Ir w base v l) : (Kd.int .i64).R 2 w base (fun k => v.ownBlock = some k) v l := Kd.R_of_own h (fun _ h => h)
theorem Ir.of_row {ok : Nat → Prop} (h : (Kd.int .i64).R 2 w base ok v l) : Ir w base v l := Kd.own_of_R h
theorem Ir.ne (h : Ir w base v l) {g : Nat} (hg : g < base) : v.ownBlock ≠ some g := fun he => by have := own_base h g he; omega
end
end Go.Proofs.Ytdepnieanfjhjaa.X
