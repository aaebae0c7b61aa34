/- Plain facts: no program's step in sight. -/
import Derived.Test.YtjmnbikaijphlaaRows3
import Derived.Test.YtjmnbikaijphlaaStk
set_option linter.unusedVariables false
set_option linter.unusedSimpArgs false
namespace Go.Proofs.Ytjmnbikaijphlaa.X
open Go.RowKit Go.Proofs.YtjmnbikaijphlaaW.PrintWords Go.Proofs.YtjmnbikaijphlaaW.PrintLast Go.Proofs.YtjmnbikaijphlaaW.PrintMore
/-- the pieces of the stock from o on: its rags, and those of the first n uses -/
def sumF (f : Nat → Int) (o : Nat) : Nat → Int
  | 0 => f (o + 24)
  | n + 1 => sumF f o n + (f (o + n) + f (o + (8 + n)) + f (o + (16 + n)))
def fineF (f : Nat → Int) (o : Nat) : Nat → Bool
  | 0 => decide (0 ≤ f (o + 24))
  | n + 1 => fineF f o n && decide (0 ≤ f (o + n)) && decide (0 ≤ f (o + (8 + n))) && decide (0 ≤ f (o + (16 + n)))
def goodB (f : Nat → Int) (o : Nat) : Bool := fineF f o 8 && decide (sumF f o 8 ≤ 500)
theorem sumF_tot (f : Nat → Int) (o : Nat) : sumF f o 8 = tot f o := by
  simp only [sumF, tot, Nat.reduceAdd, Nat.add_zero]
  omega
set_option maxHeartbeats 1000000 in
theorem goodB_iff (f : Nat → Int) (o : Nat) : goodB f o = true ↔ Good f o := by
  unfold goodB
  rw [Bool.and_eq_true, decide_eq_true_eq, sumF_tot]
  constructor
  · rintro ⟨h1, h2⟩
    simp only [fineF, Nat.reduceAdd, Nat.add_zero, Bool.and_eq_true, decide_eq_true_eq] at h1
    refine ⟨fun j hj => ?_, h2⟩
    have : j = 0 ∨ j = 1 ∨ j = 2 ∨ j = 3 ∨ j = 4 ∨ j = 5 ∨ j = 6 ∨ j = 7 ∨ j = 8 ∨ j = 9 ∨ j = 10 ∨ j = 11 ∨ j = 12 ∨ j = 13 ∨ j = 14 ∨ j = 15 ∨ j = 16 ∨ j = 17 ∨ j = 18 ∨ j = 19 ∨ j = 20 ∨ j = 21 ∨ j = 22 ∨ j = 23 ∨ j = 24 := by omega
    rcases this with rfl | rfl | rfl | rfl | rfl | rfl | rfl | rfl | rfl | rfl | rfl | rfl | rfl | rfl | rfl | rfl | rfl | rfl | rfl | rfl | rfl | rfl | rfl | rfl | rfl <;> (try simp only [Nat.add_zero]) <;> simp only [h1]
  · intro h
    refine ⟨?_, h.2⟩
    have := h.1
    simp only [fineF, Nat.reduceAdd, Bool.and_eq_true, decide_eq_true_eq]
    exact ⟨⟨⟨⟨⟨⟨⟨⟨⟨⟨⟨⟨⟨⟨⟨⟨⟨⟨⟨⟨⟨⟨⟨⟨h.1 24 (by decide), h.1 0 (by decide)⟩, h.1 8 (by decide)⟩, h.1 16 (by decide)⟩, h.1 1 (by decide)⟩, h.1 9 (by decide)⟩, h.1 17 (by decide)⟩, h.1 2 (by decide)⟩, h.1 10 (by decide)⟩, h.1 18 (by decide)⟩, h.1 3 (by decide)⟩, h.1 11 (by decide)⟩, h.1 19 (by decide)⟩, h.1 4 (by decide)⟩, h.1 12 (by decide)⟩, h.1 20 (by decide)⟩, h.1 5 (by decide)⟩, h.1 13 (by decide)⟩, h.1 21 (by decide)⟩, h.1 6 (by decide)⟩, h.1 14 (by decide)⟩, h.1 22 (by decide)⟩, h.1 7 (by decide)⟩, h.1 15 (by decide)⟩, h.1 23 (by decide)⟩
/-- the numbers of the stock from o on are such as there can be -/
def Rng1 (f : Nat → Int) (o : Nat) : Prop := (∀ j, j < 24 → -32768 ≤ f (o + j) ∧ f (o + j) ≤ 32767) ∧ -2147483648 ≤ f (o + 24) ∧ f (o + 24) ≤ 2147483647
theorem Rng.one {f : Nat → Int} {n q : Nat} (h : Rng f n) (hq : q < n) : Rng1 f (25 * q) :=
  ⟨fun j hj => (h (25 * q + j) (by omega)).1 (kd_num hj), (h (25 * q + 24) (by omega)).2 (kd_rag q)⟩
theorem sumF_range {f : Nat → Int} {o : Nat} (h : Rng1 f o) : ∀ n : Nat, n ≤ 8 → -2147483648 - 98304 * (n : Int) ≤ sumF f o n ∧ sumF f o n ≤ 2147483647 + 98304 * (n : Int)
  | 0, _ => by have := h.2; simp only [sumF]; omega
  | n + 1, hn => by
    have := sumF_range h n (by omega)
    have := h.1 n (by omega)
    have := h.1 (8 + n) (by omega)
    have := h.1 (16 + n) (by omega)
    simp only [sumF]
    omega
theorem rng_stkR {f : Nat → Int} {o : Nat} (h : Rng1 f o) : stkR (kOf f o) (f (o + 24)) := by
  refine ⟨fun j => ?_, h.2⟩
  rcases Nat.lt_or_ge j 24 with hj | hj
  · rw [kOf_get f o hj]; exact h.1 j hj
  · rw [List.getD_eq_getElem?_getD, List.getElem?_eq_none (by rw [kOf_len]; exact hj)]; simp
theorem sumP_sumF (f : Nat → Int) (o : Nat) : ∀ n, n ≤ 8 → sumP (kOf f o) (f (o + 24)) n = sumF f o n
  | 0, _ => rfl
  | n + 1, hn => by
    simp only [sumP, sumF]
    rw [sumP_sumF f o n (by omega), kOf_get f o (by omega), kOf_get f o (by omega), kOf_get f o (by omega)]
theorem fineP_fineF (f : Nat → Int) (o : Nat) : ∀ n, n ≤ 8 → fineP (kOf f o) (f (o + 24)) n = fineF f o n
  | 0, _ => rfl
  | n + 1, hn => by
    simp only [fineP, fineF]
    rw [fineP_fineF f o n (by omega), kOf_get f o (by omega), kOf_get f o (by omega), kOf_get f o (by omega)]
theorem stkOk_goodB (f : Nat → Int) (o : Nat) : stkOk (kOf f o) (f (o + 24)) = goodB f o := by
  unfold stkOk goodB
  rw [fineP_fineF f o 8 (by omega), sumP_sumF f o 8 (by omega)]
/-- all of the first n stocks are good -/
def goodsB (f : Nat → Int) (n : Nat) : Bool := (List.range n).all fun q => goodB f (25 * q)
theorem goodsB_iff (f : Nat → Int) (n : Nat) : goodsB f n = true ↔ Fine f n := by
  unfold goodsB Fine
  rw [List.all_eq_true]
  constructor
  · intro h q hq; exact (goodB_iff _ _).1 (h q (List.mem_range.2 hq))
  · intro h q hq; exact (goodB_iff _ _).2 (h q (List.mem_range.1 hq))
/-- a house that there can be -/
def houseB (f : Nat → Int) (n : Nat) (tub every today : Int) : Bool := goodsB f n && (decide (1 ≤ n ∧ n ≤ 4) && decide (0 ≤ tub ∧ tub ≤ 1000) && decide (1 ≤ every ∧ every ≤ 7) && decide (0 ≤ today ∧ today ≤ 60))
/-- the first k are good -/
theorem goodsB_succ (f : Nat → Int) (k : Nat) : goodsB f (k + 1) = (goodsB f k && goodB f (25 * k)) := by
  unfold goodsB; rw [List.range_succ, List.all_append]; simp
theorem goodsB_false {f : Nat → Int} {k n : Nat} (h : goodB f (25 * k) = false) (hk : k < n) : goodsB f n = false := by
  rw [Bool.eq_false_iff]
  intro h2
  have := (goodsB_iff f n).1 h2 k hk
  rw [(goodB_iff _ _).2 this] at h; cases h

theorem Arg.alloc {w : World} {n : Nat} {f : Nat → Int} {A : Option Addr} (h : Arg w n f A) (o : Obj) : Arg (w.alloc o) n f A := h.below (below_alloc (Below.refl _ _) o)
theorem Arg.drew {w : World} {n : Nat} {f : Nat → Int} {A : Option Addr} (h : Arg w n f A) : Arg w.drew n f A := h
theorem Arg.drewN {w : World} {n : Nat} {f : Nat → Int} {A : Option Addr} (h : Arg w n f A) (k : Nat) : Arg (w.drewN k) n f A := h
theorem Arg.of_rw {w : World} {g n : Nat} {f : Nat → Int} (h : Rw w g n f) : Arg w n f (some ⟨g, 0, none⟩) := fun _ => ⟨g, 0, rfl, fun i hi => by rw [Nat.zero_add]; exact h.cell hi⟩
theorem Arg.nil {w : World} {f : Nat → Int} {A : Option Addr} : Arg w 0 f A := fun h => absurd h (by omega)

end Go.Proofs.Ytjmnbikaijphlaa.X
