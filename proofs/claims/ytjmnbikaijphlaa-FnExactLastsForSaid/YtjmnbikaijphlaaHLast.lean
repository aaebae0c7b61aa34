/- Contracts of functions, and plain facts: what each call answers, and what it leaves as it was. -/
import Derived.Test.YtjmnbikaijphlaaHInt
import Derived.Test.YtjmnbikaijphlaaStk
set_option linter.unusedVariables false
set_option linter.unusedSimpArgs false
namespace Go.Proofs.Ytjmnbikaijphlaa.X
open Go.RowKit Go.Proofs.YtjmnbikaijphlaaW.PrintWords Go.Proofs.YtjmnbikaijphlaaW.PrintLast Go.Proofs.YtjmnbikaijphlaaW.PrintMore
attribute [local go_sem] max2_int min2_int max_two min_two max_three min_three max_four min_four
/-- the numbers behind d days from the day 0 on -/
def lfF (f N : Nat → Int) (n : Nat) (tub every : Int) : Nat → Nat → Int
  | 0 => f
  | d + 1 => dayF (lfF f N n tub every d) N n tub every d
def posB (l : List Int) : Bool := l.any fun x => decide (0 < x)
/-- how many days go by till something is short: at most q days more from day k on -/
def lastF (f N : Nat → Int) (n : Nat) (tub every : Int) : Nat → Nat → Nat
  | 0, k => k
  | q + 1, k => if posB (shL (lfF f N n tub every k) N n) = true then k else lastF f N n tub every q (k + 1)
theorem dayF_fine {f N : Nat → Int} {n : Nat} {tub every today : Int} (h : Fine f n) (hN : ∀ k, k < n → 0 ≤ N k) (ht : 0 ≤ tub) : Fine (dayF f N n tub every today) n := by
  unfold dayF
  split
  · exact (Fine.wsAll (dsF_fine h hN n (Nat.le_refl n)) ht n (Nat.le_refl n)).1
  · exact dsF_fine h hN n (Nat.le_refl n)
theorem lfF_fine {f N : Nat → Int} {n : Nat} {tub every : Int} (h : Fine f n) (hN : ∀ k, k < n → 0 ≤ N k) (ht : 0 ≤ tub) : ∀ d, Fine (lfF f N n tub every d) n
  | 0 => h
  | d + 1 => dayF_fine (lfF_fine h hN ht d) hN ht
theorem shL_mem {f N : Nat → Int} {n : Nat} (h : Fine f n) (hN : ∀ k, k < n → 0 ≤ N k ∧ N k ≤ 500) : ∀ q, q ≤ n → ∀ x ∈ shL f N q, 0 ≤ x ∧ x ≤ 500
  | 0, _ => by simp [shL]
  | q + 1, hq => by
    intro x hx
    rw [shL, List.mem_append, List.mem_singleton] at hx
    rcases hx with hx | rfl
    · exact shL_mem h hN q (by omega) x hx
    · have h1 := ((dsF_fine h (fun k hk => (hN k hk).1) q (by omega)) q (by omega)).use (hN q (by omega)).1
      have h2 := hN q (by omega)
      exact ⟨h1.2.1, by have := h1.2.2; unfold shF; omega⟩
theorem sum_pos {l : List Int} (h : ∀ x ∈ l, 0 ≤ x ∧ x ≤ 500) : 0 ≤ l.sum ∧ ((l.sum == 0) = !posB l) := by
  induction l with
  | nil => exact ⟨by simp, rfl⟩
  | cons a l ih =>
    obtain ⟨h1, h2⟩ := ih (fun x hx => h x (List.mem_cons_of_mem _ hx))
    have ha := (h a (List.mem_cons_self ..)).1
    refine ⟨by rw [List.sum_cons]; omega, ?_⟩
    unfold posB at h2 ⊢
    rw [List.sum_cons, List.any_cons, Bool.not_or, ← h2, Bool.eq_iff_iff]
    simp only [beq_iff_eq, Bool.and_eq_true, Bool.not_eq_true', decide_eq_false_iff_not]
    omega
theorem posB_yes {l : List Int} {i : Nat} (hi : i < l.length) (h : 0 < l.getD i 0) : posB l = true := by
  unfold posB
  rw [List.any_eq_true]
  exact ⟨l[i], List.getElem_mem hi, by rw [List.getD_eq_getElem?_getD, List.getElem?_eq_getElem hi] at h; simpa using h⟩
theorem posB_no {l : List Int} (h : ∀ i, i < l.length → l.getD i 0 ≤ 0) : posB l = false := by
  rw [Bool.eq_false_iff]
  intro h2
  unfold posB at h2
  rw [List.any_eq_true] at h2
  obtain ⟨x, hx, hp⟩ := h2
  obtain ⟨i, hi, rfl⟩ := List.getElem_of_mem hx
  have := h i hi
  rw [List.getD_eq_getElem?_getD, List.getElem?_eq_getElem hi] at this
  simp at hp this
  omega
theorem sumI_calls (v : Value) (l : List Int) (b : Nat) (hl : l.length ≤ 100) (hm : ∀ x ∈ l, 0 ≤ x ∧ x ≤ 500) (W : World) (h : Ir W b v l) :
    Calls Try.prog 63 #[v] W fun e w' => e = .returned (.int .i64 l.sum) ∧ Below W.heap.size W w' := by
  obtain ⟨A, c, rfl, hc, hC⟩ := Kd.R_reads h.row
  have hb : ∀ j, -2147483648 ≤ l.getD j 0 ∧ l.getD j 0 ≤ 2147483647 := by
    intro j
    rw [List.getD_eq_getElem?_getD]
    rcases Nat.lt_or_ge j l.length with hj | hj
    · have := hm l[j] (List.getElem_mem hj)
      rw [List.getElem?_eq_getElem hj]; simp; omega
    · rw [List.getElem?_eq_none hj]; simp
  exact (impl_sum.calls 1001 A c l l.sum W hC hc (sum_f l (by omega) hb)).mono (by
    rintro e w' ⟨rfl, hd⟩
    exact ⟨rfl, hd.below⟩)
/-- a row of int64 that is not empty: where it lies -/
theorem Ir.nd {w : World} {base : Nat} {v : Value} {l : List Int} (h : Ir w base v l) (hp : 0 < l.length) : ∃ gv cv, v = .slice (some ⟨gv, 0, none⟩) l.length cv ∧ Nd w gv l.length (fun k => l.getD k 0) := by
  obtain ⟨A, c, rfl, hc, hC⟩ := Kd.R_reads h.row
  obtain ⟨gv, rfl, hn⟩ := h.nda hp
  exact ⟨gv, c, rfl, hn⟩
theorem l05Needs_b (N : Nat → Int) (m n : Nat) (A : Option Addr) (cN : Nat) (hm : (m : Int) ≤ 9223372036854775806) (w : World) (h : NdA w A m N) :
    Calls Try.prog 100 #[.slice A m cN, .int .i64 n] w fun e w' => e = .returned (.bool (needB N m && decide ((m : Int) = (n : Int)))) ∧ Below w.heap.size w w' :=
  (l05Needs_calls N m n A cN hm w h).mono (by rintro e w' ⟨rfl, rfl⟩; exact ⟨rfl, Below.refl _ _⟩)
/-- a day, its shortages read at once -/
theorem l05Day_nd (f N : Nat → Int) (n c g hb gN cN : Nat) (tub every today : Int) (hn : 0 < n ∧ n ≤ 4) (hG : Fine f n) (hN : needB N n = true) (ht : 0 ≤ tub ∧ tub ≤ 1000) (hv : 1 ≤ every ∧ every ≤ 7) (hd : 0 ≤ today ∧ today < 60) (h1 : gN ≠ g) (h2 : gN ≠ hb) (h3 : hb ≠ g) (w : World) (hH : Blk w hb 40 (hcells (some ⟨g, 0, none⟩) n c tub every today)) (hB : Rw w g n f) (hNd : Nd w gN n N) :
    Calls Try.prog 101 #[.pointer (some ⟨hb, 0, none⟩), .slice (some ⟨gN, 0, none⟩) n cN] w fun e w' => ∃ (gv cv : Nat) (S : Nat → Int), e = .returned (.tuple #[.slice (some ⟨gv, 0, none⟩) n cv, .int .i64 0]) ∧ Nd w' gv n S ∧ (∀ j, S j = (shL f N n).getD j 0) ∧ Rw w' g n (dayF f N n tub every today) ∧ Blk w' hb 40 (hcells (some ⟨g, 0, none⟩) n c tub every (today + 1)) ∧ KpG w w' (fun k => k = g ∨ k = hb) :=
  (l05Day_yes f N n c g hb gN cN tub every today hn hG hN ht hv hd h1 h2 h3 w hH hB hNd).mono (by
    rintro e w' ⟨v, rfl, hv, h1, h2, h3⟩
    have hI : Ir w' w.heap.size v (shL f N n) := by unfold Ir; rw [shL_len]; exact hv
    obtain ⟨gv, cv, e1, e2⟩ := hI.nd (by rw [shL_len]; exact hn.1)
    rw [shL_len] at e1 e2
    subst e1
    exact ⟨gv, cv, _, rfl, e2, fun j => rfl, h1, h2, h3⟩)
theorem day_ir (f N : Nat → Int) (n c g hb gN cN : Nat) (tub every today : Int) (hn : 0 < n ∧ n ≤ 4) (hG : Fine f n) (hN : needB N n = true) (ht : 0 ≤ tub ∧ tub ≤ 1000) (hv : 1 ≤ every ∧ every ≤ 7) (hd : 0 ≤ today ∧ today < 60) (h1 : gN ≠ g) (h2 : gN ≠ hb) (h3 : hb ≠ g) (w : World) (hH : Blk w hb 40 (hcells (some ⟨g, 0, none⟩) n c tub every today)) (hB : Rw w g n f) (hNd : Nd w gN n N) :
    Calls Try.prog 93 #[.pointer (some ⟨hb, 0, none⟩), .slice (some ⟨gN, 0, none⟩) n cN] w fun e w' => ∃ v : Value, e = .returned v ∧ Ir w' w.heap.size v (shL f N n) ∧ Rw w' g n (dayF f N n tub every today) ∧ Blk w' hb 40 (hcells (some ⟨g, 0, none⟩) n c tub every (today + 1)) ∧ KpG w w' (fun k => k = g ∨ k = hb) :=
  (day_yes f N n c g hb gN cN tub every today hn hG hN ht hv hd h1 h2 h3 w hH hB hNd).mono (by
    rintro e w' ⟨v, rfl, hv, h1, h2, h3⟩
    exact ⟨v, rfl, by unfold Ir; rw [shL_len]; exact hv, h1, h2, h3⟩)
theorem lastF_yes {f N : Nat → Int} {n : Nat} {tub every : Int} {k r : Nat} (hk : k < 60) (h : lastF f N n tub every (60 - k) k = r) (hp : posB (shL (lfF f N n tub every k) N n) = true) : r = k := by
  rw [show 60 - k = (60 - (k + 1)) + 1 by omega, lastF, if_pos hp] at h; exact h.symm
theorem lastF_no {f N : Nat → Int} {n : Nat} {tub every : Int} {k r : Nat} (hk : k < 60) (h : lastF f N n tub every (60 - k) k = r) (hp : posB (shL (lfF f N n tub every k) N n) = false) : lastF f N n tub every (60 - (k + 1)) (k + 1) = r := by
  rw [show 60 - k = (60 - (k + 1)) + 1 by omega, lastF, if_neg (by rw [hp]; decide)] at h; exact h
end Go.Proofs.Ytjmnbikaijphlaa.X
