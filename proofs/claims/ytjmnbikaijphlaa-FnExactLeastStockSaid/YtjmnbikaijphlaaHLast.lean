/- Contracts of functions, and plain facts: what each call answers, and what it leaves as it was. -/
import Derived.Test.YtjmnbikaijphlaaHInt
import Derived.Test.YtjmnbikaijphlaaStk
import Derived.Test.YtjmnbikaijphlaaX7
import Derived.Test.YtjmnbikaijphlaaX8
import Derived.Test.YtjmnbikaijphlaaWApart
set_option linter.unusedVariables false
set_option linter.unusedSimpArgs false
namespace Go.Proofs.Ytjmnbikaijphlaa.X
open Go.RowKit Go.Proofs.YtjmnbikaijphlaaW.PrintWords Go.Proofs.YtjmnbikaijphlaaW.PrintLast Go.Proofs.YtjmnbikaijphlaaW.PrintMore
attribute [local go_sem] max2_int min2_int max_two min_two max_three min_three max_four min_four
/-- the numbers behind d days from the day 0 on -/
def lfF (f N : Nat → Int) (n : Nat) (tub every : Int) : Nat → Nat → Int
  | 0 => f
  | d + 1 => dayF (lfF f N n tub every d) N n tub every d
def posB (l : List Int) : Bool := l.any fun x => decide (0 < x)
/-- how many days go by till something is short: at most q days more from day k on -/
def lastF (f N : Nat → Int) (n : Nat) (tub every : Int) : Nat → Nat → Nat
  | 0, k => k
  | q + 1, k => if posB (shL (lfF f N n tub every k) N n) = true then k else lastF f N n tub every q (k + 1)
theorem dayF_fine {f N : Nat → Int} {n : Nat} {tub every today : Int} (h : Fine f n) (hN : ∀ k, k < n → 0 ≤ N k) (ht : 0 ≤ tub) : Fine (dayF f N n tub every today) n := by
  unfold dayF
  split
  · exact (Fine.wsAll (dsF_fine h hN n (Nat.le_refl n)) ht n (Nat.le_refl n)).1
  · exact dsF_fine h hN n (Nat.le_refl n)
theorem lfF_fine {f N : Nat → Int} {n : Nat} {tub every : Int} (h : Fine f n) (hN : ∀ k, k < n → 0 ≤ N k) (ht : 0 ≤ tub) : ∀ d, Fine (lfF f N n tub every d) n
  | 0 => h
  | d + 1 => dayF_fine (lfF_fine h hN ht d) hN ht
theorem shL_mem {f N : Nat → Int} {n : Nat} (h : Fine f n) (hN : ∀ k, k < n → 0 ≤ N k ∧ N k ≤ 500) : ∀ q, q ≤ n → ∀ x ∈ shL f N q, 0 ≤ x ∧ x ≤ 500
  | 0, _ => by simp [shL]
  | q + 1, hq => by
    intro x hx
    rw [shL, List.mem_append, List.mem_singleton] at hx
    rcases hx with hx | rfl
    · exact shL_mem h hN q (by omega) x hx
    · have h1 := ((dsF_fine h (fun k hk => (hN k hk).1) q (by omega)) q (by omega)).use (hN q (by omega)).1
      have h2 := hN q (by omega)
      exact ⟨h1.2.1, by have := h1.2.2; unfold shF; omega⟩
theorem sum_pos {l : List Int} (h : ∀ x ∈ l, 0 ≤ x ∧ x ≤ 500) : 0 ≤ l.sum ∧ ((l.sum == 0) = !posB l) := by
  induction l with
  | nil => exact ⟨by simp, rfl⟩
  | cons a l ih =>
    obtain ⟨h1, h2⟩ := ih (fun x hx => h x (List.mem_cons_of_mem _ hx))
    have ha := (h a (List.mem_cons_self ..)).1
    refine ⟨by rw [List.sum_cons]; omega, ?_⟩
    unfold posB at h2 ⊢
    rw [List.sum_cons, List.any_cons, Bool.not_or, ← h2, Bool.eq_iff_iff]
    simp only [beq_iff_eq, Bool.and_eq_true, Bool.not_eq_true', decide_eq_false_iff_not]
    omega
theorem posB_yes {l : List Int} {i : Nat} (hi : i < l.length) (h : 0 < l.getD i 0) : posB l = true := by
  unfold posB
  rw [List.any_eq_true]
  exact ⟨l[i], List.getElem_mem hi, by rw [List.getD_eq_getElem?_getD, List.getElem?_eq_getElem hi] at h; simpa using h⟩
theorem posB_no {l : List Int} (h : ∀ i, i < l.length → l.getD i 0 ≤ 0) : posB l = false := by
  rw [Bool.eq_false_iff]
  intro h2
  unfold posB at h2
  rw [List.any_eq_true] at h2
  obtain ⟨x, hx, hp⟩ := h2
  obtain ⟨i, hi, rfl⟩ := List.getElem_of_mem hx
  have := h i hi
  rw [List.getD_eq_getElem?_getD, List.getElem?_eq_getElem hi] at this
  simp at hp this
  omega
theorem sumI_calls (v : Value) (l : List Int) (b : Nat) (hl : l.length ≤ 100) (hm : ∀ x ∈ l, 0 ≤ x ∧ x ≤ 500) (W : World) (h : Ir W b v l) :
    Calls Try.prog 63 #[v] W fun e w' => e = .returned (.int .i64 l.sum) ∧ Below W.heap.size W w' := by
  obtain ⟨A, c, rfl, hc, hC⟩ := Kd.R_reads h.row
  have hb : ∀ j, -2147483648 ≤ l.getD j 0 ∧ l.getD j 0 ≤ 2147483647 := by
    intro j
    rw [List.getD_eq_getElem?_getD]
    rcases Nat.lt_or_ge j l.length with hj | hj
    · have := hm l[j] (List.getElem_mem hj)
      rw [List.getElem?_eq_getElem hj]; simp; omega
    · rw [List.getElem?_eq_none hj]; simp
  exact (impl_sum.calls 1001 A c l l.sum W hC hc (sum_f l (by omega) hb)).mono (by
    rintro e w' ⟨rfl, hd⟩
    exact ⟨rfl, hd.below⟩)
/-- a row of int64 that is not empty: where it lies -/
theorem Ir.nd {w : World} {base : Nat} {v : Value} {l : List Int} (h : Ir w base v l) (hp : 0 < l.length) : ∃ gv cv, v = .slice (some ⟨gv, 0, none⟩) l.length cv ∧ Nd w gv l.length (fun k => l.getD k 0) := by
  obtain ⟨A, c, rfl, hc, hC⟩ := Kd.R_reads h.row
  obtain ⟨gv, rfl, hn⟩ := h.nda hp
  exact ⟨gv, c, rfl, hn⟩
theorem l05Needs_b (N : Nat → Int) (m n : Nat) (A : Option Addr) (cN : Nat) (hm : (m : Int) ≤ 9223372036854775806) (w : World) (h : NdA w A m N) :
    Calls Try.prog 100 #[.slice A m cN, .int .i64 n] w fun e w' => e = .returned (.bool (needB N m && decide ((m : Int) = (n : Int)))) ∧ Below w.heap.size w w' :=
  (l05Needs_calls N m n A cN hm w h).mono (by rintro e w' ⟨rfl, rfl⟩; exact ⟨rfl, Below.refl _ _⟩)
/-- a day, its shortages read at once -/
theorem l05Day_nd (f N : Nat → Int) (n c g hb gN cN : Nat) (tub every today : Int) (hn : 0 < n ∧ n ≤ 4) (hG : Fine f n) (hN : needB N n = true) (ht : 0 ≤ tub ∧ tub ≤ 1000) (hv : 1 ≤ every ∧ every ≤ 7) (hd : 0 ≤ today ∧ today < 60) (h1 : gN ≠ g) (h2 : gN ≠ hb) (h3 : hb ≠ g) (w : World) (hH : Blk w hb 40 (hcells (some ⟨g, 0, none⟩) n c tub every today)) (hB : Rw w g n f) (hNd : Nd w gN n N) :
    Calls Try.prog 101 #[.pointer (some ⟨hb, 0, none⟩), .slice (some ⟨gN, 0, none⟩) n cN] w fun e w' => ∃ (gv cv : Nat) (S : Nat → Int), e = .returned (.tuple #[.slice (some ⟨gv, 0, none⟩) n cv, .int .i64 0]) ∧ Nd w' gv n S ∧ (∀ j, S j = (shL f N n).getD j 0) ∧ Rw w' g n (dayF f N n tub every today) ∧ Blk w' hb 40 (hcells (some ⟨g, 0, none⟩) n c tub every (today + 1)) ∧ KpG w w' (fun k => k = g ∨ k = hb) :=
  (l05Day_yes f N n c g hb gN cN tub every today hn hG hN ht hv hd h1 h2 h3 w hH hB hNd).mono (by
    rintro e w' ⟨v, rfl, hv, h1, h2, h3⟩
    have hI : Ir w' w.heap.size v (shL f N n) := by unfold Ir; rw [shL_len]; exact hv
    obtain ⟨gv, cv, e1, e2⟩ := hI.nd (by rw [shL_len]; exact hn.1)
    rw [shL_len] at e1 e2
    subst e1
    exact ⟨gv, cv, _, rfl, e2, fun j => rfl, h1, h2, h3⟩)
theorem day_ir (f N : Nat → Int) (n c g hb gN cN : Nat) (tub every today : Int) (hn : 0 < n ∧ n ≤ 4) (hG : Fine f n) (hN : needB N n = true) (ht : 0 ≤ tub ∧ tub ≤ 1000) (hv : 1 ≤ every ∧ every ≤ 7) (hd : 0 ≤ today ∧ today < 60) (h1 : gN ≠ g) (h2 : gN ≠ hb) (h3 : hb ≠ g) (w : World) (hH : Blk w hb 40 (hcells (some ⟨g, 0, none⟩) n c tub every today)) (hB : Rw w g n f) (hNd : Nd w gN n N) :
    Calls Try.prog 93 #[.pointer (some ⟨hb, 0, none⟩), .slice (some ⟨gN, 0, none⟩) n cN] w fun e w' => ∃ v : Value, e = .returned v ∧ Ir w' w.heap.size v (shL f N n) ∧ Rw w' g n (dayF f N n tub every today) ∧ Blk w' hb 40 (hcells (some ⟨g, 0, none⟩) n c tub every (today + 1)) ∧ KpG w w' (fun k => k = g ∨ k = hb) :=
  (day_yes f N n c g hb gN cN tub every today hn hG hN ht hv hd h1 h2 h3 w hH hB hNd).mono (by
    rintro e w' ⟨v, rfl, hv, h1, h2, h3⟩
    exact ⟨v, rfl, by unfold Ir; rw [shL_len]; exact hv, h1, h2, h3⟩)
theorem lastF_yes {f N : Nat → Int} {n : Nat} {tub every : Int} {k r : Nat} (hk : k < 60) (h : lastF f N n tub every (60 - k) k = r) (hp : posB (shL (lfF f N n tub every k) N n) = true) : r = k := by
  rw [show 60 - k = (60 - (k + 1)) + 1 by omega, lastF, if_pos hp] at h; exact h.symm
theorem lastF_no {f N : Nat → Int} {n : Nat} {tub every : Int} {k r : Nat} (hk : k < 60) (h : lastF f N n tub every (60 - k) k = r) (hp : posB (shL (lfF f N n tub every k) N n) = false) : lastF f N n tub every (60 - (k + 1)) (k + 1) = r := by
  rw [show 60 - k = (60 - (k + 1)) + 1 by omega, lastF, if_neg (by rw [hp]; decide)] at h; exact h
theorem w64i {n : Int} (h0 : -9223372036854775808 ≤ n) (h1 : n ≤ 9223372036854775807) : wrap64 n = n := by unfold wrap64; omega
def szR : List (List Int) → Int → Int
  | [], left => left
  | p :: ps, left => if left - p.length < 0 then -1 else szR ps (left - p.length)
theorem szR_le : ∀ (l : List (List Int)) (left : Int), 0 ≤ left → 0 ≤ szR l left → (l.flatten.length : Int) ≤ left
  | [], left, h, _ => by simpa using h
  | p :: ps, left, h, h2 => by
    unfold szR at h2
    split at h2
    · omega
    · have := szR_le ps (left - p.length) (by omega) h2
      rw [List.flatten_cons, List.length_append]
      omega
theorem rd_L3_eq {l : List (List Int)} {i : Nat} (h : i < l.length) : rd_L3 l (i : Int) = l[i] := by simp [rd_L3, List.getElem?_eq_getElem h]
theorem szSS_loop (l : List (List Int)) (hl : l.length ≤ 1048576) (hr : ∀ p ∈ l, p.length ≤ 9223372036854775807) : ∀ (d k i : Nat) (left : Int), i + d = l.length → d < k → 0 ≤ left → left ≤ 1048576 → laws_szInt64SS.l0 k l left i = some (szR (l.drop i) left) := by
  intro d
  induction d with
  | zero =>
    intro k i left hi hk h0 h1
    obtain ⟨k, rfl⟩ : ∃ m, k = m + 1 := ⟨k - 1, by omega⟩
    simp only [laws_szInt64SS.l0]
    rw [if_neg (by omega), List.drop_eq_nil_of_le (by omega)]
    rfl
  | succ d ih =>
    intro k i left hi hk h0 h1
    obtain ⟨k, rfl⟩ : ∃ m, k = m + 1 := ⟨k - 1, by omega⟩
    simp only [laws_szInt64SS.l0]
    have hp := hr l[i] (List.getElem_mem _)
    have hw : wrap64 (left - (l[i].length : Int)) = left - (l[i].length : Int) := w64i (by omega) (by omega)
    rw [if_pos (by omega), if_pos (by omega), rd_L3_eq (by omega), List.drop_eq_getElem_cons (by omega)]
    unfold laws_szInt64S.f szR
    rw [hw]
    by_cases h : left - (l[i].length : Int) < 0
    · rw [if_pos h, if_pos h]; rfl
    · rw [if_neg h, if_neg h, Option.bind_some, if_neg h, w64s (by omega)]
      exact ih k (i + 1) _ (by omega) (by omega) (by omega) (by omega)
theorem szSS_f {l : List (List Int)} {L : Int} (hL0 : 0 ≤ L) (hL1 : L ≤ 1048576) (hm : l.length ≤ 9223372036854775807) (hr : ∀ p ∈ l, p.length ≤ 9223372036854775807) : ∃ r, (∀ k, 1048577 < k → laws_szInt64SS.f k l L = some r) ∧ (0 ≤ r → l.length ≤ 1048576 ∧ l.flatten.length ≤ 1048576) := by
  have hw : wrap64 (L - (l.length : Int)) = L - (l.length : Int) := w64i (by omega) (by omega)
  by_cases h : L - (l.length : Int) < 0
  · exact ⟨-1, fun k hk => by unfold laws_szInt64SS.f; rw [hw, if_pos h], by omega⟩
  · refine ⟨szR l (L - (l.length : Int)), fun k hk => ?_, fun h0 => ?_⟩
    · unfold laws_szInt64SS.f
      rw [hw, if_neg h]
      have := szSS_loop l (by omega) hr l.length k 0 (L - (l.length : Int)) (by omega) (by omega) (by omega) (by omega)
      simpa using this
    · have := szR_le l _ (by omega) h0
      omega
theorem row_le {l : List (List Int)} {p : List Int} (hp : p ∈ l) : p.length ≤ l.flatten.length := by
  obtain ⟨a, b, rfl⟩ := List.append_of_mem hp
  simp
  omega
theorem toSS_loop (l : List (List Int)) (hl : l.length ≤ 1048576) (hf : l.flatten.length ≤ 1048576) : ∀ (d k i : Nat) (x : List (List Int)), i + d = l.length → d + 1048577 < k → x.length = l.length → x.take i = l.take i → laws_toInt64SS.l0 k l x i = some l := by
  intro d
  induction d with
  | zero =>
    intro k i x hi hk hx ht
    obtain ⟨k, rfl⟩ : ∃ m, k = m + 1 := ⟨k - 1, by omega⟩
    have : x = l := by rw [List.take_of_length_le (by omega), List.take_of_length_le (by omega)] at ht; exact ht
    subst this
    simp only [laws_toInt64SS.l0]
    rw [if_neg (by omega)]
  | succ d ih =>
    intro k i x hi hk hx ht
    obtain ⟨k, rfl⟩ : ∃ m, k = m + 1 := ⟨k - 1, by omega⟩
    simp only [laws_toInt64SS.l0]
    have hp := row_le (List.getElem_mem (l := l) (n := i) (by omega))
    rw [if_pos (by omega), if_pos (by omega), rd_L3_eq (by omega), toInt64S_f (by omega) (by omega), Option.bind_some, if_pos (by omega), w64s (by omega), Int.toNat_natCast]
    refine ih k (i + 1) _ (by omega) (by omega) (by simp [hx]) ?_
    apply List.ext_getElem?
    intro j
    have h0 : i < x.length := by omega
    have hj := congrArg (fun z => z[j]?) ht
    simp only [List.getElem?_take] at hj ⊢
    by_cases h1 : j < i
    · rw [if_pos h1, if_pos h1] at hj
      rw [if_pos (by omega), if_pos (by omega), List.getElem?_set_ne (by omega), hj]
    · by_cases h2 : j = i
      · subst h2
        rw [if_pos (by omega), if_pos (by omega), List.getElem?_set_self h0, List.getElem?_eq_getElem (by omega)]
      · rw [if_neg (by omega), if_neg (by omega)]
theorem toSS_f {l : List (List Int)} (hl : l.length ≤ 1048576) (hf : l.flatten.length ≤ 1048576) {k : Nat} (hk : 2097154 < k) : laws_toInt64SS.f k l = some l := by
  unfold laws_toInt64SS.f
  rw [if_pos (by omega), if_pos (by omega)]
  exact toSS_loop l hl hf l.length k 0 _ (by omega) (by omega) (by simp) (by simp)
theorem eqSS_loop (l : List (List Int)) (hl : l.length ≤ 1048576) (hf : l.flatten.length ≤ 1048576) : ∀ (d k i : Nat), i + d = l.length → d + 1048577 < k → laws_eqInt64SS.l0 k l l i = some true := by
  intro d
  induction d with
  | zero =>
    intro k i hi hk
    obtain ⟨k, rfl⟩ : ∃ m, k = m + 1 := ⟨k - 1, by omega⟩
    simp only [laws_eqInt64SS.l0]
    rw [if_neg (by omega)]
  | succ d ih =>
    intro k i hi hk
    obtain ⟨k, rfl⟩ : ∃ m, k = m + 1 := ⟨k - 1, by omega⟩
    simp only [laws_eqInt64SS.l0]
    have hp := row_le (List.getElem_mem (l := l) (n := i) (by omega))
    rw [if_pos (by omega), if_pos (by omega), if_pos (by omega), rd_L3_eq (by omega), eqInt64S_f (by omega) (by omega), Option.bind_some, if_pos rfl, w64s (by omega)]
    exact ih k (i + 1) (by omega) (by omega)
theorem eqSS_f {l : List (List Int)} (hl : l.length ≤ 1048576) (hf : l.flatten.length ≤ 1048576) {k : Nat} (hk : 2097154 < k) : laws_eqInt64SS.f k l l = some true := by
  unfold laws_eqInt64SS.f
  rw [if_pos rfl]
  exact eqSS_loop l hl hf l.length k 0 (by omega) (by omega)
theorem rows_max {w : World} {A : Option Addr} {n : Nat} {l : List (List Int)} (h : Kd.C (Kd.slice 2 (Kd.int .i64)) w A n l) : ∀ p ∈ l, p.length ≤ 9223372036854775807 := by
  intro p hp
  obtain ⟨i, hi, rfl⟩ := List.getElem_of_mem hp
  have hn : n = l.length := h.1.symm
  obtain ⟨ad, A1, c1, e1, hx1, hl1, hi1⟩ := at_L3 h (i : Int) (by omega) (by omega)
  rw [rd_L3_eq hi] at hi1
  exact Kd.C_max hi1
/-- a row of rows of int64 of one's own -/
def Dy (w : World) (v : Value) (l : List (List Int)) : Prop := (Kd.slice 2 (Kd.int .i64)).R 45 w 0 (fun _ => True) v l
section
variable {w w1 : World} {v : Value} {l : List (List Int)}
theorem Dy.below (h : Dy w v l) (hb : Below w.heap.size w w1) : Dy w1 v l := Kd.R_below h hb
theorem Dy.alloc (h : Dy w v l) (o : Obj) : Dy (w.alloc o) v l := h.below (below_alloc (Below.refl _ _) o)
theorem Dy.drew (h : Dy w v l) : Dy w.drew v l := h.below (below_drew (Below.refl _ _))
theorem Dy.reads (h : Dy w v l) : ∃ A c, v = .slice A l.length c ∧ l.length ≤ c ∧ (Kd.slice 2 (Kd.int .i64)).C w A l.length l := Kd.R_reads h
/-- a row of int64 out of one that is one's own -/
theorem nda_of_R {w : World} {base : Nat} {ok : Nat → Prop} {v : Value} {l : List Int} (h : (Kd.int .i64).R 2 w base ok v l) : ∃ A c, v = .slice A l.length c ∧ l.length ≤ c ∧ NdA w A l.length (fun k => l.getD k 0) := by
  have hI : Ir w base v l := Ir.of_row h
  obtain ⟨A, c, rfl, hc, _⟩ := Kd.R_reads h
  exact ⟨A, c, rfl, hc, hI.nda⟩
theorem Dy.at {A : Option Addr} {c : Nat} (h : Dy w (.slice A l.length c) l) {i : Nat} (hi : i < l.length) : ∃ g A' c', A = some ⟨g, 0, none⟩ ∧ w.cell? ⟨g, i, none⟩ = some (.slice A' (l.getD i []).length c') ∧ (l.getD i []).length ≤ c' ∧ NdA w A' (l.getD i []).length (fun k => (l.getD i []).getD k 0) := by
  obtain ⟨g, cap, hv, _, _, _⟩ := Kd.R_form h (by omega)
  injection hv with hA hn hc
  subst hA
  obtain ⟨cs, hcl, ⟨v', hcs, hM⟩, hcell, _⟩ := Kd.R_elem h [] (i : Int) (by omega) (by omega)
  subst hcs
  obtain ⟨A', c', rfl, hc', hN⟩ := nda_of_R hM
  have h0 := hcell 0 _ rfl
  refine ⟨g, A', c', rfl, ?_, hc', hN⟩
  have e : (i : Int).toNat * (Kd.slice 2 (Kd.int .i64)).sz + 0 = i := by
    show (i : Int).toNat * 1 + 0 = i
    omega
  rw [e] at h0
  exact h0
end
theorem szSS_calls (A : Option Addr) (c : Nat) (l : List (List Int)) (L : Int) (hL0 : 0 ≤ L) (hL1 : L ≤ 1048576) (hc : l.length ≤ c) (W0 : World) (h0 : (Kd.slice 2 (Kd.int .i64)).C W0 A l.length l) : ∃ r, (0 ≤ r → l.length ≤ 1048576 ∧ l.flatten.length ≤ 1048576) ∧ ∀ W : World, (Kd.slice 2 (Kd.int .i64)).C W A l.length l → Calls Try.prog 39 #[.slice A l.length c, .int .i64 L] W fun e w' => e = .returned (.int .i64 r) ∧ Below W.heap.size W w' := by
  obtain ⟨r, hr, h⟩ := szSS_f (l := l) hL0 hL1 h0.2.1 (rows_max h0)
  exact ⟨r, h, fun W hW => (laws_szInt64SS.calls 1048578 A c l L r W hW hc (hr _ (by omega))).mono (by rintro e w' ⟨rfl, hd⟩; exact ⟨rfl, hd.below⟩)⟩
theorem toSS_calls (A : Option Addr) (c : Nat) (l : List (List Int)) (hl : l.length ≤ 1048576 ∧ l.flatten.length ≤ 1048576) (hc : l.length ≤ c) (W : World) (h : (Kd.slice 2 (Kd.int .i64)).C W A l.length l) :
    Calls Try.prog 41 #[.slice A l.length c] W fun e w' => ∃ (A' : Option Addr) (c' : Nat), e = .returned (.slice A' l.length c') ∧ l.length ≤ c' ∧ Dy w' (.slice A' l.length c') l ∧ Below W.heap.size W w' :=
  (laws_toInt64SS.calls 2097155 A c l l W h hc (toSS_f hl.1 hl.2 (by omega))).mono (by
    rintro e w' ⟨v, rfl, hS, hb⟩
    have hR := Kd.S_R hS
    obtain ⟨A', c', rfl, hc', _⟩ := Kd.R_reads hR
    exact ⟨A', c', rfl, hc', Kd.R_lower hR (Nat.zero_le _), hb⟩)
theorem eqSS_calls (v v' : Value) (l : List (List Int)) (hl : l.length ≤ 1048576 ∧ l.flatten.length ≤ 1048576) (W : World) (h : Dy W v l) (h' : Dy W v' l) :
    Calls Try.prog 43 #[v, v'] W fun e w' => e = .returned (.bool true) ∧ Below W.heap.size W w' := by
  obtain ⟨A, c, rfl, hc, hC⟩ := h.reads
  obtain ⟨A', c', rfl, hc', hC'⟩ := h'.reads
  exact (laws_eqInt64SS.calls 2097155 A c l A' c' l true W hC hc hC' hc' (eqSS_f hl.1 hl.2 (by omega))).mono (by
    rintro e w' ⟨rfl, hd⟩
    exact ⟨rfl, hd.below⟩)
end Go.Proofs.Ytjmnbikaijphlaa.X
