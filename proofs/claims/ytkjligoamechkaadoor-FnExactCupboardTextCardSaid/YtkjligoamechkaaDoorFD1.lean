/- Contracts of functions, and plain facts: what each call answers, and what it leaves as it was. -/
import Derived.Test.YtkjligoamechkaaDoorX5
import Derived.Test.YtkjligoamechkaaDoorX9
import Derived.Test.YtkjligoamechkaaDoorX10
import Derived.Test.YtkjligoamechkaaDoorX12
set_option linter.unusedVariables false
set_option linter.unusedSimpArgs false
namespace Go.Proofs.YtkjligoamechkaaDoor.X
open Go.RowKit Go.Proofs.YtkjligoamechkaaDoorW.PrintWords Go.Proofs.YtkjligoamechkaaDoorW.PrintLast Go.Proofs.YtkjligoamechkaaDoorW.PrintMore
attribute [local go_sem] max2_int min2_int max_two min_two max_three min_three max_four min_four
theorem w64i {n : Int} (h0 : -9223372036854775808 ≤ n) (h1 : n ≤ 9223372036854775807) : wrap64 n = n := by unfold wrap64; omega
theorem w64s {i : Nat} (h : i < 4611686018427387904) : wrap64 ((i : Int) + 1) = ((i + 1 : Nat) : Int) := by unfold wrap64; omega
theorem rd_eq {l : List Int} {i : Nat} (h : i < l.length) : rd l (i : Int) = l[i] := by simp [rd, List.getElem?_eq_getElem h]

theorem toInt64S_loop (l : List Int) (hl : l.length ≤ 4294967296) : ∀ (d k i : Nat) (x : List Int), i + d = l.length → d < k → x.length = l.length → x.take i = l.take i → laws_toInt64S.l0 k l x i = some l := by
  intro d
  induction d with
  | zero =>
    intro k i x hi hk hx ht
    obtain ⟨k, rfl⟩ : ∃ m, k = m + 1 := ⟨k - 1, by omega⟩
    have : x = l := by rw [List.take_of_length_le (by omega), List.take_of_length_le (by omega)] at ht; exact ht
    subst this
    simp only [laws_toInt64S.l0]
    rw [if_neg (by omega)]
  | succ d ih =>
    intro k i x hi hk hx ht
    obtain ⟨k, rfl⟩ : ∃ m, k = m + 1 := ⟨k - 1, by omega⟩
    simp only [laws_toInt64S.l0]
    rw [if_pos (by omega), if_pos (by omega), if_pos (by omega), w64s (by omega), Int.toNat_natCast]
    refine ih k (i + 1) _ (by omega) (by omega) (by simp [hx]) ?_
    rw [rd_eq (by omega)]
    apply List.ext_getElem?
    intro j
    have h0 : i < x.length := by omega
    have hj := congrArg (fun z => z[j]?) ht
    simp only [List.getElem?_take] at hj ⊢
    by_cases h1 : j < i
    · rw [if_pos h1, if_pos h1] at hj
      rw [if_pos (by omega), if_pos (by omega), List.getElem?_set_ne (by omega), hj]
    · by_cases h2 : j = i
      · subst h2
        rw [if_pos (by omega), if_pos (by omega), List.getElem?_set_self h0, List.getElem?_eq_getElem (by omega)]
      · rw [if_neg (by omega), if_neg (by omega)]
theorem toInt64S_ev {l : List Int} (hl : l.length ≤ 4294967296) : Ev (fun k => laws_toInt64S.f k l) l := by
  refine ⟨l.length + 1, fun k hk => ?_⟩
  show laws_toInt64S.f k l = _
  unfold laws_toInt64S.f
  rw [if_pos (by omega), if_pos (by omega)]
  exact toInt64S_loop l hl l.length k 0 _ (by omega) (by omega) (by simp) (by simp)

theorem eqInt64S_loop (a b : List Int) (hl : a.length = b.length) (hn : a.length ≤ 4611686018427387903) : ∀ (d k i : Nat), i + d = a.length → d < k → laws_eqInt64S.l0 k a b i = some (decide (a.drop i = b.drop i)) := by
  intro d
  induction d with
  | zero =>
    intro k i hi hk
    obtain ⟨k, rfl⟩ : ∃ m, k = m + 1 := ⟨k - 1, by omega⟩
    simp only [laws_eqInt64S.l0]
    rw [if_neg (by omega), List.drop_eq_nil_of_le (by omega), List.drop_eq_nil_of_le (by omega)]
    rfl
  | succ d ih =>
    intro k i hi hk
    obtain ⟨k, rfl⟩ : ∃ m, k = m + 1 := ⟨k - 1, by omega⟩
    simp only [laws_eqInt64S.l0]
    rw [if_pos (by omega), if_pos (by omega), if_pos (by omega), rd_eq (by omega), rd_eq (by omega), w64s (by omega)]
    have ha : a.drop i = a[i] :: a.drop (i + 1) := List.drop_eq_getElem_cons (by omega)
    have hb : b.drop i = b[i] :: b.drop (i + 1) := List.drop_eq_getElem_cons (by omega)
    rw [ha, hb]
    split
    · rename_i h
      rw [ih k (i + 1) (by omega) (by omega)]
      simp only [List.cons.injEq, h, true_and]
    · rename_i h
      simp only [List.cons.injEq, h, false_and, decide_false]
theorem eqInt64S_ev {a b : List Int} (hn : a.length ≤ 4611686018427387903) : Ev (fun k => laws_eqInt64S.f k a b) (decide (a = b)) := by
  refine ⟨a.length + 1, fun k hk => ?_⟩
  show laws_eqInt64S.f k a b = _
  unfold laws_eqInt64S.f
  by_cases h : a.length = b.length
  · rw [if_pos (by omega)]
    have := eqInt64S_loop a b h hn a.length k 0 (by omega) (by omega)
    simpa using this
  · rw [if_neg (by omega)]
    have : a ≠ b := fun e => h (by rw [e])
    simp [this]
theorem toInt64S_f {l : List Int} (hl : l.length ≤ 4294967296) {k : Nat} (hk : l.length < k) : laws_toInt64S.f k l = some l := by
  unfold laws_toInt64S.f
  rw [if_pos (by omega), if_pos (by omega)]
  exact toInt64S_loop l hl l.length k 0 _ (by omega) hk (by simp) (by simp)
theorem eqInt64S_f {l : List Int} (hl : l.length ≤ 4294967296) {k : Nat} (hk : l.length < k) : laws_eqInt64S.f k l l = some true := by
  unfold laws_eqInt64S.f
  rw [if_pos rfl]
  have := eqInt64S_loop l l rfl (by omega) l.length k 0 (by omega) hk
  simpa using this
def szR : List (List Int) → Int → Int
  | [], left => left
  | p :: ps, left => if left - p.length < 0 then -1 else szR ps (left - p.length)
theorem szR_le : ∀ (l : List (List Int)) (left : Int), 0 ≤ left → 0 ≤ szR l left → (l.flatten.length : Int) ≤ left
  | [], left, h, _ => by simpa using h
  | p :: ps, left, h, h2 => by
    unfold szR at h2
    split at h2
    · omega
    · have := szR_le ps (left - p.length) (by omega) h2
      rw [List.flatten_cons, List.length_append]
      omega
theorem rd_L1_eq {l : List (List Int)} {i : Nat} (h : i < l.length) : rd_L1 l (i : Int) = l[i] := by simp [rd_L1, List.getElem?_eq_getElem h]
theorem szSS_loop (l : List (List Int)) (hl : l.length ≤ 1048576) (hr : ∀ p ∈ l, p.length ≤ 9223372036854775807) : ∀ (d k i : Nat) (left : Int), i + d = l.length → d < k → 0 ≤ left → left ≤ 1048576 → laws_szInt64SS.l0 k l left i = some (szR (l.drop i) left) := by
  intro d
  induction d with
  | zero =>
    intro k i left hi hk h0 h1
    obtain ⟨k, rfl⟩ : ∃ m, k = m + 1 := ⟨k - 1, by omega⟩
    simp only [laws_szInt64SS.l0]
    rw [if_neg (by omega), List.drop_eq_nil_of_le (by omega)]
    rfl
  | succ d ih =>
    intro k i left hi hk h0 h1
    obtain ⟨k, rfl⟩ : ∃ m, k = m + 1 := ⟨k - 1, by omega⟩
    simp only [laws_szInt64SS.l0]
    have hp := hr l[i] (List.getElem_mem _)
    have hw : wrap64 (left - (l[i].length : Int)) = left - (l[i].length : Int) := w64i (by omega) (by omega)
    rw [if_pos (by omega), if_pos (by omega), rd_L1_eq (by omega), List.drop_eq_getElem_cons (by omega)]
    unfold laws_szInt64S.f szR
    rw [hw]
    by_cases h : left - (l[i].length : Int) < 0
    · rw [if_pos h, if_pos h]; rfl
    · rw [if_neg h, if_neg h, Option.bind_some, if_neg h, w64s (by omega)]
      exact ih k (i + 1) _ (by omega) (by omega) (by omega) (by omega)
theorem szSS_f {l : List (List Int)} (hm : l.length ≤ 9223372036854775807) (hr : ∀ p ∈ l, p.length ≤ 9223372036854775807) : ∃ r, (∀ k, 1048577 < k → laws_szInt64SS.f k l 1048576 = some r) ∧ (0 ≤ r → l.length ≤ 1048576 ∧ l.flatten.length ≤ 1048576) := by
  have hw : wrap64 ((1048576 : Int) - (l.length : Int)) = 1048576 - (l.length : Int) := w64i (by omega) (by omega)
  by_cases h : (1048576 : Int) - (l.length : Int) < 0
  · exact ⟨-1, fun k hk => by unfold laws_szInt64SS.f; rw [hw, if_pos h], by omega⟩
  · refine ⟨szR l (1048576 - (l.length : Int)), fun k hk => ?_, fun h0 => ?_⟩
    · unfold laws_szInt64SS.f
      rw [hw, if_neg h]
      have := szSS_loop l (by omega) hr l.length k 0 (1048576 - (l.length : Int)) (by omega) (by omega) (by omega) (by omega)
      simpa using this
    · have := szR_le l _ (by omega) h0
      omega
theorem row_le {l : List (List Int)} {p : List Int} (hp : p ∈ l) : p.length ≤ l.flatten.length := by
  obtain ⟨a, b, rfl⟩ := List.append_of_mem hp
  simp
  omega
theorem toSS_loop (l : List (List Int)) (hl : l.length ≤ 1048576) (hf : l.flatten.length ≤ 1048576) : ∀ (d k i : Nat) (x : List (List Int)), i + d = l.length → d + 1048577 < k → x.length = l.length → x.take i = l.take i → laws_toInt64SS.l0 k l x i = some l := by
  intro d
  induction d with
  | zero =>
    intro k i x hi hk hx ht
    obtain ⟨k, rfl⟩ : ∃ m, k = m + 1 := ⟨k - 1, by omega⟩
    have : x = l := by rw [List.take_of_length_le (by omega), List.take_of_length_le (by omega)] at ht; exact ht
    subst this
    simp only [laws_toInt64SS.l0]
    rw [if_neg (by omega)]
  | succ d ih =>
    intro k i x hi hk hx ht
    obtain ⟨k, rfl⟩ : ∃ m, k = m + 1 := ⟨k - 1, by omega⟩
    simp only [laws_toInt64SS.l0]
    have hp := row_le (List.getElem_mem (l := l) (n := i) (by omega))
    rw [if_pos (by omega), if_pos (by omega), rd_L1_eq (by omega), toInt64S_f (by omega) (by omega), Option.bind_some, if_pos (by omega), w64s (by omega), Int.toNat_natCast]
    refine ih k (i + 1) _ (by omega) (by omega) (by simp [hx]) ?_
    apply List.ext_getElem?
    intro j
    have h0 : i < x.length := by omega
    have hj := congrArg (fun z => z[j]?) ht
    simp only [List.getElem?_take] at hj ⊢
    by_cases h1 : j < i
    · rw [if_pos h1, if_pos h1] at hj
      rw [if_pos (by omega), if_pos (by omega), List.getElem?_set_ne (by omega), hj]
    · by_cases h2 : j = i
      · subst h2
        rw [if_pos (by omega), if_pos (by omega), List.getElem?_set_self h0, List.getElem?_eq_getElem (by omega)]
      · rw [if_neg (by omega), if_neg (by omega)]
theorem toSS_f {l : List (List Int)} (hl : l.length ≤ 1048576) (hf : l.flatten.length ≤ 1048576) {k : Nat} (hk : 2097154 < k) : laws_toInt64SS.f k l = some l := by
  unfold laws_toInt64SS.f
  rw [if_pos (by omega), if_pos (by omega)]
  exact toSS_loop l hl hf l.length k 0 _ (by omega) (by omega) (by simp) (by simp)
theorem eqSS_loop (l : List (List Int)) (hl : l.length ≤ 1048576) (hf : l.flatten.length ≤ 1048576) : ∀ (d k i : Nat), i + d = l.length → d + 1048577 < k → laws_eqInt64SS.l0 k l l i = some true := by
  intro d
  induction d with
  | zero =>
    intro k i hi hk
    obtain ⟨k, rfl⟩ : ∃ m, k = m + 1 := ⟨k - 1, by omega⟩
    simp only [laws_eqInt64SS.l0]
    rw [if_neg (by omega)]
  | succ d ih =>
    intro k i hi hk
    obtain ⟨k, rfl⟩ : ∃ m, k = m + 1 := ⟨k - 1, by omega⟩
    simp only [laws_eqInt64SS.l0]
    have hp := row_le (List.getElem_mem (l := l) (n := i) (by omega))
    rw [if_pos (by omega), if_pos (by omega), if_pos (by omega), rd_L1_eq (by omega), eqInt64S_f (by omega) (by omega), Option.bind_some, if_pos rfl, w64s (by omega)]
    exact ih k (i + 1) (by omega) (by omega)
theorem eqSS_f {l : List (List Int)} (hl : l.length ≤ 1048576) (hf : l.flatten.length ≤ 1048576) {k : Nat} (hk : 2097154 < k) : laws_eqInt64SS.f k l l = some true := by
  unfold laws_eqInt64SS.f
  rw [if_pos rfl]
  exact eqSS_loop l hl hf l.length k 0 (by omega) (by omega)
theorem rows_max {w : World} {A : Option Addr} {n : Nat} {l : List (List Int)} (h : Kd.C (Kd.slice 2 (Kd.int .i64)) w A n l) : ∀ p ∈ l, p.length ≤ 9223372036854775807 := by
  intro p hp
  obtain ⟨i, hi, rfl⟩ := List.getElem_of_mem hp
  have hn : n = l.length := h.1.symm
  obtain ⟨ad, A1, c1, e1, hx1, hl1, hi1⟩ := at_L1 h (i : Int) (by omega) (by omega)
  rw [rd_L1_eq hi] at hi1
  exact Kd.C_max hi1
end Go.Proofs.YtkjligoamechkaaDoor.X
