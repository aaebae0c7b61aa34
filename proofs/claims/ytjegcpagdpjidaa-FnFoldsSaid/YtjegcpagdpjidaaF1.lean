/- Contracts of functions, and plain facts: what each call answers, and what it leaves as it was. -/
import Derived.Test.YtjegcpagdpjidaaX7
import Derived.Test.YtjegcpagdpjidaaWMore
set_option linter.unusedVariables false
set_option linter.unusedSimpArgs false
namespace Go.Proofs.Ytjegcpagdpjidaa.X
open Go.RowKit Go.Proofs.YtjegcpagdpjidaaW.PrintWords Go.Proofs.YtjegcpagdpjidaaW.PrintLast Go.Proofs.YtjegcpagdpjidaaW.PrintMore
attribute [local go_sem] max2_int min2_int max_two min_two max_three min_three max_four min_four
theorem w64i {n : Int} (h0 : -9223372036854775808 ≤ n) (h1 : n ≤ 9223372036854775807) : wrap64 n = n := by unfold wrap64; omega
theorem w64s {i : Nat} (h : i < 4611686018427387904) : wrap64 ((i : Int) + 1) = ((i + 1 : Nat) : Int) := by unfold wrap64; omega
theorem rd_eq {l : List Int} {i : Nat} (h : i < l.length) : rd l (i : Int) = l[i] := by simp [rd, List.getElem?_eq_getElem h]

theorem eqInt64S_loop (a b : List Int) (hl : a.length = b.length) (hn : a.length ≤ 4611686018427387903) : ∀ (d k i : Nat), i + d = a.length → d < k → laws_eqInt64S.l0 k a b i = some (decide (a.drop i = b.drop i)) := by
  intro d
  induction d with
  | zero =>
    intro k i hi hk
    obtain ⟨k, rfl⟩ : ∃ m, k = m + 1 := ⟨k - 1, by omega⟩
    simp only [laws_eqInt64S.l0]
    rw [if_neg (by omega), List.drop_eq_nil_of_le (by omega), List.drop_eq_nil_of_le (by omega)]
    rfl
  | succ d ih =>
    intro k i hi hk
    obtain ⟨k, rfl⟩ : ∃ m, k = m + 1 := ⟨k - 1, by omega⟩
    simp only [laws_eqInt64S.l0]
    rw [if_pos (by omega), if_pos (by omega), if_pos (by omega), rd_eq (by omega), rd_eq (by omega), w64s (by omega)]
    have ha : a.drop i = a[i] :: a.drop (i + 1) := List.drop_eq_getElem_cons (by omega)
    have hb : b.drop i = b[i] :: b.drop (i + 1) := List.drop_eq_getElem_cons (by omega)
    rw [ha, hb]
    split
    · rename_i h
      rw [ih k (i + 1) (by omega) (by omega)]
      simp only [List.cons.injEq, h, true_and]
    · rename_i h
      simp only [List.cons.injEq, h, false_and, decide_false]
theorem eqInt64S_ev {a b : List Int} (hn : a.length ≤ 4611686018427387903) : Ev (fun k => laws_eqInt64S.f k a b) (decide (a = b)) := by
  refine ⟨a.length + 1, fun k hk => ?_⟩
  show laws_eqInt64S.f k a b = _
  unfold laws_eqInt64S.f
  by_cases h : a.length = b.length
  · rw [if_pos (by omega)]
    have := eqInt64S_loop a b h hn a.length k 0 (by omega) (by omega)
    simpa using this
  · rw [if_neg (by omega)]
    have : a ≠ b := fun e => h (by rw [e])
    simp [this]
/-- 1, 2, 3, .. -/
def upFrom (m : Int) : Nat → List Int
  | 0 => []
  | n + 1 => m :: upFrom (m + 1) n
theorem upFrom_length : ∀ (n : Nat) (m : Int), (upFrom m n).length = n
  | 0, _ => rfl
  | n + 1, m => by simp [upFrom, upFrom_length n (m + 1)]
theorem upFrom_get : ∀ (n : Nat) (m : Int) (i : Nat), i < n → (upFrom m n)[i]? = some (m + i)
  | 0, _, _, h => absurd h (by omega)
  | n + 1, m, 0, _ => by simp [upFrom]
  | n + 1, m, i + 1, h => by
    simp only [upFrom, List.getElem?_cons_succ]
    rw [upFrom_get n (m + 1) i (by omega)]
    congr 1
    omega
theorem markInt64S_loop (n : Nat) (m : Int) (hm0 : 0 ≤ m) (hm : m + n ≤ 4611686018427387903) : ∀ (d k i : Nat) (x : List Int), i + d = n → d < k → x.length = n → x.take i = (upFrom m n).take i → laws_markInt64S.l0 k x (m + i) i = some (m + n, upFrom m n) := by
  intro d
  induction d with
  | zero =>
    intro k i x hi hk hx ht
    obtain ⟨k, rfl⟩ : ∃ m, k = m + 1 := ⟨k - 1, by omega⟩
    have : x = upFrom m n := by rw [List.take_of_length_le (by omega), List.take_of_length_le (by rw [upFrom_length]; omega)] at ht; exact ht
    subst this
    simp only [laws_markInt64S.l0]
    rw [if_neg (by omega)]
    have : i = n := by omega
    rw [this]
  | succ d ih =>
    intro k i x hi hk hx ht
    obtain ⟨k, rfl⟩ : ∃ m, k = m + 1 := ⟨k - 1, by omega⟩
    simp only [laws_markInt64S.l0]
    rw [if_pos (by omega), if_pos (by omega), w64s (by omega), Int.toNat_natCast, show wrap64 (m + i + 1) = m + ((i + 1 : Nat) : Int) by rw [w64i (by omega) (by omega)]; omega]
    refine ih k (i + 1) _ (by omega) (by omega) (by simp [hx]) ?_
    apply List.ext_getElem?
    intro j
    have h0 : i < x.length := by omega
    have hj := congrArg (fun z => z[j]?) ht
    simp only [List.getElem?_take] at hj ⊢
    by_cases h1 : j < i
    · rw [if_pos h1, if_pos h1] at hj
      rw [if_pos (by omega), if_pos (by omega), List.getElem?_set_ne (by omega), hj]
    · by_cases h2 : j = i
      · subst h2
        rw [if_pos (by omega), if_pos (by omega), List.getElem?_set_self h0, upFrom_get n m j (by omega)]
      · rw [if_neg (by omega), if_neg (by omega)]
theorem markInt64S_ev {l : List Int} {m : Int} (hm0 : 0 ≤ m) (hl : m + l.length ≤ 4611686018427387903) : Ev (fun k => laws_markInt64S.f k l m) (m + l.length, upFrom m l.length) := by
  refine ⟨l.length + 1, fun k hk => ?_⟩
  show laws_markInt64S.f k l m = _
  unfold laws_markInt64S.f
  have := markInt64S_loop l.length m hm0 hl l.length k 0 l (by omega) (by omega) rfl (by simp)
  simpa using this
theorem heldInt64S_loop (n : Nat) (m : Int) (hm0 : 0 ≤ m) (hm : m + n ≤ 4611686018427387903) : ∀ (d k i : Nat), i + d = n → d < k → laws_heldInt64S.l0 k (upFrom m n) (m + i) i = some (m + n) := by
  intro d
  induction d with
  | zero =>
    intro k i hi hk
    obtain ⟨k, rfl⟩ : ∃ m, k = m + 1 := ⟨k - 1, by omega⟩
    simp only [laws_heldInt64S.l0]
    rw [if_neg (by rw [upFrom_length]; omega)]
    have : i = n := by omega
    rw [this]
  | succ d ih =>
    intro k i hi hk
    obtain ⟨k, rfl⟩ : ∃ m, k = m + 1 := ⟨k - 1, by omega⟩
    have hr : rd (upFrom m n) (i : Int) = m + i := by
      have := upFrom_get n m i (by omega)
      simp [rd, this]
    simp only [laws_heldInt64S.l0]
    rw [if_pos (by rw [upFrom_length]; omega), if_pos (by omega), if_pos hr, w64s (by omega), show wrap64 (m + i + 1) = m + ((i + 1 : Nat) : Int) by rw [w64i (by omega) (by omega)]; omega]
    exact ih k (i + 1) (by omega) (by omega)
theorem heldInt64S_ev {n : Nat} {m : Int} (hm0 : 0 ≤ m) (hl : m + n ≤ 4611686018427387903) : Ev (fun k => laws_heldInt64S.f k (upFrom m n) m) (m + n) := by
  refine ⟨n + 1, fun k hk => ?_⟩
  show laws_heldInt64S.f k (upFrom m n) m = _
  unfold laws_heldInt64S.f
  have := heldInt64S_loop n m hm0 hl n k 0 (by omega) (by omega)
  simpa using this
end Go.Proofs.Ytjegcpagdpjidaa.X
