/- Contracts of functions, and plain facts: what each call answers, and what it leaves as it was. -/
import Derived.Test.YtddlhjhnnmkgaaaDoorTxL
import Derived.Test.YtddlhjhnnmkgaaaDoorHFacts
import Derived.Test.YtddlhjhnnmkgaaaDoorX6
import Derived.Lib.Join
set_option linter.unusedVariables false
set_option linter.unusedSimpArgs false
namespace Go.Proofs.YtddlhjhnnmkgaaaDoor.X
open Go.RowKit Go.Proofs.YtddlhjhnnmkgaaaDoorW.PrintWords Go.Proofs.YtddlhjhnnmkgaaaDoorW.PrintLast Go.Proofs.YtddlhjhnnmkgaaaDoorW.PrintMore
attribute [local go_sem] max2_int min2_int max_two min_two max_three min_three max_four min_four
/-- the text of a list of bytes -/
def bsT (l : List UInt8) : ByteArray := ⟨l.toArray⟩
theorem bsT_data (l : List UInt8) : (bsT l).data.toList = l := rfl
theorem bsT_size (l : List UInt8) : (bsT l).size = l.length := by simp [bsT, ByteArray.size]
theorem bsT_append (a b : List UInt8) : bsT a ++ bsT b = bsT (a ++ b) := by
  apply ByteArray.ext
  rw [ByteArray.data_append]
  simp [bsT]
theorem decDigits_small (u : Nat) : (Lib.decDigits u).length ≤ u + 1 := by
  induction u using Nat.strongRecOn with
  | _ u ih =>
    rw [Lib.decDigits]
    by_cases h : u < 10
    · rw [dif_pos h]; simp
    · rw [dif_neg h, List.length_append]
      have := ih (u / 10) (by omega)
      simp only [List.length_cons, List.length_nil]
      omega
/-- the decimal digits of a number that is not negative -/
def dg (n : Int) : List UInt8 := Lib.decDigits n.toNat
theorem dg_itoa {n : Int} (h : 0 ≤ n) : Lib.itoa n = dg n := by rw [Lib.itoa, if_neg (by omega)]; rfl
theorem digit_eq (d : Nat) (hd : d < 10) : strOfNums [wrap64 (48 + (d : Int)) % 256] = bsT [UInt8.ofNat (48 + d)] := by
  have e : wrap64 (48 + (d : Int)) % 256 = ((48 + d : Nat) : Int) := by unfold wrap64; omega
  rw [e]
  rfl
theorem specDecimal_f (u : Nat) (hu : u ≤ 9223372036854775807) : ∀ k, u < k → u < 1000000000000 → spec_Decimal.f k (u : Int) = some (bsT (Lib.decDigits u)) := by
  induction u using Nat.strongRecOn with
  | _ u ih =>
    intro k hk hb
    obtain ⟨k, rfl⟩ : ∃ m, k = m + 1 := ⟨k - 1, by omega⟩
    have e1 : Int.tmod (u : Int) 10 = ((u % 10 : Nat) : Int) := by rw [Int.tmod_eq_emod_of_nonneg (by omega)]; omega
    have e2 : wrap64 (Int.tdiv (u : Int) 10) = ((u / 10 : Nat) : Int) := by rw [Int.tdiv_eq_ediv_of_nonneg (by omega)]; unfold wrap64; omega
    rw [spec_Decimal.f, e1, e2, digit_eq _ (by omega), Lib.decDigits]
    by_cases h : u < 10
    · rw [if_pos (by omega), dif_pos h]
      rw [show u % 10 = u by omega]
    · rw [if_neg (by omega), dif_neg h, ih (u / 10) (by omega) (by omega) k (by omega) (by omega)]
      simp only [Option.bind_some]
      rw [digit_eq _ (by omega), bsT_size, bsT_size, bsT_append]
      have := decDigits_small (u / 10)
      rw [if_pos (by simp only [List.length_cons, List.length_nil]; omega)]
theorem specDecimal_n {n : Int} (h0 : 0 ≤ n) (h1 : n ≤ 4294967296) {k : Nat} (hk : 4294967296 < k) : spec_Decimal.f k n = some (bsT (dg n)) := by
  obtain ⟨u, rfl⟩ : ∃ u : Nat, n = (u : Int) := ⟨n.toNat, by omega⟩
  exact specDecimal_f u (by omega) k (by omega) (by omega)
/-- a pile's text: behind others, and alone -/
def pT : Bool → List Int → List UInt8
  | _, [] => []
  | f, n :: p => (if f then [] else [44]) ++ dg n ++ pT false p
def cT : Bool → List (List Int) → List UInt8
  | _, [] => []
  | f, p :: l => (if f then [] else [47]) ++ pT true p ++ cT false l
theorem pT_tail (p : List Int) : pT false p = Lib.joinTail [44] (p.map dg) := by
  induction p with
  | nil => rfl
  | cons n p ih => simp [pT, ih, Lib.joinTail]
theorem pT_join (p : List Int) : pT true p = Lib.join (p.map dg) [44] := by
  cases p with
  | nil => rfl
  | cons n p => rw [List.map_cons, Lib.join_cons, ← pT_tail]; simp [pT]
theorem cT_tail (l : List (List Int)) : cT false l = Lib.joinTail [47] (l.map (pT true)) := by
  induction l with
  | nil => rfl
  | cons p l ih => simp [cT, ih, Lib.joinTail]
theorem cT_join (l : List (List Int)) : cT true l = Lib.join (l.map (pT true)) [47] := by
  cases l with
  | nil => rfl
  | cons p l => rw [List.map_cons, Lib.join_cons, ← cT_tail]; simp [cT]
theorem pT_len : ∀ (f : Bool) (p : List Int), (∀ n ∈ p, 0 ≤ n ∧ n ≤ 999) → (pT f p).length ≤ 1001 * p.length
  | _, [], _ => by simp [pT]
  | f, n :: p, h => by
    have h1 := h n (List.mem_cons_self ..)
    have h2 := pT_len false p (fun m hm => h m (List.mem_cons_of_mem _ hm))
    have h3 := decDigits_small n.toNat
    have h4 : (if f then ([] : List UInt8) else [44]).length ≤ 1 := by cases f <;> simp
    simp only [pT, List.length_append, List.length_cons, dg]
    omega
theorem cT_len : ∀ (f : Bool) (l : List (List Int)), (∀ n ∈ l.flatten, 0 ≤ n ∧ n ≤ 999) → (cT f l).length ≤ 1001 * l.flatten.length + l.length
  | _, [], _ => by simp [cT]
  | f, p :: l, h => by
    have h1 := pT_len true p (fun m hm => h m (by simp [hm]))
    have h2 := cT_len false l (fun m hm => h m (by simp only [List.flatten_cons, List.mem_append]; exact .inr hm))
    have h4 : (if f then ([] : List UInt8) else [47]).length ≤ 1 := by cases f <;> simp
    simp only [cT, List.length_append, List.length_cons, List.flatten_cons]
    omega
/-- numbers, a space behind each -/
def spT : List Int → List UInt8
  | [] => []
  | x :: xs => dg x ++ [32] ++ spT xs
theorem spT_append (a b : List Int) : spT (a ++ b) = spT a ++ spT b := by
  induction a with
  | nil => rfl
  | cons x a ih => simp [spT, ih]
theorem spT_len {M : Nat} : ∀ (xs : List Int), (∀ x ∈ xs, 0 ≤ x ∧ x ≤ (M : Int)) → (spT xs).length ≤ (M + 2) * xs.length
  | [], _ => by simp [spT]
  | x :: xs, h => by
    have h1 := h x (List.mem_cons_self ..)
    have h2 := spT_len xs (fun y hy => h y (List.mem_cons_of_mem _ hy))
    have h3 := decDigits_small x.toNat
    simp only [spT, List.length_append, List.length_cons, List.length_nil, dg, Nat.mul_add]
    omega
theorem dg_len {x : Int} {M : Nat} (h : 0 ≤ x ∧ x ≤ (M : Int)) : (dg x).length ≤ M + 1 := by
  have := decDigits_small x.toNat
  unfold dg
  omega
theorem sp_tail (xs : List Int) (x : Int) : Lib.joinTail [32] ((xs ++ [x]).map dg) = [32] ++ spT xs ++ dg x := by
  induction xs with
  | nil => simp [spT, Lib.joinTail]
  | cons y xs ih =>
    rw [List.cons_append, List.map_cons]
    simp only [Lib.joinTail, List.map_cons, List.flatten_cons] at ih ⊢
    rw [ih]
    simp [spT]
theorem sp_join (xs : List Int) (x : Int) : Lib.join ((xs ++ [x]).map dg) [32] = spT xs ++ dg x := by
  cases xs with
  | nil => simp [spT, Lib.join_one]
  | cons y xs =>
    rw [List.cons_append, List.map_cons, Lib.join_cons, sp_tail]
    simp [spT]
/-- a line: numbers, the last one behind them -/
def lineT (xs : List Int) (x : Int) : List UInt8 := spT xs ++ dg x ++ [10]
/-- the text of a house -/
def houseT (f : Nat → Int) (tub every today : Int) : Nat → List UInt8
  | 0 => lineT [tub, every] today
  | k + 1 => houseT f tub every today k ++ lineT (kOf f (25 * k)) (f (25 * k + 24))
theorem Good.nums {f : Nat → Int} {o : Nat} (h : Good f o) : ∀ x ∈ kOf f o, 0 ≤ x ∧ x ≤ ((500 : Nat) : Int) := by
  intro x hx
  unfold kOf at hx
  rw [List.mem_map] at hx
  obtain ⟨j, hj, rfl⟩ := hx
  rw [List.mem_range] at hj
  have := h.le (i := j) (by omega)
  exact ⟨h.1 j (by omega), by omega⟩
theorem lineT_len {xs : List Int} {x : Int} {M : Nat} (h : ∀ y ∈ xs, 0 ≤ y ∧ y ≤ (M : Int)) (hx : 0 ≤ x ∧ x ≤ (M : Int)) : (lineT xs x).length ≤ (M + 2) * xs.length + M + 2 := by
  have h1 := spT_len xs h
  have h2 := dg_len hx
  simp only [lineT, List.length_append, List.length_cons, List.length_nil]
  omega
theorem houseT_len {f : Nat → Int} {n : Nat} {tub every today : Int} (hG : Fine f n) (ht : 0 ≤ tub ∧ tub ≤ 1000) (hv : 1 ≤ every ∧ every ≤ 7) (hd : 0 ≤ today ∧ today ≤ 60) : ∀ k, k ≤ n → (houseT f tub every today k).length ≤ 4000 + 13000 * k
  | 0, _ => by
    have := lineT_len (xs := [tub, every]) (x := today) (M := 1000) (by intro y hy; simp at hy; rcases hy with rfl | rfl <;> omega) (by omega)
    simp only [houseT, List.length_cons, List.length_nil] at this ⊢
    omega
  | k + 1, hk => by
    have h1 := houseT_len hG ht hv hd k (by omega)
    have h2 := lineT_len (hG k (by omega)).nums (x := f (25 * k + 24)) ⟨(hG k (by omega)).1 24 (by decide), (hG k (by omega)).le (i := 24) (by decide)⟩
    rw [kOf_len] at h2
    simp only [houseT, List.length_append]
    omega
theorem implLine_loop (l : List Int) (hl : l.length ≤ 1048576) (hv : ∀ x ∈ l, 0 ≤ x ∧ x ≤ 1000) (T : List UInt8) (hT : Lib.join (l.map dg) [32] = T) (hb : T.length ≤ 1048576) :
    ∀ (d j k : Nat), j + d = l.length → d < k → impl_line.l0 k ((l.take j).map fun n => bsT (dg n)) l (l.length : Int) j = some (bsT (T ++ [10])) := by
  intro d
  induction d with
  | zero =>
    intro j k hj hk
    obtain ⟨k, rfl⟩ : ∃ m, k = m + 1 := ⟨k - 1, by omega⟩
    have e1 : (List.map (fun x : ByteArray => x.data.toList) (List.map (fun n => bsT (dg n)) l)) = l.map dg := by rw [List.map_map]; rfl
    rw [impl_line.l0, if_neg (by omega), List.take_of_length_le (by omega)]
    unfold strings_Join.f
    rw [e1, show (⟨#[32]⟩ : ByteArray).data.toList = [32] from rfl, hT, if_pos ⟨by rw [List.length_map]; exact hl, by omega⟩, Option.bind_some, if_pos (by rw [show (⟨T.toArray⟩ : ByteArray) = bsT T from rfl, bsT_size]; omega)]
    rw [show (⟨T.toArray⟩ : ByteArray) = bsT T from rfl, show (⟨#[10]⟩ : ByteArray) = bsT [10] from rfl, bsT_append]
  | succ d ih =>
    intro j k hj hk
    obtain ⟨k, rfl⟩ : ∃ m, k = m + 1 := ⟨k - 1, by omega⟩
    have hjl : j < l.length := by omega
    have hn := hv l[j] (List.getElem_mem _)
    have hdec : impl_decimal.f (rd l (j : Int)) = some (bsT (dg l[j])) := by
      have e : rd l (j : Int) = l[j] := by simp [rd, List.getElem?_eq_getElem hjl]
      rw [e]
      unfold impl_decimal.f strconv_FormatInt_37.f
      rw [if_pos ⟨rfl, by omega, by omega⟩, Option.bind_some, dg_itoa hn.1]
      rfl
    have hw : wrap64 ((j : Int) + 1) = ((j + 1 : Nat) : Int) := by unfold wrap64; omega
    rw [impl_line.l0, if_pos (by omega), if_pos (by omega), if_pos (by omega), hdec, Option.bind_some, if_pos (by rw [List.length_map, List.length_take]; omega), hw]
    have e2 : (l.take j).map (fun n => bsT (dg n)) ++ [bsT (dg l[j])] = (l.take (j + 1)).map fun n => bsT (dg n) := by
      rw [List.take_add_one, List.getElem?_eq_getElem hjl, List.map_append]
      rfl
    rw [e2]
    exact ih (j + 1) k (by omega) (by omega)
theorem implLine_f (xs : List Int) (x : Int) (hl : xs.length ≤ 1000) (hv : ∀ y ∈ xs ++ [x], 0 ≤ y ∧ y ≤ 1000) : impl_line.f 2000 (xs ++ [x]) = some (bsT (lineT xs x)) := by
  have h1 := spT_len (M := 1000) xs (fun y hy => hv y (by simp [hy]))
  have h2 := dg_len (M := 1000) (hv x (by simp))
  have := implLine_loop (xs ++ [x]) (by rw [List.length_append, List.length_cons, List.length_nil]; omega) hv _ (sp_join xs x) (by rw [List.length_append]; omega) (xs ++ [x]).length 0 2000 (by omega) (by rw [List.length_append, List.length_cons, List.length_nil]; omega)
  unfold impl_line.f
  simpa [lineT] using this
end Go.Proofs.YtddlhjhnnmkgaaaDoor.X
