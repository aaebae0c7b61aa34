/- Contracts of functions, and plain facts: what each call answers, and what it leaves as it was. -/
import Derived.Test.YtkjligoamechkaaDoorX7
import Derived.Test.YtkjligoamechkaaDoorX8
import Derived.Test.YtkjligoamechkaaDoorTx
import Derived.Test.YtkjligoamechkaaDoorTxC
import Derived.Test.YtkjligoamechkaaDoorFD2
import Derived.Lib.Join
set_option linter.unusedVariables false
set_option linter.unusedSimpArgs false
namespace Go.Proofs.YtkjligoamechkaaDoor.X
open Go.RowKit Go.Proofs.YtkjligoamechkaaDoorW.PrintWords Go.Proofs.YtkjligoamechkaaDoorW.PrintLast Go.Proofs.YtkjligoamechkaaDoorW.PrintMore
attribute [local go_sem] max2_int min2_int max_two min_two max_three min_three max_four min_four
/-- the text of a list of bytes -/
def bsT (l : List UInt8) : ByteArray := ⟨l.toArray⟩
theorem bsT_data (l : List UInt8) : (bsT l).data.toList = l := rfl
theorem bsT_size (l : List UInt8) : (bsT l).size = l.length := by simp [bsT, ByteArray.size]
theorem bsT_append (a b : List UInt8) : bsT a ++ bsT b = bsT (a ++ b) := by
  apply ByteArray.ext
  rw [ByteArray.data_append]
  simp [bsT]
theorem decDigits_small (u : Nat) : (Lib.decDigits u).length ≤ u + 1 := by
  induction u using Nat.strongRecOn with
  | _ u ih =>
    rw [Lib.decDigits]
    by_cases h : u < 10
    · rw [dif_pos h]; simp
    · rw [dif_neg h, List.length_append]
      have := ih (u / 10) (by omega)
      simp only [List.length_cons, List.length_nil]
      omega
/-- the decimal digits of a number that is not negative -/
def dg (n : Int) : List UInt8 := Lib.decDigits n.toNat
theorem dg_itoa {n : Int} (h : 0 ≤ n) : Lib.itoa n = dg n := by rw [Lib.itoa, if_neg (by omega)]; rfl
theorem digit_eq (d : Nat) (hd : d < 10) : strOfNums [wrap64 (48 + (d : Int)) % 256] = bsT [UInt8.ofNat (48 + d)] := by
  have e : wrap64 (48 + (d : Int)) % 256 = ((48 + d : Nat) : Int) := by unfold wrap64; omega
  rw [e]
  rfl
theorem specDecimal_f (u : Nat) (hu : u ≤ 9223372036854775807) : ∀ k, u < k → u < 1000000000000 → spec_Decimal.f k (u : Int) = some (bsT (Lib.decDigits u)) := by
  induction u using Nat.strongRecOn with
  | _ u ih =>
    intro k hk hb
    obtain ⟨k, rfl⟩ : ∃ m, k = m + 1 := ⟨k - 1, by omega⟩
    have e1 : Int.tmod (u : Int) 10 = ((u % 10 : Nat) : Int) := by rw [Int.tmod_eq_emod_of_nonneg (by omega)]; omega
    have e2 : wrap64 (Int.tdiv (u : Int) 10) = ((u / 10 : Nat) : Int) := by rw [Int.tdiv_eq_ediv_of_nonneg (by omega)]; unfold wrap64; omega
    rw [spec_Decimal.f, e1, e2, digit_eq _ (by omega), Lib.decDigits]
    by_cases h : u < 10
    · rw [if_pos (by omega), dif_pos h]
      rw [show u % 10 = u by omega]
    · rw [if_neg (by omega), dif_neg h, ih (u / 10) (by omega) (by omega) k (by omega) (by omega)]
      simp only [Option.bind_some]
      rw [digit_eq _ (by omega), bsT_size, bsT_size, bsT_append]
      have := decDigits_small (u / 10)
      rw [if_pos (by simp only [List.length_cons, List.length_nil]; omega)]
theorem specDecimal_n {n : Int} (h0 : 0 ≤ n) (h1 : n ≤ 4294967296) {k : Nat} (hk : 4294967296 < k) : spec_Decimal.f k n = some (bsT (dg n)) := by
  obtain ⟨u, rfl⟩ : ∃ u : Nat, n = (u : Int) := ⟨n.toNat, by omega⟩
  exact specDecimal_f u (by omega) k (by omega) (by omega)
/-- a pile's text: behind others, and alone -/
def pT : Bool → List Int → List UInt8
  | _, [] => []
  | f, n :: p => (if f then [] else [44]) ++ dg n ++ pT false p
def cT : Bool → List (List Int) → List UInt8
  | _, [] => []
  | f, p :: l => (if f then [] else [47]) ++ pT true p ++ cT false l
theorem pT_tail (p : List Int) : pT false p = Lib.joinTail [44] (p.map dg) := by
  induction p with
  | nil => rfl
  | cons n p ih => simp [pT, ih, Lib.joinTail]
theorem pT_join (p : List Int) : pT true p = Lib.join (p.map dg) [44] := by
  cases p with
  | nil => rfl
  | cons n p => rw [List.map_cons, Lib.join_cons, ← pT_tail]; simp [pT]
theorem cT_tail (l : List (List Int)) : cT false l = Lib.joinTail [47] (l.map (pT true)) := by
  induction l with
  | nil => rfl
  | cons p l ih => simp [cT, ih, Lib.joinTail]
theorem cT_join (l : List (List Int)) : cT true l = Lib.join (l.map (pT true)) [47] := by
  cases l with
  | nil => rfl
  | cons p l => rw [List.map_cons, Lib.join_cons, ← cT_tail]; simp [cT]
theorem pT_len : ∀ (f : Bool) (p : List Int), (∀ n ∈ p, 0 ≤ n ∧ n ≤ 999) → (pT f p).length ≤ 1001 * p.length
  | _, [], _ => by simp [pT]
  | f, n :: p, h => by
    have h1 := h n (List.mem_cons_self ..)
    have h2 := pT_len false p (fun m hm => h m (List.mem_cons_of_mem _ hm))
    have h3 := decDigits_small n.toNat
    have h4 : (if f then ([] : List UInt8) else [44]).length ≤ 1 := by cases f <;> simp
    simp only [pT, List.length_append, List.length_cons, dg]
    omega
theorem cT_len : ∀ (f : Bool) (l : List (List Int)), (∀ n ∈ l.flatten, 0 ≤ n ∧ n ≤ 999) → (cT f l).length ≤ 1001 * l.flatten.length + l.length
  | _, [], _ => by simp [cT]
  | f, p :: l, h => by
    have h1 := pT_len true p (fun m hm => h m (by simp [hm]))
    have h2 := cT_len false l (fun m hm => h m (by simp only [List.flatten_cons, List.mem_append]; exact .inr hm))
    have h4 : (if f then ([] : List UInt8) else [47]).length ≤ 1 := by cases f <;> simp
    simp only [cT, List.length_append, List.length_cons, List.flatten_cons]
    omega
theorem specText_in (l : List (List Int)) (hl : l.length ≤ 1048576) (hv : ∀ n ∈ l.flatten, 0 ≤ n ∧ n ≤ 999) (i : Nat) (hi : i < l.length) (hr : l[i].length ≤ 1048576) (m : Nat) (hm : 4294967296 < m) :
    ∀ (d j : Nat) (x : List UInt8), j + d = l[i].length → (x ++ pT (j == 0) (l[i].drop j)).length ≤ 9223372036854775807 →
      spec_l04Text.l1 (m + d + 1) l (bsT x) i j = spec_l04Text.l0 m l (bsT (x ++ pT (j == 0) (l[i].drop j))) ((i + 1 : Nat) : Int) := by
  intro d
  induction d with
  | zero =>
    intro j x hj hx
    rw [spec_l04Text.l1, if_pos (by omega), if_pos (by omega), rd_L1_eq hi, if_neg (by omega), w64s (by omega), List.drop_eq_nil_of_le (by omega), pT, List.append_nil]
  | succ d ih =>
    intro j x hj hx
    have hjl : j < l[i].length := by omega
    have hn := hv l[i][j] (List.mem_flatten.2 ⟨l[i], List.getElem_mem _, List.getElem_mem _⟩)
    have hdr : l[i].drop j = l[i][j] :: l[i].drop (j + 1) := List.drop_eq_getElem_cons hjl
    rw [hdr, pT] at hx ⊢
    have hdec : spec_Decimal.f (m + d + 1) (rd l[i] (j : Int)) = some (bsT (dg l[i][j])) := by
      rw [rd_eq hjl]
      exact specDecimal_n hn.1 (by omega) (by omega)
    have e44 : (⟨#[44]⟩ : ByteArray) = bsT [44] := rfl
    have hnext : ((j + 1 == 0 : Bool)) = false := by simp
    have hih := ih (j + 1)
    rw [hnext] at hih
    rw [show m + (d + 1) + 1 = (m + d + 1) + 1 by omega, spec_l04Text.l1, if_pos (by omega), if_pos (by omega), rd_L1_eq hi, if_pos (by omega)]
    by_cases h0 : j = 0
    · subst h0
      simp only [beq_self_eq_true, if_true, List.nil_append, ← List.append_assoc] at hx ⊢
      rw [if_neg (by omega), if_pos (by omega), hdec, Option.bind_some, bsT_size, bsT_size, bsT_append, if_pos (by simp only [List.length_append] at hx; omega), w64s (by omega)]
      exact hih _ (by omega) (by simpa using hx)
    · have hb : (j == 0) = false := by simp [h0]
      rw [hb] at hx ⊢
      simp only [Bool.false_eq_true, if_false, ← List.append_assoc] at hx ⊢
      simp only [List.length_append, List.length_cons, List.length_nil] at hx
      rw [if_pos (by omega), bsT_size, if_pos (by omega), if_pos (by omega), hdec, Option.bind_some, e44, bsT_append, bsT_size, bsT_size, bsT_append, if_pos (by simp only [List.length_append, List.length_cons, List.length_nil]; omega), w64s (by omega)]
      exact hih _ (by omega) (by simp only [List.length_append, List.length_cons, List.length_nil]; omega)
theorem specText_out (l : List (List Int)) (hl : l.length ≤ 1048576) (hr : ∀ p ∈ l, p.length ≤ 8) (hv : ∀ n ∈ l.flatten, 0 ≤ n ∧ n ≤ 999) :
    ∀ (d i k : Nat) (x : List UInt8), i + d = l.length → d * 20 + 4294967300 ≤ k → (x ++ cT (i == 0) (l.drop i)).length ≤ 9223372036854775807 →
      spec_l04Text.l0 k l (bsT x) i = some (bsT (x ++ cT (i == 0) (l.drop i))) := by
  intro d
  induction d with
  | zero =>
    intro i k x hi hk hx
    obtain ⟨k, rfl⟩ : ∃ m, k = m + 1 := ⟨k - 1, by omega⟩
    rw [spec_l04Text.l0, if_neg (by omega), List.drop_eq_nil_of_le (by omega), cT, List.append_nil]
  | succ d ih =>
    intro i k x hi hk hx
    rw [Nat.succ_mul] at hk
    have hil : i < l.length := by omega
    have hp := hr l[i] (List.getElem_mem _)
    have hdr : l.drop i = l[i] :: l.drop (i + 1) := List.drop_eq_getElem_cons hil
    obtain ⟨m, rfl⟩ : ∃ m, k = m + l[i].length + 1 + 1 + 1 := ⟨k - l[i].length - 3, by omega⟩
    rw [hdr, cT] at hx ⊢
    have e47 : (⟨#[47]⟩ : ByteArray) = bsT [47] := rfl
    have hnext : ((i + 1 == 0 : Bool)) = false := by simp
    have hih := ih (i + 1) m
    rw [hnext] at hih
    have hin := specText_in l hl hv i hil (by omega) m (by omega) l[i].length 0
    simp only [beq_self_eq_true, List.drop_zero] at hin
    rw [spec_l04Text.l0, if_pos (by omega)]
    by_cases h0 : i = 0
    · subst h0
      simp only [beq_self_eq_true, if_true, List.nil_append, ← List.append_assoc] at hx ⊢
      rw [if_neg (by omega), spec_l04Text.j1]
      have hin2 := hin x (by omega) (by simp only [List.length_append] at hx ⊢; omega)
      rw [show ((0 : Nat) : Int) = 0 from rfl] at hin2 ⊢
      rw [hin2]
      exact hih _ (by omega) (by omega) (by simpa using hx)
    · have hb : (i == 0) = false := by simp [h0]
      rw [hb] at hx ⊢
      simp only [Bool.false_eq_true, if_false, ← List.append_assoc] at hx ⊢
      simp only [List.length_append, List.length_cons, List.length_nil] at hx
      rw [if_pos (by omega), bsT_size, if_pos (by omega), e47, bsT_append, spec_l04Text.j1]
      have hin2 := hin (x ++ [47]) (by omega) (by simp only [List.length_append, List.length_cons, List.length_nil] at hx ⊢; omega)
      rw [show ((0 : Nat) : Int) = 0 from rfl] at hin2
      rw [hin2]
      exact hih _ (by omega) (by omega) (by simp only [List.length_append, List.length_cons, List.length_nil]; omega)
theorem implText_in (l : List (List Int)) (p : List Int) (hv : ∀ n ∈ p, 0 ≤ n ∧ n ≤ 999) (hr : p.length ≤ 1048576) (i : Nat) (hi : i < 1048576) (x3 : List ByteArray) (hx3 : x3.length ≤ 1048576) (m : Nat) :
    ∀ (d j : Nat), j + d = p.length →
      impl_CupboardText.l1 (m + d + 1) x3 ((p.take j).map fun n => bsT (dg n)) l (l.length : Int) i p (p.length : Int) j = impl_CupboardText.l0 m (x3 ++ [bsT (pT true p)]) l (l.length : Int) ((i + 1 : Nat) : Int) := by
  intro d
  induction d with
  | zero =>
    intro j hj
    have hpl := pT_len true p hv
    have e1 : (List.map (fun x : ByteArray => x.data.toList) (List.map (fun n => bsT (dg n)) p)) = p.map dg := by rw [List.map_map]; rfl
    rw [impl_CupboardText.l1, if_neg (by omega), List.take_of_length_le (by omega)]
    unfold strings_Join.f
    rw [e1, show (⟨#[44]⟩ : ByteArray).data.toList = [44] from rfl, ← pT_join, if_pos ⟨by rw [List.length_map]; exact hr, by omega⟩, Option.bind_some, if_pos (by omega), w64s (by omega)]
    rfl
  | succ d ih =>
    intro j hj
    have hjl : j < p.length := by omega
    have hn := hv p[j] (List.getElem_mem _)
    have hdec : impl_decimal.f (rd p (j : Int)) = some (bsT (dg p[j])) := by
      rw [rd_eq hjl]
      unfold impl_decimal.f strconv_FormatInt_30.f
      rw [if_pos ⟨rfl, by omega, by omega⟩, Option.bind_some, dg_itoa hn.1]
      rfl
    rw [show m + (d + 1) + 1 = (m + d + 1) + 1 by omega, impl_CupboardText.l1, if_pos (by omega), if_pos (by omega), if_pos (by omega), hdec, Option.bind_some, if_pos (by rw [List.length_map, List.length_take]; omega), w64s (by omega)]
    have e2 : (p.take j).map (fun n => bsT (dg n)) ++ [bsT (dg p[j])] = (p.take (j + 1)).map fun n => bsT (dg n) := by
      rw [List.take_add_one, List.getElem?_eq_getElem hjl, List.map_append]
      rfl
    rw [e2]
    exact ih (j + 1) (by omega)
theorem implText_out (l : List (List Int)) (hl : l.length ≤ 1048575) (hr : ∀ p ∈ l, p.length ≤ 8) (hf : l.flatten.length ≤ 1048576) (hv : ∀ n ∈ l.flatten, 0 ≤ n ∧ n ≤ 999) :
    ∀ (d i k : Nat), i + d = l.length → d * 20 + 2 ≤ k →
      impl_CupboardText.l0 k ((l.take i).map fun p => bsT (pT true p)) l (l.length : Int) i = some (bsT (cT true l)) := by
  intro d
  induction d with
  | zero =>
    intro i k hi hk
    obtain ⟨k, rfl⟩ : ∃ m, k = m + 1 := ⟨k - 1, by omega⟩
    have hcl := cT_len true l hv
    have e1 : (List.map (fun x : ByteArray => x.data.toList) (List.map (fun p => bsT (pT true p)) l)) = l.map (pT true) := by rw [List.map_map]; rfl
    rw [impl_CupboardText.l0, if_neg (by omega), List.take_of_length_le (by omega)]
    unfold strings_Join.f
    rw [e1, show (⟨#[47]⟩ : ByteArray).data.toList = [47] from rfl, ← cT_join, if_pos ⟨by rw [List.length_map]; omega, by omega⟩, Option.bind_some]
    rfl
  | succ d ih =>
    intro i k hi hk
    rw [Nat.succ_mul] at hk
    have hil : i < l.length := by omega
    have hp := hr l[i] (List.getElem_mem _)
    obtain ⟨m, rfl⟩ : ∃ m, k = m + l[i].length + 1 + 1 := ⟨k - l[i].length - 2, by omega⟩
    have hin := implText_in l l[i] (fun n hn => hv n (List.mem_flatten.2 ⟨l[i], List.getElem_mem _, hn⟩)) (by omega) i (by omega) ((l.take i).map fun p => bsT (pT true p)) (by rw [List.length_map, List.length_take]; omega) m l[i].length 0 (by omega)
    rw [List.take_zero, List.map_nil] at hin
    rw [impl_CupboardText.l0, if_pos (by omega), if_pos (by omega), if_pos (by omega), rd_L1_eq hil]
    rw [show ((0 : Nat) : Int) = 0 from rfl] at hin
    rw [hin]
    have e2 : (l.take i).map (fun p => bsT (pT true p)) ++ [bsT (pT true l[i])] = (l.take (i + 1)).map fun p => bsT (pT true p) := by
      rw [List.take_add_one, List.getElem?_eq_getElem hil, List.map_append]
      rfl
    rw [e2]
    exact ih (i + 1) m (by omega) (by omega)
theorem good0_parts {l : List (List Int)} (h : good0 l 0 = true) : l.length ≤ 6 ∧ (∀ p ∈ l, p.length ≤ 8) ∧ ∀ n ∈ l.flatten, 0 ≤ n ∧ n ≤ 999 := by
  simp only [good0, tailB, shortB, inR, Bool.and_eq_true, decide_eq_true_eq, List.all_eq_true, List.drop_zero] at h
  exact ⟨h.2.2.1, h.2.1, h.1⟩
theorem lawCt {l : List (List Int)} (hm : l.length ≤ 9223372036854775807) (hr : ∀ p ∈ l, p.length ≤ 9223372036854775807) : laws_FnExactCupboardText.f 5000000000 l = some true := by
  obtain ⟨r, h1, h2⟩ := szSS_f hm hr
  unfold laws_FnExactCupboardText.f
  rw [h1 _ (by omega), Option.bind_some]
  by_cases h0 : r < 0
  · rw [if_pos h0]
  · obtain ⟨hl, hf⟩ := h2 (by omega)
    rw [if_neg h0, toSS_f hl hf (by omega), Option.bind_some]
    have hs : ∃ T, spec_CupboardText.f 5000000000 l = some T ∧ impl_CupboardText.f 5000000000 l = some T := by
      unfold spec_CupboardText.f impl_CupboardText.f
      rw [specCup_f hl hf (by omega), implCup_f hf, Option.bind_some, Option.bind_some]
      cases hg : good0 l 0
      · exact ⟨_, rfl, rfl⟩
      · obtain ⟨g1, g2, g3⟩ := good0_parts hg
        have hcl := cT_len true l g3
        refine ⟨bsT (cT true l), ?_, ?_⟩
        · rw [if_pos rfl]
          unfold spec_l04Text.f
          have := specText_out l (by omega) g2 g3 l.length 0 5000000000 [] (by omega) (by omega) (by simp only [beq_self_eq_true, List.drop_zero, List.nil_append]; omega)
          simp only [beq_self_eq_true, List.drop_zero, List.nil_append] at this
          rw [show (⟨#[]⟩ : ByteArray) = bsT [] from rfl, show (0 : Int) = ((0 : Nat) : Int) from rfl, this]
          rfl
        · rw [if_pos rfl]
          have := implText_out l (by omega) g2 hf g3 l.length 0 5000000000 (by omega) (by omega)
          rw [List.take_zero, List.map_nil] at this
          exact this
    obtain ⟨T, hs1, hs2⟩ := hs
    rw [hs1, Option.bind_some, Option.bind_some, hs2, Option.bind_some, if_pos rfl, Option.bind_some, eqSS_f hl hf (by omega), Option.bind_some, if_pos rfl]
end Go.Proofs.YtkjligoamechkaaDoor.X
