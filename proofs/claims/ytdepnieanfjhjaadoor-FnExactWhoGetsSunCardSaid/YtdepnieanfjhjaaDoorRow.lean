/- Contracts of functions, and plain facts: what each call answers, and what it leaves as it was. -/
import Derived.Test.YtdepnieanfjhjaaDoorSwg
import Derived.Test.YtdepnieanfjhjaaDoorX5
import Derived.Test.YtdepnieanfjhjaaDoorX8
import Derived.Test.YtdepnieanfjhjaaDoorX9
import Derived.Test.YtdepnieanfjhjaaDoorX11
import Derived.Test.YtdepnieanfjhjaaDoorX12
import Derived.Test.YtdepnieanfjhjaaDoorX13
set_option linter.unusedVariables false
set_option linter.unusedSimpArgs false
namespace Go.Proofs.YtdepnieanfjhjaaDoor.X
open Go.RowKit Go.Proofs.YtdepnieanfjhjaaDoorW.PrintWords Go.Proofs.YtdepnieanfjhjaaDoorW.PrintLast Go.Proofs.YtdepnieanfjhjaaDoorW.PrintMore
attribute [local go_sem] max2_int min2_int max_two min_two max_three min_three max_four min_four
theorem eqInt64S_loop (a b : List Int) (hl : a.length = b.length) (hn : a.length ≤ 4611686018427387903) : ∀ (d k i : Nat), i + d = a.length → d < k → laws_eqInt64S.l0 k a b i = some (decide (a.drop i = b.drop i)) := by
  intro d
  induction d with
  | zero =>
    intro k i hi hk
    obtain ⟨k, rfl⟩ : ∃ m, k = m + 1 := ⟨k - 1, by omega⟩
    simp only [laws_eqInt64S.l0]
    rw [if_neg (by omega), List.drop_eq_nil_of_le (by omega), List.drop_eq_nil_of_le (by omega)]
    rfl
  | succ d ih =>
    intro k i hi hk
    obtain ⟨k, rfl⟩ : ∃ m, k = m + 1 := ⟨k - 1, by omega⟩
    simp only [laws_eqInt64S.l0]
    rw [if_pos (by omega), if_pos (by omega), if_pos (by omega), rd_eq (by omega), rd_eq (by omega), w64s (by omega)]
    have ha : a.drop i = a[i] :: a.drop (i + 1) := List.drop_eq_getElem_cons (by omega)
    have hb : b.drop i = b[i] :: b.drop (i + 1) := List.drop_eq_getElem_cons (by omega)
    rw [ha, hb]
    split
    · rename_i h
      rw [ih k (i + 1) (by omega) (by omega)]
      simp only [List.cons.injEq, h, true_and]
    · rename_i h
      simp only [List.cons.injEq, h, false_and, decide_false]
theorem eqInt64S_f {l : List Int} (hl : l.length ≤ 4294967296) {k : Nat} (hk : l.length < k) : laws_eqInt64S.f k l l = some true := by
  unfold laws_eqInt64S.f
  rw [if_pos rfl]
  have := eqInt64S_loop l l rfl (by omega) l.length k 0 (by omega) hk
  simpa using this
def seqL (a : Int) (n : Nat) : List Int := (List.range n).map fun j : Nat => a + (j : Int)
theorem seqL_length (a : Int) (n : Nat) : (seqL a n).length = n := by simp [seqL]
theorem markS_loop (a : Int) (n : Nat) (h0 : 0 ≤ a) (h1 : a ≤ 4294967296) (hn : n ≤ 4294967296) : ∀ (d k i : Nat) (x : List Int), i + d = n → d < k → x.length = n → x.take i = seqL a i → laws_markInt64S.l0 k x (a + i) i = some (a + n, seqL a n) := by
  intro d
  induction d with
  | zero =>
    intro k i x hi hk hx ht
    obtain ⟨k, rfl⟩ : ∃ m, k = m + 1 := ⟨k - 1, by omega⟩
    obtain rfl : i = n := by omega
    rw [List.take_of_length_le (by omega)] at ht
    simp only [laws_markInt64S.l0]
    rw [if_neg (by omega), ht]
  | succ d ih =>
    intro k i x hi hk hx ht
    obtain ⟨k, rfl⟩ : ∃ m, k = m + 1 := ⟨k - 1, by omega⟩
    simp only [laws_markInt64S.l0]
    have e1 : wrap64 (a + (i : Int) + 1) = a + ((i + 1 : Nat) : Int) := by unfold wrap64; omega
    have e2 : wrap64 ((i : Int) + 1) = ((i + 1 : Nat) : Int) := by unfold wrap64; omega
    rw [if_pos (by omega), if_pos (by omega), e1, e2, Int.toNat_natCast]
    refine ih k (i + 1) _ (by omega) (by omega) (by simp [hx]) ?_
    have e3 : seqL a (i + 1) = seqL a i ++ [a + (i : Int)] := by simp [seqL, List.range_succ]
    rw [e3, ← ht, List.take_add_one, List.getElem?_set_self (by omega), List.take_set_of_le (by omega)]
    rfl
theorem markS_f (a : Int) (p : List Int) (h0 : 0 ≤ a) (h1 : a ≤ 4294967296) (hn : p.length ≤ 4294967296) {k : Nat} (hk : p.length < k) : laws_markInt64S.f k p a = some (a + p.length, seqL a p.length) := by
  unfold laws_markInt64S.f
  have := markS_loop a p.length h0 h1 hn p.length k 0 p (by omega) hk rfl (by simp [seqL])
  simpa using this
theorem seqL_rd {a : Int} {n i : Nat} (h : i < n) : rd (seqL a n) (i : Int) = a + (i : Int) := by simp [rd, seqL, h]
theorem heldS_loop (a : Int) (n : Nat) (h0 : 0 ≤ a) (h1 : a ≤ 4294967296) (hn : n ≤ 4294967296) : ∀ (d k i : Nat), i + d = n → d < k → laws_heldInt64S.l0 k (seqL a n) (a + i) i = some (a + n) := by
  intro d
  induction d with
  | zero =>
    intro k i hi hk
    obtain ⟨k, rfl⟩ : ∃ m, k = m + 1 := ⟨k - 1, by omega⟩
    have hlen := seqL_length a n
    simp only [laws_heldInt64S.l0]
    rw [if_neg (by omega)]
    congr 2
    omega
  | succ d ih =>
    intro k i hi hk
    obtain ⟨k, rfl⟩ : ∃ m, k = m + 1 := ⟨k - 1, by omega⟩
    have hlen := seqL_length a n
    have e1 : wrap64 (a + (i : Int) + 1) = a + ((i + 1 : Nat) : Int) := by unfold wrap64; omega
    simp only [laws_heldInt64S.l0]
    rw [if_pos (by omega), if_pos (by omega), seqL_rd (by omega), if_pos rfl, e1, w64s (by omega)]
    exact ih k (i + 1) (by omega) (by omega)
theorem heldS_f (a : Int) (n : Nat) (h0 : 0 ≤ a) (h1 : a ≤ 4294967296) (hn : n ≤ 4294967296) {k : Nat} (hk : n < k) : laws_heldInt64S.f k (seqL a n) a = some (a + n) := by
  unfold laws_heldInt64S.f
  have := heldS_loop a n h0 h1 hn n k 0 (by omega) hk
  simpa using this
theorem eqI_calls (v v' : Value) (l : List Int) (b b' : Nat) (hl : l.length ≤ 1048576) (W : World) (h : Ir W b v l) (h' : Ir W b' v' l) :
    Calls Tryd.prog 9 #[v, v'] W fun e w' => e = .returned (.bool true) ∧ Below W.heap.size W w' := by
  obtain ⟨A, c, rfl, hc, hC⟩ := Kd.R_reads h.row
  obtain ⟨A', c', rfl, hc', hC'⟩ := Kd.R_reads h'.row
  exact (laws_eqInt64S.calls (l.length + 1) A c l A' c' l true W hC hc hC' hc' (eqInt64S_f (by omega) (by omega))).mono (by
    rintro e w' ⟨rfl, hd⟩
    exact ⟨rfl, hd.below⟩)
theorem heldI_calls (v : Value) (a : Int) (n b : Nat) (h0 : 0 ≤ a) (h1 : a ≤ 4294967296) (hn : n ≤ 1048576) (W : World) (h : Ir W b v (seqL a n)) :
    Calls Tryd.prog 13 #[v, .int .i64 a] W fun e w' => e = .returned (.int .i64 (a + n)) ∧ Below W.heap.size W w' := by
  obtain ⟨A, c, rfl, hc, hC⟩ := Kd.R_reads h.row
  exact (laws_heldInt64S.calls (n + 1) A c (seqL a n) a (a + n) W hC hc (heldS_f a n h0 h1 (by omega) (by omega))).mono (by
    rintro e w' ⟨rfl, hd⟩
    exact ⟨rfl, hd.below⟩)
theorem markI_calls (v : Value) (l : List Int) (a : Int) (h0 : 0 ≤ a) (h1 : a ≤ 4294967296) (hl : l.length ≤ 1048576) (w0 W : World) (hB : Below w0.heap.size w0 W) (h : Ir W w0.heap.size v l) :
    Calls Tryd.prog 12 #[v, .int .i64 a] W fun e w' => e = .returned (.int .i64 (a + l.length)) ∧ Ir w' w0.heap.size v (seqL a l.length) ∧ Below w0.heap.size w0 w' ∧ Kept W w' (fun k => v.ownBlock = some k) :=
  (laws_markInt64S.calls (l.length + 1) (fun k => v.ownBlock = some k) v l a (a + l.length) (seqL a l.length) w0 W hB h.row (markS_f a l h0 h1 (by omega) (by omega))).mono (by
    rintro e w' ⟨rfl, hR, hb, hk⟩
    exact ⟨rfl, Ir.of_row hR, hb, hk⟩)
/-- things as the law takes them, and as the program takes them -/
def cvW (l : List S56) : List S52 := l.map fun x => ⟨x.f0, x.f1⟩
theorem cvW_len (l : List S56) : (cvW l).length = l.length := by simp [cvW]
theorem toWashS_loop (l : List S56) (hl : l.length ≤ 4294967296) : ∀ (d k i : Nat) (x : List S52), i + d = l.length → d < k → x.length = l.length → x.take i = (cvW l).take i → laws_toWashS.l0 k l x i = some (cvW l) := by
  intro d
  induction d with
  | zero =>
    intro k i x hi hk hx ht
    obtain ⟨k, rfl⟩ : ∃ m, k = m + 1 := ⟨k - 1, by omega⟩
    have : x = cvW l := by rw [List.take_of_length_le (by omega), List.take_of_length_le (by rw [cvW_len]; omega)] at ht; exact ht
    subst this
    rw [laws_toWashS.l0, if_neg (by omega)]
  | succ d ih =>
    intro k i x hi hk hx ht
    obtain ⟨k, rfl⟩ : ∃ m, k = m + 1 := ⟨k - 1, by omega⟩
    rw [laws_toWashS.l0, if_pos (by omega), if_pos (by omega)]
    unfold laws_toWash.f
    rw [Option.bind_some, if_pos (by omega), w64s (by omega), Int.toNat_natCast]
    refine ih k (i + 1) _ (by omega) (by omega) (by simp [hx]) ?_
    have hil : i < l.length := by omega
    have he : (⟨(rd_T56 l (i : Int)).f0, (rd_T56 l (i : Int)).f1⟩ : S52) = (cvW l)[i]'(by rw [cvW_len]; omega) := by
      simp [rd_T56, cvW, List.getD_eq_getElem?_getD, List.getElem?_eq_getElem hil]
    rw [he]
    apply List.ext_getElem?
    intro j
    have h0 : i < x.length := by omega
    have hj := congrArg (fun z => z[j]?) ht
    simp only [List.getElem?_take] at hj ⊢
    by_cases h1 : j < i
    · rw [if_pos h1, if_pos h1] at hj
      rw [if_pos (by omega), if_pos (by omega), List.getElem?_set_ne (by omega), hj]
    · by_cases h2 : j = i
      · subst h2
        rw [if_pos (by omega), if_pos (by omega), List.getElem?_set_self h0, List.getElem?_eq_getElem (by rw [cvW_len]; omega)]
      · rw [if_neg (by omega), if_neg (by omega)]
theorem toWashS_f {l : List S56} (hl : l.length ≤ 4294967296) : laws_toWashS.f (l.length + 1) l = some (cvW l) := by
  unfold laws_toWashS.f
  rw [if_pos (by omega), if_pos (by omega)]
  exact toWashS_loop l hl l.length (l.length + 1) 0 _ (by omega) (by omega) (by simp) (by simp)
theorem eqWashS_loop (a : List S52) (hn : a.length ≤ 4611686018427387903) : ∀ (d k i : Nat), i + d = a.length → d < k → laws_eqWashS.l0 k a a i = some true := by
  intro d
  induction d with
  | zero =>
    intro k i hi hk
    obtain ⟨k, rfl⟩ : ∃ m, k = m + 1 := ⟨k - 1, by omega⟩
    rw [laws_eqWashS.l0, if_neg (by omega)]
  | succ d ih =>
    intro k i hi hk
    obtain ⟨k, rfl⟩ : ∃ m, k = m + 1 := ⟨k - 1, by omega⟩
    rw [laws_eqWashS.l0, if_pos (by omega), if_pos (by omega), if_pos (by omega)]
    unfold laws_eqWash.f
    rw [if_pos rfl, if_pos rfl, Option.bind_some, if_pos rfl, w64s (by omega)]
    exact ih k (i + 1) (by omega) (by omega)
theorem eqWashS_f (a : List S52) (hn : a.length ≤ 4294967296) : laws_eqWashS.f (a.length + 1) a a = some true := by
  unfold laws_eqWashS.f
  rw [if_pos rfl]
  exact eqWashS_loop a (by omega) a.length (a.length + 1) 0 (by omega) (by omega)
theorem markW_loop (n : Nat) (hn : n ≤ 1048576) : ∀ (d k i : Nat) (x : List S52), i + d = n → d < k → x.length = n → ∃ l', laws_markWashS.l0 k x (1 + 2 * (i : Int)) i = some (1 + 2 * (n : Int), l') := by
  intro d
  induction d with
  | zero =>
    intro k i x hi hk hx
    obtain ⟨k, rfl⟩ : ∃ m, k = m + 1 := ⟨k - 1, by omega⟩
    have : i = n := by omega
    subst this
    exact ⟨x, by rw [laws_markWashS.l0, if_neg (by omega)]⟩
  | succ d ih =>
    intro k i x hi hk hx
    obtain ⟨k, rfl⟩ : ∃ m, k = m + 1 := ⟨k - 1, by omega⟩
    have e1 : wrap64 (1 + 2 * (i : Int) + 1) = 1 + 2 * (i : Int) + 1 := by unfold wrap64; omega
    have e2 : wrap64 (1 + 2 * (i : Int) + 1 + 1) = 1 + 2 * ((i + 1 : Nat) : Int) := by unfold wrap64; omega
    rw [laws_markWashS.l0, if_pos (by omega), if_pos (by omega), Option.bind_some, e1, e2, w64s (by omega)]
    exact ih k (i + 1) _ (by omega) (by omega) (by simp [hx])
theorem markWashS_f (l : List S52) (hn : l.length ≤ 1048576) : ∃ l', laws_markWashS.f (l.length + 1) l 1 = some (1 + 2 * (l.length : Int), l') := by
  obtain ⟨l', h⟩ := markW_loop l.length hn l.length (l.length + 1) 0 l (by omega) (by omega) rfl
  exact ⟨l', by unfold laws_markWashS.f; simpa using h⟩
theorem szWashS_f {l : List S56} (hl : l.length ≤ 1048576) : laws_szWashS.f l 1048576 = some (1048576 - (l.length : Int)) := by
  unfold laws_szWashS.f
  have : wrap64 (1048576 - (l.length : Int)) = 1048576 - (l.length : Int) := by unfold wrap64; omega
  rw [this, if_neg (by omega)]
theorem szWashS_no {l : List S56} (hl : 1048576 < l.length) (hm : (l.length : Int) ≤ 9223372036854775807) : laws_szWashS.f l 1048576 = some (-1) := by
  unfold laws_szWashS.f
  have : wrap64 (1048576 - (l.length : Int)) = 1048576 - (l.length : Int) := by unfold wrap64; omega
  rw [this, if_pos (by omega)]
end Go.Proofs.YtdepnieanfjhjaaDoor.X
