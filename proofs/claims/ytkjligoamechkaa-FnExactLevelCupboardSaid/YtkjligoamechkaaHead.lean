/- Contracts of functions, and plain facts: what each call answers, and what it leaves as it was. -/
import Derived.Test.YtkjligoamechkaaCu
set_option linter.unusedVariables false
set_option linter.unusedSimpArgs false
namespace Go.Proofs.Ytkjligoamechkaa.X
open Go.RowKit Go.Proofs.YtkjligoamechkaaW.PrintWords Go.Proofs.YtkjligoamechkaaW.PrintLast Go.Proofs.YtkjligoamechkaaW.PrintMore
attribute [local go_sem] max2_int min2_int max_two min_two max_three min_three max_four min_four
/-- rows of rows of int64 of one's own, each at its block's head with its room kept (so that it can be appended to) -/
structure Hd (w : World) (lo g : Nat) (L : List (List Int)) (V : Nat → Value) : Prop where
  outer : lo ≤ g ∧ g < w.heap.size
  rows : ∃ cells : Array Value, w.heap[g]? = some (.cells cells 32 (0, 0)) ∧ ∀ i, i < L.length → cells[i]? = some (V i)
  ints : ∀ i, i < L.length → w.ownsRow lo 2 1 (V i) (L.getD i []).length (nums .i64 (L.getD i []))
  apart : ∀ i, i < L.length → ∀ q, (V i).ownBlock = some q → q ≠ g ∧ ∀ j, j < L.length → j ≠ i → (V j).ownBlock ≠ some q
section
variable {w w1 : World} {lo g : Nat} {L : List (List Int)} {V : Nat → Value}
theorem Hd.below (h : Hd w lo g L V) (hb : Below w.heap.size w w1) : Hd w1 lo g L V where
  outer := ⟨h.outer.1, Nat.lt_of_lt_of_le h.outer.2 hb.size⟩
  rows := by
    obtain ⟨cells, h1, h2⟩ := h.rows
    exact ⟨cells, (hb.block g h.outer.2).trans h1, h2⟩
  ints := fun i hi => pw_own_below (h.ints i hi) hb
  apart := h.apart
theorem Hd.cell (h : Hd w lo g L V) {i : Nat} (hi : i < L.length) : w.cell? ⟨g, i, none⟩ = some (V i) := by
  obtain ⟨cells, h1, h2⟩ := h.rows
  rw [cell_of_row w g i cells _ _ h1]; exact h2 i hi
theorem Hd.frozen (h : Hd w lo g L V) (i : Nat) : w.frozen? ⟨g, i, none⟩ = false := by
  obtain ⟨cells, h1, _⟩ := h.rows
  exact frozen_of_row w g i cells _ h1
theorem Hd.of_S {v : Value} (h : Kd.S (Kd.slice 2 (Kd.int .i64)) 32 w lo (fun _ => True) v L) (hL : L ≠ []) : ∃ (g c : Nat) (V : Nat → Value), v = .slice (some ⟨g, 0, none⟩) L.length c ∧ L.length ≤ c ∧ Hd w lo g L V := by
  obtain ⟨f, h0, inner, ho, hr⟩ := h
  rw [List.length_zipIdx] at ho
  have hpos : 0 < L.length := List.length_pos_iff.2 hL
  rcases ho.2 with ⟨_, hz⟩ | ⟨g, cap, cur, rfl, hlo, hg, hn, hcm, hcs, hin⟩
  · omega
  · have hs1 : L.length * (Kd.tag f (Kd.slice 2 (Kd.int .i64))).sz = L.length := Nat.mul_one _
    rw [hs1] at hin
    have hil : inner.length = L.length := by have := ho.1; rw [hs1] at this; exact this
    have hgs : g < w.heap.size := blk_lt hg
    have hel : ∀ i, i < L.length → (Kd.int .i64).R 2 w lo (fun k => ((True ∧ some k ≠ (Value.slice (some ⟨g, 0, none⟩) L.length cap).ownBlock) ∧ f k = i)) (inner.getD i undef) (L.getD i []) := by
      intro i hi
      have hz : L.zipIdx[i]? = some (L[i], i) := by rw [List.getElem?_zipIdx, List.getElem?_eq_getElem hi]; simp
      obtain ⟨vi, hvi, hR⟩ := hr.2 i (L[i], i) hz
      have e1 : inner.getD i undef = vi := by
        have : (inner.drop (i * 1)).take 1 = [vi] := hvi
        rw [Nat.mul_one] at this
        have h2 := congrArg (fun l => l[0]?) this
        simp at h2
        rw [List.getD_eq_getElem?_getD, h2]; rfl
      rw [e1, List.getD_eq_getElem?_getD, List.getElem?_eq_getElem hi]
      exact hR
    refine ⟨g, cap, fun i => inner.getD i undef, rfl, hn, ⟨hlo, hgs⟩, ⟨cur, hg, fun i hi => ?_⟩, fun i hi => Kd.own_of_R (hel i hi), fun i hi q hq => ?_⟩
    · have : cur.toList[i]? = inner[i]? := by rw [← hin, List.getElem?_take_of_lt (by omega)]
      rw [Array.getElem?_toList] at this
      rw [this, List.getD_eq_getElem?_getD, List.getElem?_eq_getElem (by omega)]; rfl
    · have hok := (hel i hi).1 q hq
      refine ⟨fun e => hok.1.2 (by rw [e]; rfl), fun j hj hji e => ?_⟩
      have hok2 := (hel j hj).1 q e
      exact hji (hok2.2.symm.trans hok.2)
/-- row i is written anew (in its own block, or in a new one) and stored -/
theorem Hd.put (h : Hd w lo g L V) {i : Nat} (hi : i < L.length) {row : Option Nat} (hgrow : w.grownBy w1 row) (hrow : ∀ q, row = some q → (V i).ownBlock = some q) {u : Value} {xs : List Int} (hown : w1.ownsRow lo 2 1 u xs.length (nums .i64 xs)) (hat : ∀ q, u.ownBlock = some q → (V i).ownBlock = some q ∨ w.heap.size ≤ q) : Hd (w1.setCell ⟨g, i, none⟩ u) lo g (L.set i xs) (fun j => if j = i then u else V j) := by
  have hgn : some g ≠ row := fun e => ((h.apart i hi g (hrow g e.symm)).1 rfl).elim
  have hug : ∀ q, u.ownBlock = some q → q ≠ g := fun q hq e => by
    rcases hat q hq with h1 | h1
    · exact (h.apart i hi q h1).1 e
    · have := h.outer.2; omega
  have hset : ∀ q, q ≠ g → (w1.setCell ⟨g, i, none⟩ u).heap[q]? = w1.heap[q]? := fun q hq => heap_setCell_other w1 ⟨g, i, none⟩ q u hq
  refine ⟨⟨h.outer.1, by have := h.outer.2; have := hgrow.size; simp; omega⟩, ?_, fun j hj => ?_, fun j hj q hq => ?_⟩
  · obtain ⟨cells, h1, h2⟩ := h.rows
    have h3 := (hgrow.block g h.outer.2 hgn).trans h1
    refine ⟨cells.setIfInBounds i u, heap_setCell_same w1 g i cells _ _ h3, fun j hj => ?_⟩
    rw [List.length_set] at hj
    by_cases e : j = i
    · subst e
      have hlt : j < cells.size := (Array.getElem?_eq_some_iff.1 (h2 j hj)).1
      rw [if_pos rfl]
      simp [hlt]
    · rw [if_neg e, Array.getElem?_setIfInBounds_ne (Ne.symm e)]
      exact h2 j hj
  · rw [List.length_set] at hj
    rw [getD_set L i j xs [] hi]
    by_cases e : j = i
    · subst e
      simp only [if_pos rfl]
      exact own_move hown (fun q hq => hset q (hug q hq))
    · simp only [if_neg e]
      have ho := h.ints j hj
      have h4 : w1.ownsRow lo 2 1 (V j) (L.getD j []).length (nums .i64 (L.getD j [])) := own_move ho (fun q hq => hgrow.block q (own_lt ho q hq) (fun e2 => (h.apart j hj q hq).2 i hi (Ne.symm e) (hrow q e2.symm)))
      exact own_move h4 (fun q hq => hset q ((h.apart j hj q hq).1))
  · rw [List.length_set] at hj
    by_cases e : j = i
    · subst e
      simp only [if_pos rfl] at hq
      refine ⟨hug q hq, fun k hk hkj => ?_⟩
      rw [List.length_set] at hk
      simp only [if_neg hkj]
      intro e2
      rcases hat q hq with h1 | h1
      · exact (h.apart k hk q e2).2 j hj (Ne.symm hkj) h1
      · have := own_lt (h.ints k hk) q e2; omega
    · simp only [if_neg e] at hq
      refine ⟨(h.apart j hj q hq).1, fun k hk hkj => ?_⟩
      rw [List.length_set] at hk
      by_cases e3 : k = i
      · subst e3
        simp only [if_pos rfl]
        intro e4
        rcases hat q e4 with h1 | h1
        · exact (h.apart j hj q hq).2 k hk hkj h1
        · have := own_lt (h.ints j hj) q hq; omega
      · simp only [if_neg e3]
        exact (h.apart j hj q hq).2 k hk hkj
/-- row i is cut behind its first m sheets -/
theorem Hd.cut (h : Hd w lo g L V) {i m c : Nat} {A : Option Addr} (hi : i < L.length) (hv : V i = .slice A (L.getD i []).length c) (hm : m ≤ (L.getD i []).length) : Hd (w.setCell ⟨g, i, none⟩ (.slice A m c)) lo g (L.set i ((L.getD i []).take m)) (fun j => if j = i then .slice A m c else V j) := by
  have ho := h.ints i hi
  rw [hv] at ho
  have h1 := own_take ho hm
  have e1 : ((L.getD i []).take m).length = m := by rw [List.length_take]; omega
  have e2 : (nums .i64 (L.getD i [])).take (m * 1) = nums .i64 ((L.getD i []).take m) := by rw [Nat.mul_one]; simp [nums, List.map_take]
  rw [e2] at h1
  refine h.put (w1 := w) (row := none) hi (grown_of_below (Below.refl _ _) none) (fun q e => by cases e) (by rw [e1]; exact h1) (fun q hq => .inl ?_)
  rw [hv]
  cases A with
  | none => simp [Value.ownBlock] at hq
  | some a => simpa [Value.ownBlock] using hq
/-- such rows are rows of the law's kind -/
theorem Hd.rr (h : Hd w lo g L V) (hL : L ≠ []) {c : Nat} (hc : L.length ≤ c) : RR w lo w.heap.size (.slice (some ⟨g, 0, none⟩) L.length c) L := by
  have hfm : ∀ i, i < L.length → L.getD i [] ≠ [] → ∃ q cp cur, V i = .slice (some ⟨q, 0, none⟩) (L.getD i []).length cp ∧ lo ≤ q ∧ w.heap[q]? = some (.cells cur 2 (0, 0)) ∧ (L.getD i []).length ≤ cp ∧ cur.toList.take ((L.getD i []).length * 1) = nums .i64 (L.getD i []) := by
    intro i hi hne
    rcases (h.ints i hi).2 with ⟨_, hz⟩ | ⟨q', cap', cur', hv, hlo, hq, hn', _, hcs', ht'⟩
    · exact absurd (List.length_eq_zero_iff.1 hz) hne
    · exact ⟨q', cap', cur', hv, hlo, hq, hn', ht'⟩
  refine .inr ⟨hL, g, c, V, fun i => ((V i).ownBlock).getD 0, fun _ => 0, rfl, hc, ⟨⟨h.outer.1, h.outer.2, Nat.le_refl _⟩, h.rows, fun i hi he => ?_, fun i hi hne => ?_, fun i hi hne => ?_, fun i hi hne => ?_⟩⟩
  · have ho := h.ints i hi
    rw [he] at ho
    rcases ho.2 with ⟨hv, _⟩ | ⟨q', cap', cur', hv, _⟩
    · exact ⟨none, 0, hv⟩
    · exact ⟨_, cap', hv⟩
  · obtain ⟨q, cp, cur, hv, _, _, hn, _⟩ := hfm i hi hne
    exact ⟨cp, by rw [hv]; rfl, hn⟩
  · obtain ⟨q, cp, cur, hv, hlo, hq, hn, _⟩ := hfm i hi hne
    have hb : ((V i).ownBlock).getD 0 = q := by rw [hv]; rfl
    have hap := h.apart i hi q (by rw [hv]; rfl)
    rw [hb]
    refine ⟨hlo, blk_lt hq, hap.1, fun j hj hnej hji e => ?_⟩
    obtain ⟨q2, cp2, cur2, hv2, _⟩ := hfm j hj hnej
    have hb2 : ((V j).ownBlock).getD 0 = q2 := by rw [hv2]; rfl
    rw [hb2] at e
    subst e
    exact hap.2 j hj hji (by rw [hv2]; rfl)
  · obtain ⟨q, cp, cur, hv, hlo, hq, hn, ht⟩ := hfm i hi hne
    have hb : ((V i).ownBlock).getD 0 = q := by rw [hv]; rfl
    show ∃ cur : Array Value, w.heap[((V i).ownBlock).getD 0]? = _ ∧ _
    rw [hb]
    refine ⟨cur, hq, fun k hk => ?_⟩
    have h1 : cur.toList[k]? = (nums .i64 (L.getD i []))[k]? := by rw [← ht, List.getElem?_take_of_lt (by omega)]
    rw [Array.getElem?_toList] at h1
    rw [Nat.zero_add, h1]
    generalize L.getD i [] = row at hk
    rw [nums, List.getElem?_map, List.getElem?_eq_getElem hk, List.getD_eq_getElem?_getD, List.getElem?_eq_getElem hk]; rfl
end
theorem ownHd (l : List (List Int)) (hl : l.length ≤ 1048576) (hf : l.flatten.length ≤ 1048576) (hne : l ≠ []) (A : Option Addr) (c : Nat) (hc : l.length ≤ c) (w : World) (h : (Kd.slice 2 (Kd.int .i64)).C w A l.length l) :
    Calls Try.prog 45 #[.slice A l.length c] w fun e w' => ∃ (g c2 : Nat) (V : Nat → Value), e = .returned (.slice (some ⟨g, 0, none⟩) l.length c2) ∧ l.length ≤ c2 ∧ Hd w' w.heap.size g l V ∧ Below w.heap.size w w' :=
  (spec_l04Own.calls 1048577 A c l l w h hc (own_f hl hf (by omega))).mono (by
    rintro e w' ⟨v, rfl, hS, hb⟩
    obtain ⟨g, c2, V, rfl, hc2, hH⟩ := Hd.of_S hS hne
    exact ⟨g, c2, V, rfl, hc2, hH, hb⟩)
theorem copyHd (l : List (List Int)) (hl : l.length ≤ 1048576) (hf : l.flatten.length ≤ 1048576) (hne : l ≠ []) (A : Option Addr) (c : Nat) (hc : l.length ≤ c) (w : World) (h : (Kd.slice 2 (Kd.int .i64)).C w A l.length l) :
    Calls Try.prog 46 #[.slice A l.length c] w fun e w' => ∃ (g c2 : Nat) (V : Nat → Value), e = .returned (.slice (some ⟨g, 0, none⟩) l.length c2) ∧ l.length ≤ c2 ∧ Hd w' w.heap.size g l V ∧ Below w.heap.size w w' :=
  (impl_copyCupboard.calls 1048577 A c l l w h hc (copy_f hl hf (by omega))).mono (by
    rintro e w' ⟨v, rfl, hS, hb⟩
    obtain ⟨g, c2, V, rfl, hc2, hH⟩ := Hd.of_S hS hne
    exact ⟨g, c2, V, rfl, hc2, hH, hb⟩)
theorem Hd.C {w : World} {lo g : Nat} {L : List (List Int)} {V : Nat → Value} (h : Hd w lo g L V) (hL : L ≠ []) (hl : L.length ≤ 1048576) (hr : ∀ p ∈ L, p.length ≤ 1048576) : (Kd.slice 2 (Kd.int .i64)).C w (some ⟨g, 0, none⟩) L.length L := by
  obtain ⟨A, c, e, _, hC⟩ := (h.rr hL (Nat.le_refl _)).reads hl hr
  injection e with e1 _ _
  rw [e1]; exact hC
end Go.Proofs.Ytkjligoamechkaa.X
