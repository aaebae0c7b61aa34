/- Contracts of functions, and plain facts: what each call answers, and what it leaves as it was. -/
import Derived.Test.YtkjligoamechkaaFD4
import Derived.Test.YtkjligoamechkaaFD5
import Derived.Test.YtkjligoamechkaaWApart
import Derived.Test.YtkjligoamechkaaBlk
import Derived.Deep.AppendLies
set_option linter.unusedVariables false
set_option linter.unusedSimpArgs false
namespace Go.Proofs.Ytkjligoamechkaa.X
open Go.RowKit Go.Proofs.YtkjligoamechkaaW.PrintWords Go.Proofs.YtkjligoamechkaaW.PrintLast Go.Proofs.YtkjligoamechkaaW.PrintMore
attribute [local go_sem] max2_int min2_int max_two min_two max_three min_three max_four min_four
/-- rows of rows of int64 of one's own, each of which may begin in the midst of its block; all blocks lie from lo on, below hi -/
structure Cu (w : World) (lo hi g : Nat) (L : List (List Int)) (V : Nat → Value) (B O : Nat → Nat) : Prop where
  outer : lo ≤ g ∧ g < hi ∧ hi ≤ w.heap.size
  rows : ∃ cells : Array Value, w.heap[g]? = some (.cells cells 32 (0, 0)) ∧ ∀ i, i < L.length → cells[i]? = some (V i)
  empty : ∀ i, i < L.length → L.getD i [] = [] → ∃ A c, V i = .slice A 0 c
  form : ∀ i, i < L.length → L.getD i [] ≠ [] → ∃ c, V i = .slice (some ⟨B i, O i, none⟩) (L.getD i []).length c ∧ (L.getD i []).length ≤ c
  place : ∀ i, i < L.length → L.getD i [] ≠ [] → lo ≤ B i ∧ B i < hi ∧ B i ≠ g ∧ ∀ j, j < L.length → L.getD j [] ≠ [] → j ≠ i → B j ≠ B i
  inner : ∀ i, i < L.length → L.getD i [] ≠ [] → ∃ cur : Array Value, w.heap[B i]? = some (.cells cur 2 (0, 0)) ∧ ∀ k, k < (L.getD i []).length → cur[O i + k]? = some (.int .i64 ((L.getD i []).getD k 0))
section
variable {w w1 : World} {lo hi g : Nat} {L : List (List Int)} {V : Nat → Value} {B O : Nat → Nat}
theorem Cu.keep (h : Cu w lo hi g L V B O) (hs : w.heap.size ≤ w1.heap.size) (hk : ∀ k, lo ≤ k → k < hi → w1.heap[k]? = w.heap[k]?) : Cu w1 lo hi g L V B O where
  outer := ⟨h.outer.1, h.outer.2.1, Nat.le_trans h.outer.2.2 hs⟩
  rows := by
    obtain ⟨cells, h1, h2⟩ := h.rows
    exact ⟨cells, (hk g h.outer.1 h.outer.2.1).trans h1, h2⟩
  empty := h.empty
  form := h.form
  place := h.place
  inner := fun i hi hne => by
    obtain ⟨cur, h1, h2⟩ := h.inner i hi hne
    have := h.place i hi hne
    exact ⟨cur, (hk (B i) this.1 this.2.1).trans h1, h2⟩
theorem Cu.below (h : Cu w lo hi g L V B O) (hb : Below w.heap.size w w1) : Cu w1 lo hi g L V B O := h.keep hb.size (fun k _ h2 => hb.block k (Nat.lt_of_lt_of_le h2 h.outer.2.2))
theorem Cu.alloc (h : Cu w lo hi g L V B O) (o : Obj) : Cu (w.alloc o) lo hi g L V B O := h.below (below_alloc (Below.refl _ _) o)
theorem Cu.drew (h : Cu w lo hi g L V B O) : Cu w.drew lo hi g L V B O := h.below (below_drew (Below.refl _ _))
theorem Cu.drewN (h : Cu w lo hi g L V B O) (k : Nat) : Cu (w.drewN k) lo hi g L V B O := h.below (pw_below_drewN (Below.refl _ _) k)
theorem Cu.cell (h : Cu w lo hi g L V B O) {i : Nat} (hi : i < L.length) : w.cell? ⟨g, i, none⟩ = some (V i) := by
  obtain ⟨cells, h1, h2⟩ := h.rows
  rw [cell_of_row w g i cells _ _ h1]; exact h2 i hi
theorem Cu.frozen (h : Cu w lo hi g L V B O) (i : Nat) : w.frozen? ⟨g, i, none⟩ = false := by
  obtain ⟨cells, h1, _⟩ := h.rows
  exact frozen_of_row w g i cells _ h1
theorem Cu.num (h : Cu w lo hi g L V B O) {i k j : Nat} (hi : i < L.length) (hk : k < (L.getD i []).length) (hj : j = O i + k) : w.cell? ⟨B i, j, none⟩ = some (.int .i64 ((L.getD i []).getD k 0)) := by
  subst hj
  have hne : L.getD i [] ≠ [] := by intro e; rw [e] at hk; simp at hk
  obtain ⟨cur, h1, h2⟩ := h.inner i hi hne
  rw [cell_of_row w (B i) _ cur _ _ h1]; exact h2 k hk
theorem Cu.numf (h : Cu w lo hi g L V B O) {i : Nat} (hi : i < L.length) (hne : L.getD i [] ≠ []) (j : Nat) : w.frozen? ⟨B i, j, none⟩ = false := by
  obtain ⟨cur, h1, _⟩ := h.inner i hi hne
  exact frozen_of_row w (B i) j cur _ h1
theorem Cu.val (h : Cu w lo hi g L V B O) {i : Nat} (hi : i < L.length) : ∃ A c, V i = .slice A (L.getD i []).length c ∧ ((L.getD i []) ≠ [] → A = some ⟨B i, O i, none⟩ ∧ (L.getD i []).length ≤ c) := by
  by_cases e : L.getD i [] = []
  · obtain ⟨A, c, h1⟩ := h.empty i hi e
    exact ⟨A, c, by rw [h1, e]; rfl, fun h2 => absurd e h2⟩
  · obtain ⟨c, h1, h2⟩ := h.form i hi e
    exact ⟨_, c, h1, fun _ => ⟨rfl, h2⟩⟩
end
/-- such rows, or none -/
def RR (w : World) (lo hi : Nat) (v : Value) (L : List (List Int)) : Prop := (L = [] ∧ ∃ A c, v = .slice A 0 c) ∨ (L ≠ [] ∧ ∃ (g c : Nat) (V : Nat → Value) (B O : Nat → Nat), v = .slice (some ⟨g, 0, none⟩) L.length c ∧ L.length ≤ c ∧ Cu w lo hi g L V B O)
section
variable {w w1 : World} {lo hi : Nat} {v : Value} {L : List (List Int)}
theorem RR.keep (h : RR w lo hi v L) (hs : w.heap.size ≤ w1.heap.size) (hk : ∀ k, lo ≤ k → k < hi → w1.heap[k]? = w.heap[k]?) : RR w1 lo hi v L := by
  rcases h with h | ⟨h1, g, c, V, B, O, h2, h3, h4⟩
  · exact .inl h
  · exact .inr ⟨h1, g, c, V, B, O, h2, h3, h4.keep hs hk⟩
theorem RR.below (h : RR w lo hi v L) (hb : Below w.heap.size w w1) : RR w1 lo hi v L := by
  rcases h with h | ⟨h1, g, c, V, B, O, h2, h3, h4⟩
  · exact .inl h
  · exact .inr ⟨h1, g, c, V, B, O, h2, h3, h4.below hb⟩
theorem RR.alloc (h : RR w lo hi v L) (o : Obj) : RR (w.alloc o) lo hi v L := h.below (below_alloc (Below.refl _ _) o)
theorem RR.drew (h : RR w lo hi v L) : RR w.drew lo hi v L := h.below (below_drew (Below.refl _ _))
theorem RR.drewN (h : RR w lo hi v L) (k : Nat) : RR (w.drewN k) lo hi v L := h.below (pw_below_drewN (Below.refl _ _) k)
theorem RR.empty (w : World) (lo hi : Nat) (A : Option Addr) (c : Nat) : RR w lo hi (.slice A 0 c) [] := .inl ⟨rfl, A, c, rfl⟩
theorem RR.lower {lo' : Nat} (h : RR w lo hi v L) (hl : lo' ≤ lo) : RR w lo' hi v L := by
  rcases h with h | ⟨h1, g, c, V, B, O, h2, h3, h4⟩
  · exact .inl h
  · exact .inr ⟨h1, g, c, V, B, O, h2, h3, ⟨⟨by have := h4.outer.1; omega, h4.outer.2⟩, h4.rows, h4.empty, h4.form, fun i hi hne => by have := h4.place i hi hne; exact ⟨by omega, this.2⟩, h4.inner⟩⟩
theorem Cu.C {g : Nat} {V : Nat → Value} {B O : Nat → Nat} (h : Cu w lo hi g L V B O) (hl : L.length ≤ 1048576) (hr : ∀ p ∈ L, p.length ≤ 1048576) : (Kd.slice 2 (Kd.int .i64)).C w (some ⟨g, 0, none⟩) L.length L := by
  refine ⟨rfl, by omega, fun _ => ⟨⟨g, 0, none⟩, rfl, fun j p hp => ?_⟩⟩
  have hj : j < L.length := (List.getElem?_eq_some_iff.1 hp).1
  have hg : L.getD j [] = p := by rw [List.getD_eq_getElem?_getD, hp]; rfl
  have hpm : p.length ≤ 1048576 := hr p (List.mem_of_getElem? hp)
  refine ⟨[V j], rfl, ?_, fun i u hu => ?_⟩
  · by_cases e : L.getD j [] = []
    · obtain ⟨A, c, hv⟩ := h.empty j hj e
      rw [hg] at e
      subst e
      exact ⟨A, c, by rw [hv]; rfl, Nat.zero_le _, rfl, by simp, fun h0 => absurd h0 (by simp)⟩
    · obtain ⟨c, hv, hc⟩ := h.form j hj e
      rw [hg] at hv hc
      refine ⟨_, c, by rw [hv], hc, rfl, by omega, fun _ => ⟨⟨B j, O j, none⟩, rfl, fun k x hx => ?_⟩⟩
      have hk : k < p.length := (List.getElem?_eq_some_iff.1 hx).1
      refine ⟨[.int .i64 x], rfl, rfl, fun i u hu => ?_⟩
      match i, hu with
      | 0, hu =>
        have hn := h.num hj (k := k) (j := O j + k) (by rw [hg]; exact hk) rfl
        rw [hg, List.getD_eq_getElem?_getD, hx] at hn
        simp at hu
        subst hu
        rw [add_at, show O j + (k * (Kd.int IntKind.i64).sz + 0) = O j + k by show O j + (k * 1 + 0) = O j + k; omega]
        simpa using hn
      | (i + 1), hu => simp at hu
  · match i, hu with
    | 0, hu =>
      simp at hu
      subst hu
      rw [add_at, show 0 + (j * (Kd.slice 2 (Kd.int IntKind.i64)).sz + 0) = j by show 0 + (j * 1 + 0) = j; omega]
      exact h.cell hj
    | (i + 1), hu => simp at hu
theorem RR.reads (h : RR w lo hi v L) (hl : L.length ≤ 1048576) (hr : ∀ p ∈ L, p.length ≤ 1048576) : ∃ A c, v = .slice A L.length c ∧ L.length ≤ c ∧ (Kd.slice 2 (Kd.int .i64)).C w A L.length L := by
  rcases h with ⟨rfl, A, c, rfl⟩ | ⟨h1, g, c, V, B, O, h2, h3, h4⟩
  · exact ⟨A, c, rfl, Nat.zero_le _, rfl, by simp, fun h0 => absurd h0 (by simp)⟩
  · exact ⟨_, c, h2, h3, h4.C hl hr⟩
/-- rows that were made, each at its block's head -/
theorem RR.of_S (h : Kd.S (Kd.slice 2 (Kd.int .i64)) 32 w lo (fun _ => True) v L) : RR w lo w.heap.size v L := by
  obtain ⟨f, h0, inner, ho, hr⟩ := h
  rw [List.length_zipIdx] at ho
  by_cases hL : L = []
  · subst hL
    rcases ho.2 with ⟨rfl, _⟩ | ⟨g, cap, cur, rfl, _⟩
    · exact .inl ⟨rfl, none, 0, rfl⟩
    · exact .inl ⟨rfl, _, cap, rfl⟩
  · have hpos : 0 < L.length := List.length_pos_iff.2 hL
    rcases ho.2 with ⟨_, hz⟩ | ⟨g, cap, cur, rfl, hlo, hg, hn, hcm, hcs, hin⟩
    · omega
    · refine .inr ⟨hL, g, cap, fun i => inner.getD i undef, fun i => ((inner.getD i undef).ownBlock).getD 0, fun _ => 0, rfl, hn, ?_⟩
      have hs1 : L.length * (Kd.tag f (Kd.slice 2 (Kd.int .i64))).sz = L.length := Nat.mul_one _
      rw [hs1] at hin
      have hil : inner.length = L.length := by have := ho.1; rw [hs1] at this; exact this
      have hgs : g < w.heap.size := blk_lt hg
      -- each element
      have hel : ∀ i, i < L.length → (Kd.int .i64).R 2 w lo (fun k => ((True ∧ some k ≠ (Value.slice (some ⟨g, 0, none⟩) L.length cap).ownBlock) ∧ f k = i)) (inner.getD i undef) (L.getD i []) := by
        intro i hi
        have hz : L.zipIdx[i]? = some (L[i], i) := by rw [List.getElem?_zipIdx, List.getElem?_eq_getElem hi]; simp
        obtain ⟨vi, hvi, hR⟩ := hr.2 i (L[i], i) hz
        have e1 : inner.getD i undef = vi := by
          have : (inner.drop (i * 1)).take 1 = [vi] := hvi
          rw [Nat.mul_one] at this
          have h2 := congrArg (fun l => l[0]?) this
          simp at h2
          rw [List.getD_eq_getElem?_getD, h2]; rfl
        rw [e1, List.getD_eq_getElem?_getD, List.getElem?_eq_getElem hi]
        exact hR
      have hfm : ∀ i, i < L.length → L.getD i [] ≠ [] → ∃ q c, inner.getD i undef = .slice (some ⟨q, 0, none⟩) (L.getD i []).length c ∧ lo ≤ q ∧ q < w.heap.size ∧ q ≠ g ∧ f q = i := by
        intro i hi hne
        obtain ⟨q, c, e1, e2, e3, _⟩ := Kd.R_form (hel i hi) (List.length_pos_iff.2 hne)
        have hok := (hel i hi).1 q (by rw [e1]; rfl)
        exact ⟨q, c, e1, e2, e3, fun e => hok.1.2 (by rw [e]; rfl), hok.2⟩
      refine ⟨⟨hlo, hgs, Nat.le_refl _⟩, ⟨cur, hg, fun i hi => ?_⟩, fun i hi he => ?_, fun i hi hne => ?_, fun i hi hne => ?_, fun i hi hne => ?_⟩
      · have : cur.toList[i]? = inner[i]? := by rw [← hin, List.getElem?_take_of_lt (by omega)]
        rw [Array.getElem?_toList] at this
        rw [this, List.getD_eq_getElem?_getD, List.getElem?_eq_getElem (by omega)]; rfl
      · obtain ⟨A, c, e1, _⟩ := Kd.R_reads (hel i hi)
        exact ⟨A, c, by rw [e1, he]; rfl⟩
      · obtain ⟨A, c, e1, hc, _⟩ := Kd.R_reads (hel i hi)
        obtain ⟨q, c', e2, _⟩ := hfm i hi hne
        rw [e2] at e1
        injection e1 with e3 e4 e5
        refine ⟨c', ?_, by omega⟩
        show inner.getD i undef = _
        rw [e2]; rfl
      · obtain ⟨q, c, e2, h2, h3, h4, h5⟩ := hfm i hi hne
        have hb : ((inner.getD i undef).ownBlock).getD 0 = q := by rw [e2]; rfl
        rw [hb]
        refine ⟨h2, h3, h4, fun j hj hnej hji => ?_⟩
        obtain ⟨q', c', e2', _, _, _, h5'⟩ := hfm j hj hnej
        have hb' : ((inner.getD j undef).ownBlock).getD 0 = q' := by rw [e2']; rfl
        rw [hb']
        intro e
        rw [e, h5] at h5'
        exact hji h5'.symm
      · obtain ⟨q, c, e2, h2, h3, h4, h5⟩ := hfm i hi hne
        have hb : ((inner.getD i undef).ownBlock).getD 0 = q := by rw [e2]; rfl
        show ∃ cur : Array Value, w.heap[((inner.getD i undef).ownBlock).getD 0]? = _ ∧ _
        rw [hb]
        have hown := Kd.own_of_R (hel i hi)
        rcases hown.2 with ⟨_, hz⟩ | ⟨q', cap', cur', hv, _, hq, hn', _, hcs', ht'⟩
        · exact absurd (List.length_eq_zero_iff.1 hz) hne
        · rw [e2] at hv
          injection hv with hA _ _
          injection hA with hA
          injection hA with hA _
          subst hA
          refine ⟨cur', hq, fun k hk => ?_⟩
          have h1 : cur'.toList[k]? = (encs (Value.int .i64) (L.getD i []))[k]? := by rw [← ht', List.getElem?_take_of_lt (by omega)]
          rw [Array.getElem?_toList] at h1
          rw [Nat.zero_add, h1]
          generalize L.getD i [] = row at hk
          rw [encs, List.getElem?_map, List.getElem?_eq_getElem hk, List.getD_eq_getElem?_getD, List.getElem?_eq_getElem hk]; rfl
end
theorem getD_set {α : Type} (L : List α) (i j : Nat) (x d : α) (hi : i < L.length) : (L.set i x).getD j d = if j = i then x else L.getD j d := by
  rw [List.getD_eq_getElem?_getD, List.getD_eq_getElem?_getD]
  by_cases h : j = i
  · subst h; rw [List.getElem?_set_self hi, if_pos rfl]; rfl
  · rw [List.getElem?_set_ne (Ne.symm h), if_neg h]
/-- one row is put in the place of another, which it is a part of -/
theorem Cu.put {w : World} {lo hi g : Nat} {L : List (List Int)} {V : Nat → Value} {B O : Nat → Nat} (h : Cu w lo hi g L V B O) {i : Nat} (hil : i < L.length) (xs : List Int) (u : Value) (o : Nat) (hsub : xs ≠ [] → L.getD i [] ≠ [] ∧ (∃ d, o = O i + d ∧ ∀ k, k < xs.length → d + k < (L.getD i []).length ∧ xs.getD k 0 = (L.getD i []).getD (d + k) 0) ∧ ∃ c, u = .slice (some ⟨B i, o, none⟩) xs.length c ∧ xs.length ≤ c) (hem : xs = [] → ∃ A c, u = .slice A 0 c) :
    Cu (w.setCell ⟨g, i, none⟩ u) lo hi g (L.set i xs) (fun j => if j = i then u else V j) B (fun j => if j = i then o else O j) where
  outer := ⟨h.outer.1, h.outer.2.1, by simpa using h.outer.2.2⟩
  rows := by
    obtain ⟨cells, h1, h2⟩ := h.rows
    refine ⟨cells.setIfInBounds i u, heap_setCell_same w g i cells _ _ h1, fun j hj => ?_⟩
    rw [List.length_set] at hj
    have hsz : j < cells.size := (Array.getElem?_eq_some_iff.1 (h2 j hj)).1
    by_cases e : j = i
    · subst e; rw [Array.getElem?_setIfInBounds_self_of_lt hsz, if_pos rfl]
    · rw [Array.getElem?_setIfInBounds_ne (Ne.symm e), if_neg e]; exact h2 j hj
  empty := fun j hj he => by
    rw [List.length_set] at hj
    rw [getD_set L i j xs [] hil] at he
    by_cases e : j = i
    · subst e; rw [if_pos rfl] at he ⊢; exact hem he
    · rw [if_neg e] at he ⊢; exact h.empty j hj he
  form := fun j hj he => by
    rw [List.length_set] at hj
    rw [getD_set L i j xs [] hil] at he ⊢
    by_cases e : j = i
    · subst e
      rw [if_pos rfl] at he ⊢
      simp only [if_true]
      obtain ⟨_, _, c, h1, h2⟩ := hsub he
      exact ⟨c, h1, h2⟩
    · rw [if_neg e] at he ⊢
      simp only [if_neg e]
      exact h.form j hj he
  place := fun j hj he => by
    rw [List.length_set] at hj
    rw [getD_set L i j xs [] hil] at he
    have hne : L.getD j [] ≠ [] := by
      by_cases e : j = i
      · subst e; rw [if_pos rfl] at he; exact (hsub he).1
      · rw [if_neg e] at he; exact he
    obtain ⟨h1, h2, h3, h4⟩ := h.place j hj hne
    refine ⟨h1, h2, h3, fun q hq hqe hqj => ?_⟩
    rw [List.length_set] at hq
    rw [getD_set L i q xs [] hil] at hqe
    refine h4 q hq ?_ hqj
    by_cases e : q = i
    · subst e; rw [if_pos rfl] at hqe; exact (hsub hqe).1
    · rw [if_neg e] at hqe; exact hqe
  inner := fun j hj he => by
    rw [List.length_set] at hj
    rw [getD_set L i j xs [] hil] at he ⊢
    have hne : L.getD j [] ≠ [] := by
      by_cases e : j = i
      · subst e; rw [if_pos rfl] at he; exact (hsub he).1
      · rw [if_neg e] at he; exact he
    obtain ⟨cur, h1, h2⟩ := h.inner j hj hne
    have h3 := (h.place j hj hne).2.2.1
    refine ⟨cur, (Below.heap_setCell w ⟨g, i, none⟩ u (B j) h3).trans h1, fun k hk => ?_⟩
    by_cases e : j = i
    · subst e
      rw [if_pos rfl] at he hk ⊢
      simp only [if_true]
      obtain ⟨_, ⟨d, ho, hx⟩, _⟩ := hsub he
      obtain ⟨hk1, hk2⟩ := hx k hk
      rw [ho, Nat.add_assoc, h2 _ hk1, hk2]
    · rw [if_neg e] at he hk ⊢
      simp only [if_neg e]
      exact h2 k hk
theorem grown_setn {w w1 : World} {g : Nat} (h : w.grownBy w1 (some g)) (j : Nat) (v : Value) : w.grownBy (w1.setCell ⟨g, j, none⟩ v) (some g) := World.grownBy.trans h (grown_set w1 g j v)
/-- the numbers of one row are others, as many -/
theorem Cu.marked {w w1 : World} {lo hi g : Nat} {L : List (List Int)} {V : Nat → Value} {B O : Nat → Nat} (h : Cu w lo hi g L V B O) {i : Nat} (hil : i < L.length) (xs : List Int) (hx : xs.length = (L.getD i []).length) (hg : w.grownBy w1 (some (B i))) (hin : L.getD i [] ≠ [] → ∃ cur : Array Value, w1.heap[B i]? = some (.cells cur 2 (0, 0)) ∧ ∀ k, k < xs.length → cur[O i + k]? = some (.int .i64 (xs.getD k 0))) (hne : L.getD i [] ≠ []) : Cu w1 lo hi g (L.set i xs) V B O := by
  have hP := h.place i hil hne
  have hxe : xs ≠ [] := by intro e; rw [e] at hx; exact hne (List.length_eq_zero_iff.1 hx.symm)
  have hem : ∀ j, (L.set i xs).getD j [] = [] ↔ L.getD j [] = [] := fun j => by
    rw [getD_set L i j xs [] hil]
    by_cases e : j = i
    · subst e; rw [if_pos rfl]; exact ⟨fun e => absurd e hxe, fun e => absurd e hne⟩
    · rw [if_neg e]
  have hlen : ∀ j, ((L.set i xs).getD j []).length = (L.getD j []).length := fun j => by
    rw [getD_set L i j xs [] hil]
    by_cases e : j = i
    · subst e; rw [if_pos rfl]; exact hx
    · rw [if_neg e]
  refine ⟨⟨h.outer.1, h.outer.2.1, Nat.le_trans h.outer.2.2 hg.size⟩, ?_, fun j hj he => ?_, fun j hj he => ?_, fun j hj he => ?_, fun j hj he => ?_⟩
  · obtain ⟨cells, h1, h2⟩ := h.rows
    refine ⟨cells, (hg.block g (by have := h.outer; omega) (by intro e; injection e with e; exact hP.2.2.1 e.symm)).trans h1, fun j hj => ?_⟩
    rw [List.length_set] at hj
    exact h2 j hj
  · rw [List.length_set] at hj
    exact h.empty j hj ((hem j).1 he)
  · rw [List.length_set] at hj
    rw [hlen j]
    exact h.form j hj (fun e => he ((hem j).2 e))
  · rw [List.length_set] at hj
    obtain ⟨h1, h2, h3, h4⟩ := h.place j hj (fun e => he ((hem j).2 e))
    refine ⟨h1, h2, h3, fun q hq hqe hqj => ?_⟩
    rw [List.length_set] at hq
    exact h4 q hq (fun e => hqe ((hem q).2 e)) hqj
  · rw [List.length_set] at hj
    have hje : L.getD j [] ≠ [] := fun e => he ((hem j).2 e)
    by_cases e : j = i
    · subst e
      obtain ⟨cur, h1, h2⟩ := hin hne
      refine ⟨cur, h1, fun k hk => ?_⟩
      rw [getD_set L j j xs [] hil, if_pos rfl] at hk ⊢
      exact h2 k hk
    · obtain ⟨cur, h1, h2⟩ := h.inner j hj hje
      have hb := h.place j hj hje
      refine ⟨cur, (hg.block (B j) (by have := h.outer; omega) (by intro e2; injection e2 with e2; exact hP.2.2.2 j hj hje e e2)).trans h1, fun k hk => ?_⟩
      rw [getD_set L i j xs [] hil, if_neg e] at hk ⊢
      exact h2 k hk
set_option maxHeartbeats 8000000 in
set_option maxRecDepth 100000 in
/-- marks on a row in the midst of its block -/
theorem markQ_calls (b o n c : Nat) (a : Int) (cur : Array Value) (h0 : 0 ≤ a) (h1 : a ≤ 16777216) (hn : n ≤ 16777216) (hs : ∀ j, j < n → ∃ x, cur[o + j]? = some x) (w : World) (hb : w.heap[b]? = some (.cells cur 2 (0, 0))) :
    Calls Try.prog 23 #[.slice (some ⟨b, o, none⟩) n c, .int .i64 a] w fun e w' => e = .returned (.int .i64 (a + (n : Int))) ∧ (∃ cur' : Array Value, w'.heap[b]? = some (.cells cur' 2 (0, 0)) ∧ ∀ j, j < n → cur'[o + j]? = some (.int .i64 (a + (j : Int)))) ∧ w.grownBy w' (some b) := by
  have HC : Aside0 (∃ cur' : Array Value, w.heap[b]? = some (.cells cur' 2 (0, 0)) ∧ cur'.size = cur.size ∧ ∀ j, j < 0 → cur'[o + j]? = some (.int .i64 (a + (j : Int)))) := ⟨⟨cur, hb, rfl, fun j hj => by omega⟩⟩
  have HS := Aside0.mk hs
  clear hb hs
  go_enter Try.func23, Try.ntmps23
  go_wp2
  go_loopw [1, 5] (fun v1 v5 w' => ∃ i : Nat, i ≤ n ∧ v5 = .int .i64 i ∧ v1 = .int .i64 (a + (i : Int)) ∧ Aside0 (∃ cur' : Array Value, w'.heap[b]? = some (.cells cur' 2 (0, 0)) ∧ cur'.size = cur.size ∧ ∀ j, j < i → cur'[o + j]? = some (.int .i64 (a + (j : Int)))) ∧ Aside0 (w.grownBy w' (some b))) (fun _ v5 _ => n - (intOf v5).toNat)
  case atStart => exact ⟨0, by omega, rfl, by simp, HC, ⟨grown_of_below (Below.refl _ _) _⟩⟩
  case round =>
    clear HC
    obtain ⟨i, hi, rfl, rfl, HC, HG⟩ := hrel
    obtain ⟨wo, rfl⟩ : ∃ wo : World, wo = wr := ⟨_, rfl⟩
    have hi9 : IntKind.i64.wrap ((i : Int) + 1) = (i : Int) + 1 := IntWalk.i64_in _ ⟨by omega, by omega⟩
    by_cases hlt : i < n
    · have hii : (i : Int) < (n : Int) := by omega
      have hk9 : IntKind.i64.wrap (a + (i : Int) + 1) = a + (i : Int) + 1 := IntWalk.i64_in _ ⟨by omega, by omega⟩
      obtain ⟨cur', hb, hsz, hin⟩ := HC.out
      obtain ⟨x0, hx0⟩ := HS.out i hlt
      have hlt' : o + i < cur'.size := by have := (Array.getElem?_eq_some_iff.1 hx0).1; omega
      have hcx : cur'[o + i]? = some cur'[o + i] := Array.getElem?_eq_getElem hlt'
      have c1 : wo.cell? ⟨b, o + i, none⟩ = some cur'[o + i] := by rw [cell_of_row wo b _ cur' _ _ hb]; exact hcx
      have d1 := frozen_of_row wo b (o + i) cur' _ hb
      have HC2 : Aside0 (∃ cu : Array Value, (wo.setCell ⟨b, o + i, none⟩ (.int .i64 (a + (i : Int)))).heap[b]? = some (.cells cu 2 (0, 0)) ∧ cu.size = cur.size ∧ ∀ j, j < i + 1 → cu[o + j]? = some (.int .i64 (a + (j : Int)))) := ⟨by
        refine ⟨cur'.setIfInBounds (o + i) (.int .i64 (a + (i : Int))), heap_setCell_same wo b (o + i) cur' _ _ hb, by simpa using hsz, fun j hj => ?_⟩
        by_cases e : j = i
        · subst e; rw [Array.getElem?_setIfInBounds_self_of_lt hlt']
        · rw [Array.getElem?_setIfInBounds_ne (by omega)]; exact hin j (by omega)⟩
      have HG2 : Aside0 (w.grownBy (wo.setCell ⟨b, o + i, none⟩ (.int .i64 (a + (i : Int)))) (some b)) := ⟨grown_setn HG.out _ _⟩
      generalize cur'[o + i] = x at c1
      clear hb hsz hin hx0 hcx HC HG
      go_wp2
      go_roundw
      case rel => exact ⟨i + 1, by omega, by go_num, by go_num, HC2, HG2⟩
      case measure => simp [intOf] <;> omega
    · have ek : i = n := by omega
      subst ek
      obtain ⟨cur', hb, hsz, hin⟩ := HC.out
      have HP := Aside0.mk (Exists.intro cur' (And.intro hb hin) : ∃ cu : Array Value, wo.heap[b]? = some (.cells cu 2 (0, 0)) ∧ ∀ j, j < i → cu[o + j]? = some (.int .i64 (a + (j : Int))))
      clear hb hsz hin HC
      go_wp2
      go_ret
      exact ⟨rfl, HP.out, HG.out⟩
set_option maxHeartbeats 1000000 in
theorem markE_calls (A : Option Addr) (c : Nat) (a : Int) (w : World) : Calls Try.prog 23 #[.slice A 0 c, .int .i64 a] w fun e w' => e = .returned (.int .i64 a) ∧ w' = w := by
  go_enter Try.func23, Try.ntmps23
  go_wp2
  go_loop [1, 5] (fun v1 v5 => v1 = .int .i64 a ∧ v5 = .int .i64 0) (fun _ v5 => (intOf v5).toNat)
  case atStart => exact ⟨rfl, rfl⟩
  case round =>
    obtain ⟨rfl, rfl⟩ := hrel
    go_wp2
    go_ret
    exact ⟨rfl, rfl⟩
/-- what a marking turns: the rows' own blocks -/
structure KpI (w w1 : World) (lo hi : Nat) : Prop where
  below : Below 0 w w1
  keep : ∀ k, k < w.heap.size → k < lo ∨ hi ≤ k → w1.heap[k]? = w.heap[k]?
theorem KpI.refl (w : World) (lo hi : Nat) : KpI w w lo hi := ⟨Below.refl 0 w, fun _ _ _ => rfl⟩
theorem KpI.grown {w w1 w2 : World} {lo hi b : Nat} (h : KpI w w1 lo hi) (hg : w1.grownBy w2 (some b)) (h1 : lo ≤ b) (h2 : b < hi) : KpI w w2 lo hi :=
  ⟨h.below.grown hg (Nat.zero_le _) (fun k _ => Nat.zero_le _), fun k hk ho => (hg.block k (Nat.lt_of_lt_of_le hk h.below.size) (by intro e; injection e with e; omega)).trans (h.keep k hk ho)⟩
theorem KpI.below_ {w0 w w1 : World} {lo hi : Nat} (h : Below w0.heap.size w0 w) (hk : KpI w w1 lo hi) (hl : w0.heap.size ≤ lo) : Below w0.heap.size w0 w1 :=
  ⟨hk.below.os.trans h.os, hk.below.tape.trans h.tape, hk.below.output.trans h.output, Nat.le_trans h.size hk.below.size, fun b hb => (hk.keep b (Nat.lt_of_lt_of_le hb h.size) (.inl (by omega))).trans (h.block b hb)⟩
theorem seqL_get (a : Int) (n k : Nat) (h : k < n) : (seqL a n).getD k 0 = a + (k : Int) := by rw [List.getD_eq_getElem?_getD]; simp [seqL, h]
set_option maxHeartbeats 8000000 in
set_option maxRecDepth 100000 in
theorem markCu_calls (l : List (List Int)) (a : Int) (h0 : 0 ≤ a) (h1 : a ≤ 1048577) (hl : l.length ≤ 1048576) (hf : l.flatten.length ≤ 1048576) (lo hi g c : Nat) (V : Nat → Value) (B O : Nat → Nat) (w : World) (h : Cu w lo hi g l V B O) :
    Calls Try.prog 18 #[.slice (some ⟨g, 0, none⟩) l.length c, .int .i64 a] w fun e w' => e = .returned (.int .i64 (a + l.flatten.length)) ∧ Cu w' lo hi g (markR l a) V B O ∧ KpI w w' lo hi := by
  have H : Aside0 (Cu w lo hi g (markR (l.take 0) a ++ l.drop 0) V B O) := ⟨h⟩
  have HV : Aside0 (∀ i, i < l.length → ∃ A c, V i = .slice A (l.getD i []).length c ∧ (l.getD i [] ≠ [] → A = some ⟨B i, O i, none⟩)) := ⟨fun i hi => by
    obtain ⟨A, c, e1, e2⟩ := h.val hi
    exact ⟨A, c, e1, fun hne => (e2 hne).1⟩⟩
  clear h
  go_enter Try.func18, Try.ntmps18
  go_wp2
  go_loopw [1, 5] (fun v1 v5 w' => ∃ (i : Nat) (q : Int), i ≤ l.length ∧ v5 = .int .i64 i ∧ v1 = .int .i64 q ∧ Aside0 (q = a + (l.take i).flatten.length) ∧ Aside0 (Cu w' lo hi g (markR (l.take i) a ++ l.drop i) V B O) ∧ Aside0 (KpI w w' lo hi)) (fun _ v5 _ => l.length - (intOf v5).toNat)
  case atStart => exact ⟨0, a, by omega, rfl, rfl, ⟨by simp⟩, H, ⟨KpI.refl _ _ _⟩⟩
  case round =>
    clear H
    obtain ⟨i, q, hi', rfl, rfl, HQ, H, HK⟩ := hrel
    obtain ⟨wo, rfl⟩ : ∃ wo : World, wo = wr := ⟨_, rfl⟩
    have hi9 : IntKind.i64.wrap ((i : Int) + 1) = (i : Int) + 1 := IntWalk.i64_in _ ⟨by omega, by omega⟩
    have hlen : (markR (l.take i) a ++ l.drop i).length = l.length := by rw [List.length_append, markR_length, List.length_take, List.length_drop]; omega
    by_cases hlt : i < l.length
    · have hii : (i : Int) < (l.length : Int) := by omega
      obtain ⟨A, cv, hv, hA⟩ := HV.out i hlt
      have cc := H.out.cell (i := i) (by rw [hlen]; exact hlt)
      rw [hv] at cc
      have hgi : (markR (l.take i) a ++ l.drop i).getD i [] = l.getD i [] := mark_get hlt
      have hq0 : 0 ≤ q ∧ q ≤ 16777216 := by
        have h_ : l.flatten.length = (l.take i).flatten.length + (l.drop i).flatten.length := by rw [← List.length_append, ← List.flatten_append, List.take_append_drop]
        have e := HQ.out
        omega
      have hle : (l.getD i []).length ≤ 1048576 := by
        rw [List.getD_eq_getElem?_getD, List.getElem?_eq_getElem hlt]
        have := row_le (List.getElem_mem hlt)
        show l[i].length ≤ _
        omega
      have HS : Aside0 (markR (l.take (i + 1)) a ++ l.drop (i + 1) = (markR (l.take i) a ++ l.drop i).set i (seqL q (l.getD i []).length)) := ⟨by rw [HQ.out]; exact (mark_set hlt).symm⟩
      have HQ2 : Aside0 (q + ((l.getD i []).length : Int) = a + (l.take (i + 1)).flatten.length) := ⟨by
        rw [HQ.out, List.take_add_one, List.getElem?_eq_getElem hlt, List.getD_eq_getElem?_getD, List.getElem?_eq_getElem hlt]
        simp only [Option.toList_some, List.flatten_append, List.length_append, List.flatten_cons, List.flatten_nil, List.append_nil, Option.getD_some]
        omega⟩
      by_cases hne : l.getD i [] = []
      · have hl0 : (l.getD i []).length = 0 := by rw [hne]; rfl
        rw [hl0] at cc HS HQ2
        have HS2 : Aside0 ((markR (l.take i) a ++ l.drop i).set i (seqL q 0) = markR (l.take i) a ++ l.drop i) := ⟨by
          rw [show seqL q 0 = (markR (l.take i) a ++ l.drop i).getD i [] by rw [hgi, hne]; rfl]
          apply List.ext_getElem?
          intro j
          by_cases e : j = i
          · subst e
            have hj : j < (markR (l.take j) a ++ l.drop j).length := by rw [hlen]; exact hlt
            rw [List.getElem?_set_self hj, List.getD_eq_getElem?_getD, List.getElem?_eq_getElem hj]; rfl
          · rw [List.getElem?_set_ne (Ne.symm e)]⟩
        have HCL := Aside0.mk (fun W => markE_calls A cv q W)
        clear hv hA hgi hlen
        go_wp2_with fail
        refine (HCL.out _).mono ?_
        rintro e w5 ⟨rfl, hw5⟩
        subst hw5
        go_wp2
        go_roundw
        case rel => exact ⟨i + 1, q, by omega, by go_num, rfl, ⟨by have := HQ2.out; omega⟩, ⟨by rw [HS.out, HS2.out]; exact H.out⟩, HK⟩
        case measure => simp [intOf] <;> omega
      · have hAe := hA hne
        subst hAe
        have hil : i < (markR (l.take i) a ++ l.drop i).length := by rw [hlen]; exact hlt
        obtain ⟨cur, hcur, hin⟩ := H.out.inner i hil (by rw [hgi]; exact hne)
        have hpl := H.out.place i hil (by rw [hgi]; exact hne)
        rw [hgi] at hin
        have HCL := Aside0.mk (markQ_calls (B i) (O i) (l.getD i []).length cv q cur hq0.1 hq0.2 (by omega) (fun j hj => ⟨_, hin j hj⟩) wo hcur)
        have HM : Aside0 (∀ (w5 : World), wo.grownBy w5 (some (B i)) → (∃ cur' : Array Value, w5.heap[B i]? = some (.cells cur' 2 (0, 0)) ∧ ∀ j, j < (l.getD i []).length → cur'[O i + j]? = some (.int .i64 (q + (j : Int)))) → Cu w5 lo hi g (markR (l.take (i + 1)) a ++ l.drop (i + 1)) V B O) := ⟨fun w5 hg5 hc5 => by
          rw [HS.out]
          refine H.out.marked hil (seqL q (l.getD i []).length) (by rw [seqL_length, hgi]) hg5 (fun _ => ?_) (by rw [hgi]; exact hne)
          obtain ⟨cur', e1, e2⟩ := hc5
          refine ⟨cur', e1, fun k hk => ?_⟩
          rw [seqL_length] at hk
          rw [e2 k hk, seqL_get q _ k hk]⟩
        clear hv hgi hlen hcur hin
        generalize l.getD i [] = p at *
        go_wp2_with fail
        with_reducible refine HCL.out.mono ?_
        rintro e w5 ⟨rfl, hc5, hg5⟩
        have H5 := Aside0.mk (HM.out w5 hg5 hc5)
        have HK5 := Aside0.mk (HK.out.grown hg5 hpl.1 hpl.2.1)
        clear hc5 hg5 HM HCL
        go_wp2
        go_roundw
        case rel => exact ⟨i + 1, _, by omega, by go_num, rfl, HQ2, H5, HK5⟩
        case measure => simp [intOf] <;> omega
    · have ek : i = l.length := by omega
      subst ek
      have HE : Aside0 (q = a + l.flatten.length) := ⟨by rw [HQ.out, List.take_length]⟩
      have H5 : Aside0 (Cu wo lo hi g (markR l a) V B O) := ⟨by have := H.out; rwa [List.take_length, List.drop_length, List.append_nil] at this⟩
      go_wp2
      go_ret
      exact ⟨by rw [HE.out]; rfl, H5.out, HK.out⟩
theorem markRR_calls (l : List (List Int)) (a : Int) (h0 : 0 ≤ a) (h1 : a ≤ 1048577) (hl : l.length ≤ 1048576) (hf : l.flatten.length ≤ 1048576) (lo hi : Nat) (v : Value) (w : World) (h : RR w lo hi v l) :
    Calls Try.prog 18 #[v, .int .i64 a] w fun e w' => e = .returned (.int .i64 (a + l.flatten.length)) ∧ RR w' lo hi v (markR l a) ∧ KpI w w' lo hi := by
  rcases h with ⟨rfl, A, c, rfl⟩ | ⟨h1', g, c, V, B, O, rfl, hc, hC⟩
  · go_enter Try.func18, Try.ntmps18
    go_wp2
    go_loop [1, 5] (fun v1 v5 => v1 = .int .i64 a ∧ v5 = .int .i64 0) (fun _ v5 => (intOf v5).toNat)
    case atStart => exact ⟨rfl, rfl⟩
    case round =>
      obtain ⟨rfl, rfl⟩ := hrel
      go_wp2
      go_ret
      exact ⟨by simp, RR.empty _ _ _ _ _, KpI.refl _ _ _⟩
  · refine (markCu_calls l a h0 h1 hl hf lo hi g c V B O w hC).mono ?_
    rintro e w' ⟨rfl, h2, h3⟩
    refine ⟨rfl, .inr ⟨?_, g, c, V, B, O, by rw [markR_length], by rw [markR_length]; exact hc, h2⟩, h3⟩
    intro e
    exact h1' (List.length_eq_zero_iff.1 (by rw [← markR_length l a, e]; rfl))
theorem ownRR (l : List (List Int)) (hl : l.length ≤ 1048576) (hf : l.flatten.length ≤ 1048576) (A : Option Addr) (c : Nat) (hc : l.length ≤ c) (w : World) (h : (Kd.slice 2 (Kd.int .i64)).C w A l.length l) :
    Calls Try.prog 45 #[.slice A l.length c] w fun e w' => ∃ v : Value, e = .returned v ∧ RR w' w.heap.size w'.heap.size v l ∧ Below w.heap.size w w' :=
  (spec_l04Own.calls 1048577 A c l l w h hc (own_f hl hf (by omega))).mono (by rintro e w' ⟨v, rfl, hS, hb⟩; exact ⟨v, rfl, RR.of_S hS, hb⟩)
theorem copyRR (l : List (List Int)) (hl : l.length ≤ 1048576) (hf : l.flatten.length ≤ 1048576) (A : Option Addr) (c : Nat) (hc : l.length ≤ c) (w : World) (h : (Kd.slice 2 (Kd.int .i64)).C w A l.length l) :
    Calls Try.prog 46 #[.slice A l.length c] w fun e w' => ∃ v : Value, e = .returned v ∧ RR w' w.heap.size w'.heap.size v l ∧ Below w.heap.size w w' :=
  (impl_copyCupboard.calls 1048577 A c l l w h hc (copy_f hl hf (by omega))).mono (by rintro e w' ⟨v, rfl, hS, hb⟩; exact ⟨v, rfl, RR.of_S hS, hb⟩)
theorem cupS (l : List (List Int)) (hl : l.length ≤ 1048576) (hf : l.flatten.length ≤ 1048576) (A : Option Addr) (c : Nat) (hc : l.length ≤ c) (w : World) (h : (Kd.slice 2 (Kd.int .i64)).C w A l.length l) :
    Calls Try.prog 30 #[.slice A l.length c] w fun e w' => e = .returned (.bool (good0 l 0)) ∧ Below w.heap.size w w' := spec_l04Cupboard.calls 5242886 A c l _ w h hc (specCup_f hl hf (by omega))
theorem cupI (l : List (List Int)) (hf : l.flatten.length ≤ 1048576) (A : Option Addr) (c : Nat) (hc : l.length ≤ c) (w : World) (h : (Kd.slice 2 (Kd.int .i64)).C w A l.length l) :
    Calls Try.prog 12 #[.slice A l.length c] w fun e w' => e = .returned (.bool (good0 l 0)) ∧ Below w.heap.size w w' := impl_ValidCupboard.calls A c l _ w h hc (implCup_f hf)
theorem inB (x lo hi : Int) (w : World) : Calls Try.prog 44 #[.int .i64 x, .int .i64 lo, .int .i64 hi] w fun e w' => e = .returned (.bool (decide (lo ≤ x ∧ x ≤ hi))) ∧ Below w.heap.size w w' := (spec_l00In.calls x lo hi _ w (in_f _ _ _)).mono (by rintro e w' ⟨rfl, hd⟩; exact ⟨rfl, hd.below⟩)
theorem withinB (x lo hi : Int) (w : World) : Calls Try.prog 35 #[.int .i64 x, .int .i64 lo, .int .i64 hi] w fun e w' => e = .returned (.bool (decide (lo ≤ x ∧ x ≤ hi))) ∧ Below w.heap.size w w' := (impl_within.calls x lo hi _ w (within_f _ _ _)).mono (by rintro e w' ⟨rfl, hd⟩; exact ⟨rfl, hd.below⟩)
theorem sizeB (l : List (List Int)) (A : Option Addr) (c : Nat) (hc : l.length ≤ c) (w : World) (h : (Kd.slice 2 (Kd.int .i64)).C w A l.length l) : Calls Try.prog 36 #[.slice A l.length c] w fun e w' => e = .returned (.int .i64 (l.length : Int)) ∧ Below w.heap.size w w' := (impl_size_int64_36.calls A c l _ w h hc rfl).mono (by rintro e w' ⟨rfl, hd⟩; exact ⟨rfl, hd.below⟩)
theorem takeR_no {l : List (List Int)} {a : Int} (h : good0 l 0 = false) : takeR l a = ([], 0, 1) := by unfold takeR; rw [if_neg (by rw [h]; decide)]
theorem takeR_far {l : List (List Int)} {a : Int} (h : good0 l 0 = true) (h2 : ¬ (0 ≤ a ∧ a ≤ (l.length : Int) - 1)) : takeR l a = ([], 0, 2) := by unfold takeR; rw [if_pos h, if_neg h2]
theorem takeR_none {l : List (List Int)} {i : Nat} (h : good0 l 0 = true) (hi : i < l.length) (h3 : l.getD i [] = []) : takeR l (i : Int) = ([], 0, 6) := by
  have e : rd_L1 l (i : Int) = l.getD i [] := by rw [rd_L1_eq hi, List.getD_eq_getElem?_getD, List.getElem?_eq_getElem hi]; rfl
  unfold takeR; rw [if_pos h, if_pos (by omega), e, h3, if_pos (show ([] : List Int).length = 0 from rfl)]
theorem takeR_some {l : List (List Int)} {i : Nat} {x : Int} {xs : List Int} (h : good0 l 0 = true) (hi : i < l.length) (h3 : l.getD i [] = x :: xs) : takeR l (i : Int) = (l.set i xs, x, 0) := by
  have e : rd_L1 l (i : Int) = l.getD i [] := by rw [rd_L1_eq hi, List.getD_eq_getElem?_getD, List.getElem?_eq_getElem hi]; rfl
  unfold takeR; rw [if_pos h, if_pos (by omega), e, h3, if_neg (by simp)]
  rfl
theorem row_small {l : List (List Int)} (hf : l.flatten.length ≤ 1048576) : ∀ p ∈ l, p.length ≤ 1048576 := fun p hp => by have := row_le hp; omega
theorem markR_rows {B : Nat} : ∀ {l : List (List Int)} {a : Int}, (∀ p ∈ l, p.length ≤ B) → ∀ p ∈ markR l a, p.length ≤ B
  | [], _, _, p, hp => by simp [markR] at hp
  | q :: l, a, h, p, hp => by
    rw [markR, List.mem_cons] at hp
    rcases hp with rfl | hp
    · rw [seqL_length]; exact h q (List.mem_cons_self ..)
    · exact markR_rows (fun p hp => h p (List.mem_cons_of_mem _ hp)) p hp
theorem set_flat_le : ∀ {l : List (List Int)} {i : Nat} {xs : List Int}, xs.length ≤ (l.getD i []).length → (l.set i xs).flatten.length ≤ l.flatten.length
  | [], i, xs, h => by simp
  | p :: l, 0, xs, h => by
    simp only [List.getD_cons_zero] at h
    simp only [List.set_cons_zero, List.flatten_cons, List.length_append]
    omega
  | p :: l, i + 1, xs, h => by
    simp only [List.getD_cons_succ] at h
    have := set_flat_le (l := l) (i := i) (xs := xs) h
    simp only [List.set_cons_succ, List.flatten_cons, List.length_append]
    omega
theorem takeR_small {l : List (List Int)} {a : Int} (hl : l.length ≤ 1048576) (hf : l.flatten.length ≤ 1048576) : (takeR l a).1.length ≤ 1048576 ∧ (takeR l a).1.flatten.length ≤ 1048576 := by
  cases hg : good0 l 0
  · rw [takeR_no hg]; simp
  · by_cases hin : 0 ≤ a ∧ a ≤ (l.length : Int) - 1
    · obtain ⟨i, rfl⟩ : ∃ i : Nat, a = (i : Int) := ⟨a.toNat, by omega⟩
      have hil : i < l.length := by omega
      cases hrow : l.getD i []
      · rw [takeR_none hg hil hrow]; simp
      · rename_i x xs
        rw [takeR_some hg hil hrow]
        refine ⟨by rw [List.length_set]; exact hl, ?_⟩
        have := set_flat_le (l := l) (i := i) (xs := xs) (by rw [hrow]; simp)
        exact Nat.le_trans this hf
    · rw [takeR_far hg hin]; simp
theorem szB (l : List (List Int)) (A : Option Addr) (c : Nat) (hc : l.length ≤ c) (r : Int) (hr : ∀ k, 1048577 < k → laws_szInt64SS.f k l 1048576 = some r) (w : World) (h : (Kd.slice 2 (Kd.int .i64)).C w A l.length l) : Calls Try.prog 9 #[.slice A l.length c, .int .i64 1048576] w fun e w' => e = .returned (.int .i64 r) ∧ Below w.heap.size w w' := (laws_szInt64SS.calls 1048578 A c l 1048576 r w h hc (hr _ (by omega))).mono (by rintro e w' ⟨rfl, hd⟩; exact ⟨rfl, hd.below⟩)
theorem toRR (l : List (List Int)) (A : Option Addr) (c : Nat) (hc : l.length ≤ c) (hl : l.length ≤ 1048576) (hf : l.flatten.length ≤ 1048576) (w : World) (h : (Kd.slice 2 (Kd.int .i64)).C w A l.length l) : Calls Try.prog 11 #[.slice A l.length c] w fun e w' => ∃ v : Value, e = .returned v ∧ RR w' w.heap.size w'.heap.size v l ∧ Below w.heap.size w w' := (laws_toInt64SS.calls 9000000 A c l l w h hc (toSS_f hl hf (by omega))).mono (by rintro e w' ⟨v, rfl, hS, hb⟩; exact ⟨v, rfl, RR.of_S hS, hb⟩)
theorem eqRR (l : List (List Int)) (hl : l.length ≤ 1048576) (hf : l.flatten.length ≤ 1048576) (v v' : Value) (lo hi lo' hi' : Nat) (w : World) (h : RR w lo hi v l) (h' : RR w lo' hi' v' l) : Calls Try.prog 13 #[v, v'] w fun e w' => e = .returned (.bool true) ∧ Below w.heap.size w w' := by
  obtain ⟨A, c, rfl, hc, hC⟩ := h.reads hl (row_small hf)
  obtain ⟨A', c', rfl, hc', hC'⟩ := h'.reads hl (row_small hf)
  exact (laws_eqInt64SS.calls 9000000 A c l A' c' l true w hC hc hC' hc' (eqSS_f hl hf (by omega))).mono (by rintro e w' ⟨rfl, hd⟩; exact ⟨rfl, hd.below⟩)
theorem heldRR (l : List (List Int)) (a : Int) (h0 : 0 ≤ a) (h1 : a ≤ 1048577) (hl : l.length ≤ 1048576) (hf : l.flatten.length ≤ 1048576) (v : Value) (lo hi : Nat) (w : World) (h : RR w lo hi v (markR l a)) : Calls Try.prog 19 #[v, .int .i64 a] w fun e w' => e = .returned (.int .i64 (a + l.flatten.length)) ∧ Below w.heap.size w w' := by
  obtain ⟨A, c, rfl, hc, hC⟩ := h.reads (by rw [markR_length]; exact hl) (markR_rows (row_small hf))
  exact (laws_heldInt64SS.calls 90000000 A c (markR l a) a _ w hC hc (heldSS_f l a h0 (by omega) (by omega) (by omega) (by omega))).mono (by rintro e w' ⟨rfl, hd⟩; exact ⟨rfl, hd.below⟩)
end Go.Proofs.Ytkjligoamechkaa.X
