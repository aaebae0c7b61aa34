/- Contracts of functions, and plain facts: what each call answers, and what it leaves as it was. -/
import Derived.Test.YtkjligoamechkaaCu
import Derived.Test.YtkjligoamechkaaX21
set_option linter.unusedVariables false
set_option linter.unusedSimpArgs false
namespace Go.Proofs.Ytkjligoamechkaa.X
open Go.RowKit Go.Proofs.YtkjligoamechkaaW.PrintWords Go.Proofs.YtkjligoamechkaaW.PrintLast Go.Proofs.YtkjligoamechkaaW.PrintMore
attribute [local go_sem] max2_int min2_int max_two min_two max_three min_three max_four min_four
/-- the first pile with the most sheets: the loop -/
def mostF (l : List (List Int)) : Nat → Nat → Nat → Nat
  | 0, b, _ => b
  | d + 1, b, i => if (rd_L1 l b).length < (rd_L1 l i).length then mostF l d i (i + 1) else mostF l d b (i + 1)
theorem mostF_lt (l : List (List Int)) : ∀ (d b i : Nat), b < l.length → i + d ≤ l.length → mostF l d b i < l.length
  | 0, b, i, hb, _ => hb
  | d + 1, b, i, hb, hi => by
    unfold mostF
    split
    · exact mostF_lt l d i (i + 1) (by omega) (by omega)
    · exact mostF_lt l d b (i + 1) hb (by omega)
theorem implMost_loop (l : List (List Int)) (hl : l.length ≤ 1048576) : ∀ (d k b i : Nat), i + d = l.length → d < k → b < l.length → impl_most.l0 k l b l (l.length : Int) i = some (mostF l d b i : Int) := by
  intro d
  induction d with
  | zero =>
    intro k b i hi hk hb
    obtain ⟨k, rfl⟩ : ∃ m, k = m + 1 := ⟨k - 1, by omega⟩
    simp only [impl_most.l0]
    rw [if_neg (by omega)]
    rfl
  | succ d ih =>
    intro k b i hi hk hb
    obtain ⟨k, rfl⟩ : ∃ m, k = m + 1 := ⟨k - 1, by omega⟩
    simp only [impl_most.l0, mostF]
    rw [if_pos (by omega), if_pos (by omega), if_pos (by omega), if_pos (by omega), if_pos (by omega), w64s (by omega)]
    by_cases h : (rd_L1 l b).length < (rd_L1 l i).length
    · rw [if_pos (by omega), if_pos h]
      exact ih k i (i + 1) (by omega) (by omega) (by omega)
    · rw [if_neg (by omega), if_neg h]
      exact ih k b (i + 1) (by omega) (by omega) hb
theorem specMost_loop (l : List (List Int)) (hl : l.length ≤ 1048576) : ∀ (d k b i : Nat), i + d = l.length → d < k → b < l.length → spec_l04Most.l0 k l b i = some (mostF l d b i : Int) := by
  intro d
  induction d with
  | zero =>
    intro k b i hi hk hb
    obtain ⟨k, rfl⟩ : ∃ m, k = m + 1 := ⟨k - 1, by omega⟩
    simp only [spec_l04Most.l0]
    rw [if_neg (by omega)]
    rfl
  | succ d ih =>
    intro k b i hi hk hb
    obtain ⟨k, rfl⟩ : ∃ m, k = m + 1 := ⟨k - 1, by omega⟩
    simp only [spec_l04Most.l0, mostF]
    rw [if_pos (by omega), if_pos (by omega), if_pos (by omega), if_pos (by omega), w64s (by omega)]
    by_cases h : (rd_L1 l b).length < (rd_L1 l i).length
    · rw [if_pos (by omega), if_pos h]
      exact ih k i (i + 1) (by omega) (by omega) (by omega)
    · rw [if_neg (by omega), if_neg h]
      exact ih k b (i + 1) (by omega) (by omega) hb
def mostR (l : List (List Int)) : Nat := mostF l (l.length - 1) 0 1
theorem implMost_f {l : List (List Int)} (hl : l.length ≤ 1048576) (h0 : 0 < l.length) {k : Nat} (hk : 1048577 < k) : impl_most.f k l = some (mostR l : Int) := by
  unfold impl_most.f mostR
  have h := implMost_loop l hl l.length k 0 0 (by omega) (by omega) h0
  obtain ⟨d, hd⟩ : ∃ d, l.length = d + 1 := ⟨l.length - 1, by omega⟩
  have e : mostF l l.length 0 0 = mostF l (l.length - 1) 0 1 := by
    rw [hd]
    simp [mostF]
  rw [e] at h
  exact h
theorem specMost_f {l : List (List Int)} (hl : l.length ≤ 1048576) (h0 : 0 < l.length) {k : Nat} (hk : 1048577 < k) : spec_l04Most.f k l = some (mostR l : Int) := by
  unfold spec_l04Most.f mostR
  have h := specMost_loop l hl (l.length - 1) k 0 1 (by omega) (by omega) h0
  exact h

theorem mostF_max (l : List (List Int)) : ∀ (d b i : Nat), b < i → i + d = l.length → (∀ j, j < i → (rd_L1 l j).length ≤ (rd_L1 l b).length) → ∀ j, j < l.length → (rd_L1 l j).length ≤ (rd_L1 l (mostF l d b i)).length
  | 0, b, i, hb, hi, h, j, hj => h j (by omega)
  | d + 1, b, i, hb, hi, h, j, hj => by
    unfold mostF
    split
    · rename_i hc
      exact mostF_max l d i (i + 1) (by omega) (by omega) (fun q hq => by rcases Nat.lt_or_ge q i with h_ | h_; (have := h q h_; omega); (have : q = i := by omega); subst this; omega) j hj
    · rename_i hc
      exact mostF_max l d b (i + 1) (by omega) (by omega) (fun q hq => by rcases Nat.lt_or_ge q i with h_ | h_; exact h q h_; (have : q = i := by omega); subst this; omega) j hj
theorem mostR_lt {l : List (List Int)} (h0 : 0 < l.length) : mostR l < l.length := mostF_lt l _ 0 1 h0 (by omega)
theorem rd_getD {l : List (List Int)} {i : Nat} (hi : i < l.length) : rd_L1 l (i : Int) = l.getD i [] := by rw [rd_L1_eq hi, List.getD_eq_getElem?_getD, List.getElem?_eq_getElem hi]; rfl
theorem mostR_max {l : List (List Int)} (h0 : 0 < l.length) {j : Nat} (hj : j < l.length) : (l.getD j []).length ≤ (l.getD (mostR l) []).length := by
  have := mostF_max l (l.length - 1) 0 1 (by omega) (by omega) (fun q hq => by have h_ : q = 0 := (by omega); subst h_; exact Nat.le_refl _) j hj
  rw [rd_getD hj, show mostF l (l.length - 1) 0 1 = mostR l from rfl, rd_getD (mostR_lt h0)] at this
  exact this
theorem set_flat_len : ∀ {l : List (List Int)} {i : Nat} {xs : List Int}, i < l.length → (l.set i xs).flatten.length + (l.getD i []).length = l.flatten.length + xs.length
  | [], i, xs, h => by simp at h
  | p :: l, 0, xs, h => by
    simp only [List.set_cons_zero, List.flatten_cons, List.length_append, List.getD_cons_zero]
    omega
  | p :: l, i + 1, xs, h => by
    have := set_flat_len (l := l) (i := i) (xs := xs) (by simpa using h)
    simp only [List.set_cons_succ, List.flatten_cons, List.length_append, List.getD_cons_succ]
    omega
/-- the fullest pile is not empty while there is a sheet -/
theorem most_some {l : List (List Int)} (h : 0 < l.flatten.length) : l.getD (mostR l) [] ≠ [] := by
  have h0 : 0 < l.length := by
    rcases Nat.eq_zero_or_pos l.length with e | e
    · rw [List.length_eq_zero_iff.1 e] at h; simp at h
    · exact e
  intro e
  have hz : ∀ p ∈ l, p = [] := fun p hp => by
    obtain ⟨j, hj, rfl⟩ := List.getElem_of_mem hp
    have := mostR_max h0 hj
    rw [e, List.getD_eq_getElem?_getD, List.getElem?_eq_getElem hj] at this
    exact List.length_eq_zero_iff.1 (by simpa using this)
  have : l.flatten = [] := List.flatten_eq_nil_iff.2 hz
  rw [this] at h; simp at h
theorem most_none {l : List (List Int)} (h : l.flatten.length = 0) : l.getD (mostR l) [] = [] := by
  have hz := List.flatten_eq_nil_iff.1 (List.length_eq_zero_iff.1 h)
  rw [List.getD_eq_getElem?_getD]
  cases hg : l[mostR l]? with
  | none => rfl
  | some p => exact hz p (List.mem_of_getElem? hg)
/-- the cupboard and the sheets behind k takes -/
def oldL (l : List (List Int)) : Nat → List (List Int)
  | 0 => l
  | k + 1 => (oldL l k).set (mostR (oldL l k)) (((oldL l k).getD (mostR (oldL l k)) []).drop 1)
def oldT (l : List (List Int)) : Nat → List Int
  | 0 => []
  | k + 1 => oldT l k ++ [((oldL l k).getD (mostR (oldL l k)) []).getD 0 0]
theorem oldL_len (l : List (List Int)) : ∀ k, (oldL l k).length = l.length
  | 0 => rfl
  | k + 1 => by rw [oldL, List.length_set, oldL_len l k]
theorem oldT_len (l : List (List Int)) : ∀ k, (oldT l k).length = k
  | 0 => rfl
  | k + 1 => by rw [oldT, List.length_append, oldT_len l k]; rfl
theorem oldL_flat {l : List (List Int)} : ∀ k, k ≤ l.flatten.length → (oldL l k).flatten.length = l.flatten.length - k
  | 0, _ => rfl
  | k + 1, hk => by
    have ih := oldL_flat (l := l) k (by omega)
    have h0 : 0 < (oldL l k).flatten.length := by omega
    have hne := most_some h0
    have hlen : 0 < (oldL l k).length := by
      rcases Nat.eq_zero_or_pos (oldL l k).length with e | e
      · rw [List.length_eq_zero_iff.1 e] at h0; simp at h0
      · exact e
    have := set_flat_len (xs := ((oldL l k).getD (mostR (oldL l k)) []).drop 1) (mostR_lt hlen)
    rw [List.length_drop] at this
    have hp := List.length_pos_iff.2 hne
    rw [oldL]
    omega
/-- what OldestFirst answers -/
def oldR (l : List (List Int)) (a : Int) : List Int × List (List Int) × Int :=
  if good0 l 0 = true then (if a < 0 then ([], [], 2) else (if (l.flatten.length : Int) < a then ([], [], 6) else (oldT l a.toNat, oldL l a.toNat, 0))) else ([], [], 1)
theorem int64Info : (Try.prog.info? 2).map (fun i => (i.zero, i.size, i.bytes)) = some (some (.int .i64 0), 1, 8) := by kernel_rfl
theorem nums_snoc (xs : List Int) (x : Int) : nums .i64 xs ++ [.int .i64 x] = nums .i64 (xs ++ [x]) := by simp [nums]
def lenOf : Value → Nat
  | .slice _ n _ => n
  | _ => 0
theorem mostB (l : List (List Int)) (hl : l.length ≤ 1048576) (h0 : 0 < l.length) (A : Option Addr) (c : Nat) (hc : l.length ≤ c) (w : World) (h : (Kd.slice 2 (Kd.int .i64)).C w A l.length l) :
    Calls Try.prog 47 #[.slice A l.length c] w fun e w' => e = .returned (.int .i64 (mostR l : Int)) ∧ Below w.heap.size w w' := (spec_l04Most.calls 1048578 A c l _ w h hc (specMost_f hl h0 (by omega))).mono (by rintro e w' ⟨rfl, hd⟩; exact ⟨rfl, hd.below⟩)
theorem mostIB (l : List (List Int)) (hl : l.length ≤ 1048576) (h0 : 0 < l.length) (A : Option Addr) (c : Nat) (hc : l.length ≤ c) (w : World) (h : (Kd.slice 2 (Kd.int .i64)).C w A l.length l) :
    Calls Try.prog 49 #[.slice A l.length c] w fun e w' => e = .returned (.int .i64 (mostR l : Int)) ∧ Below w.heap.size w w' := (impl_most.calls 1048578 A c l _ w h hc (implMost_f hl h0 (by omega))).mono (by rintro e w' ⟨rfl, hd⟩; exact ⟨rfl, hd.below⟩)
/-- the sheets taken and the rows, while sheets are taken -/
structure Tk (w W : World) (lo hi g : Nat) (v : Value) (k : Nat) (xs : List Int) (L : List (List Int)) (V : Nat → Value) (B O : Nat → Nat) : Prop where
  rows : Cu W lo hi g L V B O
  ints : W.ownsRow w.heap.size 2 1 v k (nums .i64 xs)
  far : ∀ q, v.ownBlock = some q → ¬ (lo ≤ q ∧ q < hi)
  low : w.heap.size ≤ lo
  new : Below w.heap.size w W
section
variable {w W W1 : World} {lo hi g k : Nat} {v : Value} {xs : List Int} {L : List (List Int)} {V : Nat → Value} {B O : Nat → Nat}
theorem Tk.below (h : Tk w W lo hi g v k xs L V B O) (hb : Below W.heap.size W W1) : Tk w W1 lo hi g v k xs L V B O := ⟨h.rows.below hb, pw_own_below h.ints hb, h.far, h.low, below_step h.new hb⟩
theorem Tk.alloc (h : Tk w W lo hi g v k xs L V B O) (o : Obj) : Tk w (W.alloc o) lo hi g v k xs L V B O := h.below (below_alloc (Below.refl _ _) o)
theorem Tk.drewN (h : Tk w W lo hi g v k xs L V B O) (j : Nat) : Tk w (W.drewN j) lo hi g v k xs L V B O := h.below (pw_below_drewN (Below.refl _ _) j)
theorem Tk.app {g' cap H : Nat} {x : Int} {v' : Value} (h : Tk w W lo hi g v k xs L V B O) (hv : v' = v) (hown : W1.ownsRow w.heap.size 2 1 (.slice (some ⟨g', 0, none⟩) (k + 1) cap) (k + 1) (nums .i64 xs ++ [.int .i64 x])) (hgrow : W.grownBy W1 v'.ownBlock) (hat : v'.ownBlock = some g' ∨ g' = H) (hH : H = W.heap.size) : Tk w W1 lo hi g (.slice (some ⟨g', 0, none⟩) (k + 1) cap) (k + 1) (xs ++ [x]) L V B O := by
  subst hv
  refine ⟨h.rows.keep hgrow.size (fun q h1 h2 => hgrow.block q (Nat.lt_of_lt_of_le h2 h.rows.outer.2.2) (fun e => h.far q e.symm ⟨h1, h2⟩)), by rw [← nums_snoc]; exact hown, fun q hq => ?_, h.low, pw_below_grown h.new _ (Below.size h.new) hgrow (fun k_ e_ => own_base h.ints k_ e_)⟩
  have e : g' = q := by simpa [Value.ownBlock] using hq
  subst e
  rcases hat with h1 | h1
  · exact h.far _ h1
  · have := h.rows.outer.2.2
    omega
theorem Tk.cut (h : Tk w W lo hi g v k xs L V B O) {m : Nat} {x : Int} {ys : List Int} (hm : m < L.length) (hrow : L.getD m [] = x :: ys) (u : Value) (o : Nat) (h1 : ys ≠ [] → o = O m + 1 ∧ ∃ cc, u = .slice (some ⟨B m, o, none⟩) ys.length cc ∧ ys.length ≤ cc) (h2 : ys = [] → ∃ A c, u = .slice A 0 c) : Tk w (W.setCell ⟨g, m, none⟩ u) lo hi g v k xs (L.set m ys) (fun j => if j = m then u else V j) B (fun j => if j = m then o else O j) := by
  have hp := h.rows.put hm ys u o (fun hne => ⟨by rw [hrow]; simp, ⟨1, (h1 hne).1, fun k hk => by rw [hrow]; exact ⟨by simp; omega, by rw [Nat.add_comm]; rfl⟩⟩, (h1 hne).2⟩) h2
  have ho := h.rows.outer
  refine ⟨hp, own_move h.ints (fun q hq => ?_), h.far, h.low, h.new.setCell (by show w.heap.size ≤ g; have := h.low; omega) u⟩
  have : q ≠ g := fun e => h.far q hq (by subst e; exact ⟨ho.1, ho.2.1⟩)
  exact heap_setCell_other W ⟨g, m, none⟩ q u this
/-- the answer of OldestFirst in memory -/
def Ol (w w' : World) (u v : Value) (xs : List Int) (L : List (List Int)) : Prop := ∃ lo hi, w.heap.size ≤ lo ∧ RR w' lo hi v L ∧ w'.ownsRow w.heap.size 2 1 u xs.length (nums .i64 xs) ∧ (∀ q, u.ownBlock = some q → ¬ (lo ≤ q ∧ q < hi)) ∧ Below w.heap.size w w'
theorem Tk.ol {c n : Nat} (h : Tk w W lo hi g v k xs L V B O) (hk : xs.length = k) (hne : L ≠ []) (hn : L.length = n) (hc : n ≤ c) : Ol w W v (.slice (some ⟨g, 0, none⟩) n c) xs L := by
  subst hn hk
  exact ⟨lo, hi, h.low, .inr ⟨hne, g, c, V, B, O, rfl, hc, h.rows⟩, h.ints, h.far, h.new⟩
theorem Ol.nix {A : Option Addr} {c : Nat} (h : W.ownsRow w.heap.size 2 1 v 0 (nums .i64 [])) (hb : Below w.heap.size w W) : Ol w W v (.slice A 0 c) [] [] := ⟨w.heap.size, w.heap.size, Nat.le_refl _, RR.empty _ _ _ _ _, h, fun q _ h => by omega, hb⟩
theorem Ol.made {A : Option Addr} {c : Nat} (w W : World) (hb : Below w.heap.size w W) : Ol w ((W.alloc (.cells #[] 2)).alloc (.cells #[] 32)) (.slice (some ⟨W.heap.size, 0, none⟩) 0 0) (.slice A 0 c) [] [] :=
  Ol.nix (pw_own_below (e := 2) (size := 1) (World.ownsRow_made W #[] 0 (Below.size hb) (by decide) (by rfl)) (below_alloc (Below.refl _ _) _)) (below_alloc (below_alloc hb _) _)
theorem Ol.nils {A : Option Addr} {c : Nat} (w W : World) (hb : Below w.heap.size w W) : Ol w W (.slice none 0 0) (.slice A 0 c) [] [] := Ol.nix ⟨rfl, .inl ⟨rfl, rfl⟩⟩ hb
end
theorem oldR_no {l : List (List Int)} {a : Int} (h : good0 l 0 = false) : oldR l a = ([], [], 1) := by unfold oldR; rw [if_neg (by rw [h]; decide)]
theorem oldR_neg {l : List (List Int)} {a : Int} (h : good0 l 0 = true) (h2 : a < 0) : oldR l a = ([], [], 2) := by unfold oldR; rw [if_pos h, if_pos h2]
theorem oldR_far {l : List (List Int)} {a : Int} (h : good0 l 0 = true) (h2 : ¬ a < 0) (h3 : (l.flatten.length : Int) < a) : oldR l a = ([], [], 6) := by unfold oldR; rw [if_pos h, if_neg h2, if_pos h3]
theorem oldR_yes {l : List (List Int)} {a : Nat} (h : good0 l 0 = true) (h3 : a ≤ l.flatten.length) : oldR l (a : Int) = (oldT l a, oldL l a, 0) := by unfold oldR; rw [if_pos h, if_neg (by omega), if_neg (by omega)]; rfl
theorem on_ {ops : Array Oper} {oi : Oper} {a : Act} {X Y : Prop} (hw : Region.wanted oi (yielded ops a.tmps) = true) (h : X) : if Region.wanted oi (yielded ops a.tmps) = true then X else Y := by rw [if_pos hw]; exact h
theorem Tk.drew {w W : World} {lo hi g k : Nat} {v : Value} {xs : List Int} {L : List (List Int)} {V : Nat → Value} {B O : Nat → Nat} (h : Tk w W lo hi g v k xs L V B O) : Tk w W.drew lo hi g v k xs L V B O := h.below (below_drew (Below.refl _ _))
theorem concatB (l : List (List Int)) (hf : l.flatten.length ≤ 1048576) (A : Option Addr) (c : Nat) (hc : l.length ≤ c) (w : World) (h : (Kd.slice 2 (Kd.int .i64)).C w A l.length l) :
    Calls Try.prog 34 #[.slice A l.length c] w fun e w' => ∃ A' c', e = .returned (.slice A' l.flatten.length c') ∧ l.flatten.length ≤ c' ∧ (Kd.int .i64).C w' A' l.flatten.length l.flatten ∧ Below w.heap.size w w' :=
  (slices_Concat_int64_int64.calls A c l _ w h hc (by unfold slices_Concat_int64_int64.f; rw [if_pos (by omega)])).mono (by
    rintro e w' ⟨v, rfl, hR, hb⟩
    obtain ⟨A2, c2, rfl, hc2, hC⟩ := Kd.R_reads hR
    exact ⟨A2, c2, rfl, hc2, hC, hb⟩)
theorem sizeIB (l : List Int) (A : Option Addr) (c : Nat) (hc : l.length ≤ c) (w : World) (h : (Kd.int .i64).C w A l.length l) : Calls Try.prog 48 #[.slice A l.length c] w fun e w' => e = .returned (.int .i64 (l.length : Int)) ∧ Below w.heap.size w w' := (impl_size_int64_48.calls A c l _ w h hc rfl).mono (by rintro e w' ⟨rfl, hd⟩; exact ⟨rfl, hd.below⟩)
set_option maxHeartbeats 8000000 in
set_option maxRecDepth 100000 in
theorem specOld_no (l : List (List Int)) (hl : l.length ≤ 1048576) (hf : l.flatten.length ≤ 1048576) (lo hi : Nat) (v0 : Value) (w : World) (hX : RR w lo hi v0 l) (hg : good0 l 0 = false) (a : Int) :
    Calls Try.prog 20 #[v0, .int .i64 a] w fun e w' => ∃ u v : Value, e = .returned (.tuple #[u, v, .int .i64 (oldR l a).2.2]) ∧ Ol w w' u v (oldR l a).1 (oldR l a).2.1 := by
  obtain ⟨A, c, rfl, hc, hC⟩ := hX.reads hl (row_small hf)
  have HL := Aside0.mk hC
  have HW : Aside0 (Below w.heap.size w w) := ⟨Below.refl _ _⟩
  have HCU := Aside0.mk (fun W h => cupS l hl hf A c hc W h)
  rw [oldR_no hg]
  rw [hg] at HCU
  clear hC hX hg
  go_enter Try.func20, Try.ntmps20
  go_wp2_with (fail)
  refine (HCU.out _ (Kd.C_below HL.out (by with_reducible repeat (first | exact HW.out | refine Blk.alloc ?_ _ | refine Rw.alloc ?_ _ | refine Arg.alloc ?_ _ | apply below_alloc | refine Blk.drew ?_ | refine Rw.drew ?_ | refine Arg.drew ?_ | apply below_drew | refine Blk.drewN ?_ _ | refine Rw.drewN ?_ _ | refine Arg.drewN ?_ _ | apply pw_below_drewN)))).mono ?_
  rintro e w1 ⟨rfl, hb⟩
  have hs_w1 := Below.size hb
  (try simp at hs_w1)
  replace HW : Aside0 (Below w.heap.size w w1) := ⟨below_step (by with_reducible repeat (first | exact HW.out | refine Blk.alloc ?_ _ | refine Rw.alloc ?_ _ | refine Arg.alloc ?_ _ | apply below_alloc | refine Blk.drew ?_ | refine Rw.drew ?_ | refine Arg.drew ?_ | apply below_drew | refine Blk.drewN ?_ _ | refine Rw.drewN ?_ _ | refine Arg.drewN ?_ _ | apply pw_below_drewN)) hb⟩
  clear hb
  go_wp2
  go_ret3
  exact ⟨_, _, rfl, Ol.made _ _ HW.out⟩
set_option maxHeartbeats 8000000 in
set_option maxRecDepth 100000 in
theorem specOld_neg (l : List (List Int)) (hl : l.length ≤ 1048576) (hf : l.flatten.length ≤ 1048576) (lo hi : Nat) (v0 : Value) (w : World) (hX : RR w lo hi v0 l) (hg : good0 l 0 = true) (a : Int) (ha : a < 0) :
    Calls Try.prog 20 #[v0, .int .i64 a] w fun e w' => ∃ u v : Value, e = .returned (.tuple #[u, v, .int .i64 (oldR l a).2.2]) ∧ Ol w w' u v (oldR l a).1 (oldR l a).2.1 := by
  obtain ⟨A, c, rfl, hc, hC⟩ := hX.reads hl (row_small hf)
  have HL := Aside0.mk hC
  have HW : Aside0 (Below w.heap.size w w) := ⟨Below.refl _ _⟩
  have HCU := Aside0.mk (fun W h => cupS l hl hf A c hc W h)
  rw [oldR_neg hg ha]
  rw [hg] at HCU
  clear hC hX hg
  go_enter Try.func20, Try.ntmps20
  go_wp2_with (fail)
  refine (HCU.out _ (Kd.C_below HL.out (by with_reducible repeat (first | exact HW.out | refine Blk.alloc ?_ _ | refine Rw.alloc ?_ _ | refine Arg.alloc ?_ _ | apply below_alloc | refine Blk.drew ?_ | refine Rw.drew ?_ | refine Arg.drew ?_ | apply below_drew | refine Blk.drewN ?_ _ | refine Rw.drewN ?_ _ | refine Arg.drewN ?_ _ | apply pw_below_drewN)))).mono ?_
  rintro e w1 ⟨rfl, hb⟩
  have hs_w1 := Below.size hb
  (try simp at hs_w1)
  replace HW : Aside0 (Below w.heap.size w w1) := ⟨below_step (by with_reducible repeat (first | exact HW.out | refine Blk.alloc ?_ _ | refine Rw.alloc ?_ _ | refine Arg.alloc ?_ _ | apply below_alloc | refine Blk.drew ?_ | refine Rw.drew ?_ | refine Arg.drew ?_ | apply below_drew | refine Blk.drewN ?_ _ | refine Rw.drewN ?_ _ | refine Arg.drewN ?_ _ | apply pw_below_drewN)) hb⟩
  clear hb
  go_wp2
  go_ret3
  exact ⟨_, _, rfl, Ol.made _ _ HW.out⟩
set_option maxHeartbeats 8000000 in
set_option maxRecDepth 100000 in
theorem implOld_no (l : List (List Int)) (hl : l.length ≤ 1048576) (hf : l.flatten.length ≤ 1048576) (lo hi : Nat) (v0 : Value) (w : World) (hX : RR w lo hi v0 l) (hg : good0 l 0 = false) (a : Int) :
    Calls Try.prog 21 #[v0, .int .i64 a] w fun e w' => ∃ u v : Value, e = .returned (.tuple #[u, v, .int .i64 (oldR l a).2.2]) ∧ Ol w w' u v (oldR l a).1 (oldR l a).2.1 := by
  obtain ⟨A, c, rfl, hc, hC⟩ := hX.reads hl (row_small hf)
  have HL := Aside0.mk hC
  have HW : Aside0 (Below w.heap.size w w) := ⟨Below.refl _ _⟩
  have HCU := Aside0.mk (fun W h => cupI l hf A c hc W h)
  rw [oldR_no hg]
  rw [hg] at HCU
  clear hC hX hg
  go_enter Try.func21, Try.ntmps21
  go_wp2_with (fail)
  refine (HCU.out _ (Kd.C_below HL.out (by with_reducible repeat (first | exact HW.out | refine Blk.alloc ?_ _ | refine Rw.alloc ?_ _ | refine Arg.alloc ?_ _ | apply below_alloc | refine Blk.drew ?_ | refine Rw.drew ?_ | refine Arg.drew ?_ | apply below_drew | refine Blk.drewN ?_ _ | refine Rw.drewN ?_ _ | refine Arg.drewN ?_ _ | apply pw_below_drewN)))).mono ?_
  rintro e w1 ⟨rfl, hb⟩
  have hs_w1 := Below.size hb
  (try simp at hs_w1)
  replace HW : Aside0 (Below w.heap.size w w1) := ⟨below_step (by with_reducible repeat (first | exact HW.out | refine Blk.alloc ?_ _ | refine Rw.alloc ?_ _ | refine Arg.alloc ?_ _ | apply below_alloc | refine Blk.drew ?_ | refine Rw.drew ?_ | refine Arg.drew ?_ | apply below_drew | refine Blk.drewN ?_ _ | refine Rw.drewN ?_ _ | refine Arg.drewN ?_ _ | apply pw_below_drewN)) hb⟩
  clear hb
  go_wp2
  go_ret3
  exact ⟨_, _, rfl, Ol.nils _ _ HW.out⟩
set_option maxHeartbeats 8000000 in
set_option maxRecDepth 100000 in
theorem implOld_neg (l : List (List Int)) (hl : l.length ≤ 1048576) (hf : l.flatten.length ≤ 1048576) (lo hi : Nat) (v0 : Value) (w : World) (hX : RR w lo hi v0 l) (hg : good0 l 0 = true) (a : Int) (ha : a < 0) :
    Calls Try.prog 21 #[v0, .int .i64 a] w fun e w' => ∃ u v : Value, e = .returned (.tuple #[u, v, .int .i64 (oldR l a).2.2]) ∧ Ol w w' u v (oldR l a).1 (oldR l a).2.1 := by
  obtain ⟨A, c, rfl, hc, hC⟩ := hX.reads hl (row_small hf)
  have HL := Aside0.mk hC
  have HW : Aside0 (Below w.heap.size w w) := ⟨Below.refl _ _⟩
  have HCU := Aside0.mk (fun W h => cupI l hf A c hc W h)
  rw [oldR_neg hg ha]
  rw [hg] at HCU
  clear hC hX hg
  go_enter Try.func21, Try.ntmps21
  go_wp2_with (fail)
  refine (HCU.out _ (Kd.C_below HL.out (by with_reducible repeat (first | exact HW.out | refine Blk.alloc ?_ _ | refine Rw.alloc ?_ _ | refine Arg.alloc ?_ _ | apply below_alloc | refine Blk.drew ?_ | refine Rw.drew ?_ | refine Arg.drew ?_ | apply below_drew | refine Blk.drewN ?_ _ | refine Rw.drewN ?_ _ | refine Arg.drewN ?_ _ | apply pw_below_drewN)))).mono ?_
  rintro e w1 ⟨rfl, hb⟩
  have hs_w1 := Below.size hb
  (try simp at hs_w1)
  replace HW : Aside0 (Below w.heap.size w w1) := ⟨below_step (by with_reducible repeat (first | exact HW.out | refine Blk.alloc ?_ _ | refine Rw.alloc ?_ _ | refine Arg.alloc ?_ _ | apply below_alloc | refine Blk.drew ?_ | refine Rw.drew ?_ | refine Arg.drew ?_ | apply below_drew | refine Blk.drewN ?_ _ | refine Rw.drewN ?_ _ | refine Arg.drewN ?_ _ | apply pw_below_drewN)) hb⟩
  clear hb
  go_wp2
  go_ret3
  exact ⟨_, _, rfl, Ol.nils _ _ HW.out⟩
set_option maxHeartbeats 8000000 in
set_option maxRecDepth 100000 in
theorem implOld_far (l : List (List Int)) (hl : l.length ≤ 1048576) (hf : l.flatten.length ≤ 1048576) (lo hi : Nat) (v0 : Value) (w : World) (hX : RR w lo hi v0 l) (hg : good0 l 0 = true) (a : Int) (ha : ¬ a < 0) (h3 : (l.flatten.length : Int) < a) :
    Calls Try.prog 21 #[v0, .int .i64 a] w fun e w' => ∃ u v : Value, e = .returned (.tuple #[u, v, .int .i64 (oldR l a).2.2]) ∧ Ol w w' u v (oldR l a).1 (oldR l a).2.1 := by
  obtain ⟨A, c, rfl, hc, hC⟩ := hX.reads hl (row_small hf)
  have HL := Aside0.mk hC
  have HW : Aside0 (Below w.heap.size w w) := ⟨Below.refl _ _⟩
  have HCU := Aside0.mk (fun W h => cupI l hf A c hc W h)
  have HCN := Aside0.mk (fun W h => concatB l hf A c hc W h)
  have HSZ := Aside0.mk (fun A c hc W h => sizeIB l.flatten A c hc W h)
  rw [oldR_far hg ha h3]
  rw [hg] at HCU
  clear hC hX hg
  have hf9 := hf
  generalize l.flatten.length = fl at *
  go_enter Try.func21, Try.ntmps21
  go_wp2_with (fail)
  refine (HCU.out _ (Kd.C_below HL.out (by with_reducible repeat (first | exact HW.out | refine Blk.alloc ?_ _ | refine Rw.alloc ?_ _ | refine Arg.alloc ?_ _ | apply below_alloc | refine Blk.drew ?_ | refine Rw.drew ?_ | refine Arg.drew ?_ | apply below_drew | refine Blk.drewN ?_ _ | refine Rw.drewN ?_ _ | refine Arg.drewN ?_ _ | apply pw_below_drewN)))).mono ?_
  rintro e w1 ⟨rfl, hb⟩
  have hs_w1 := Below.size hb
  (try simp at hs_w1)
  replace HW : Aside0 (Below w.heap.size w w1) := ⟨below_step (by with_reducible repeat (first | exact HW.out | refine Blk.alloc ?_ _ | refine Rw.alloc ?_ _ | refine Arg.alloc ?_ _ | apply below_alloc | refine Blk.drew ?_ | refine Rw.drew ?_ | refine Arg.drew ?_ | apply below_drew | refine Blk.drewN ?_ _ | refine Rw.drewN ?_ _ | refine Arg.drewN ?_ _ | apply pw_below_drewN)) hb⟩
  clear hb
  go_wp2_with (fail)
  refine (HCN.out _ (Kd.C_below HL.out (by with_reducible repeat (first | exact HW.out | refine Blk.alloc ?_ _ | refine Rw.alloc ?_ _ | refine Arg.alloc ?_ _ | apply below_alloc | refine Blk.drew ?_ | refine Rw.drew ?_ | refine Arg.drew ?_ | apply below_drew | refine Blk.drewN ?_ _ | refine Rw.drewN ?_ _ | refine Arg.drewN ?_ _ | apply pw_below_drewN)))).mono ?_
  rintro e w2 ⟨A5, c5, rfl, hc5', hC5, hb⟩
  have HC5 := Aside0.mk hC5
  replace HW : Aside0 (Below w.heap.size w w2) := ⟨below_step HW.out hb⟩
  clear hb hC5
  go_wp2_with (fail)
  refine (HSZ.out A5 c5 hc5' _ HC5.out).mono ?_
  rintro e w3 ⟨rfl, hb⟩
  have hs_w3 := Below.size hb
  (try simp at hs_w3)
  replace HW : Aside0 (Below w.heap.size w w3) := ⟨below_step (by with_reducible repeat (first | exact HW.out | refine Blk.alloc ?_ _ | refine Rw.alloc ?_ _ | refine Arg.alloc ?_ _ | apply below_alloc | refine Blk.drew ?_ | refine Rw.drew ?_ | refine Arg.drew ?_ | apply below_drew | refine Blk.drewN ?_ _ | refine Rw.drewN ?_ _ | refine Arg.drewN ?_ _ | apply pw_below_drewN)) hb⟩
  clear hb
  clear HC5 hc5'
  go_wp2
  go_ret3
  exact ⟨_, _, rfl, Ol.nils _ _ HW.out⟩
end Go.Proofs.Ytkjligoamechkaa.X
