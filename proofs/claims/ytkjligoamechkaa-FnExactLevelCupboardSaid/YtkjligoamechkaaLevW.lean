/- Contracts of functions, and plain facts: what each call answers, and what it leaves as it was. -/
import Derived.Test.YtkjligoamechkaaLev
import Derived.Test.YtkjligoamechkaaHead
set_option linter.unusedVariables false
set_option linter.unusedSimpArgs false
namespace Go.Proofs.Ytkjligoamechkaa.X
open Go.RowKit Go.Proofs.YtkjligoamechkaaW.PrintWords Go.Proofs.YtkjligoamechkaaW.PrintLast Go.Proofs.YtkjligoamechkaaW.PrintMore
attribute [local go_sem] max2_int min2_int max_two min_two max_three min_three max_four min_four
section
variable {w W W1 : World} {lo g : Nat} {L : List (List Int)} {V : Nat → Value}
theorem Hd.val (h : Hd W lo g L V) {i : Nat} (hi : i < L.length) : ∃ A c, V i = .slice A (L.getD i []).length c := by
  rcases (h.ints i hi).2 with ⟨hv, hz⟩ | ⟨q', cap', cur', hv, _⟩
  · exact ⟨none, 0, by rw [hv, hz]⟩
  · exact ⟨_, cap', hv⟩
theorem Hd.head (h : Hd W lo g L V) {i : Nat} (hi : i < L.length) (hne : 0 < (L.getD i []).length) : ∃ q c, V i = .slice (some ⟨q, 0, none⟩) (L.getD i []).length c ∧ (L.getD i []).length ≤ c := by
  rcases (h.ints i hi).2 with ⟨hv, hz⟩ | ⟨q', cap', cur', hv, hlo, hq, hn, _⟩
  · omega
  · exact ⟨q', cap', hv, hn⟩
theorem Hd.num (h : Hd W lo g L V) {i q n c k : Nat} (hi : i < L.length) (hv : V i = .slice (some ⟨q, 0, none⟩) n c) (hk : k < (L.getD i []).length) : ∃ cur : Array Value, W.heap[q]? = some (.cells cur 2 (0, 0)) ∧ cur[k]? = some (.int .i64 ((L.getD i []).getD k 0)) := by
  rcases (h.ints i hi).2 with ⟨_, hz⟩ | ⟨q', cap', cur', hv', hlo, hq, hn, _, _, ht⟩
  · omega
  · rw [hv'] at hv
    injection hv with e1 e2 e3
    injection e1 with e1
    injection e1 with e1
    subst e1
    refine ⟨cur', hq, ?_⟩
    have h1 : cur'.toList[k]? = (nums .i64 (L.getD i []))[k]? := by rw [← ht, List.getElem?_take_of_lt (by omega)]
    rw [Array.getElem?_toList] at h1
    rw [h1]
    generalize L.getD i [] = row at hk
    rw [nums, List.getElem?_map, List.getElem?_eq_getElem hk, List.getD_eq_getElem?_getD, List.getElem?_eq_getElem hk]; rfl
/-- rows at their blocks' heads, while a cupboard is levelled -/
structure Lw (w W : World) (lo g : Nat) (L : List (List Int)) (V : Nat → Value) : Prop where
  rows : Hd W lo g L V
  low : w.heap.size ≤ lo
  new : Below w.heap.size w W
theorem Lw.below (h : Lw w W lo g L V) (hb : Below W.heap.size W W1) : Lw w W1 lo g L V := ⟨h.rows.below hb, h.low, below_step h.new hb⟩
theorem Lw.alloc (h : Lw w W lo g L V) (o : Obj) : Lw w (W.alloc o) lo g L V := h.below (below_alloc (Below.refl _ _) o)
theorem Lw.drew (h : Lw w W lo g L V) : Lw w W.drew lo g L V := h.below (below_drew (Below.refl _ _))
theorem Lw.drewN (h : Lw w W lo g L V) (k : Nat) : Lw w (W.drewN k) lo g L V := h.below (pw_below_drewN (Below.refl _ _) k)
theorem Lw.num (h : Lw w W lo g L V) {i q n c k : Nat} (hi : i < L.length) (hv : V i = .slice (some ⟨q, 0, none⟩) n c) (hk : k < (L.getD i []).length) : W.cell? ⟨q, k, none⟩ = some (.int .i64 ((L.getD i []).getD k 0)) := by
  obtain ⟨cur, h1, h2⟩ := h.rows.num hi hv hk
  rw [cell_of_row W q _ cur _ _ h1]; exact h2
/-- a row was written behind its end, and is not yet stored -/
def Md (w W : World) (lo g : Nat) (L : List (List Int)) (V : Nat → Value) (f : Nat) (u : Value) (xs : List Int) : Prop :=
  ∃ W2 : World, Lw w W2 lo g L V ∧ W2.grownBy W (V f).ownBlock ∧ W.ownsRow lo 2 1 u xs.length (nums .i64 xs) ∧ ∀ q, u.ownBlock = some q → (V f).ownBlock = some q ∨ W2.heap.size ≤ q
theorem Lw.app {g' cap H n f : Nat} {x : Int} {xs : List Int} {v' : Value} (h : Lw w W lo g L V) (hv : V f = v') (hn : xs.length = n) (hown : W1.ownsRow lo 2 1 (.slice (some ⟨g', 0, none⟩) (n + 1) cap) (n + 1) (nums .i64 xs ++ [.int .i64 x])) (hgrow : W.grownBy W1 v'.ownBlock) (hat : v'.ownBlock = some g' ∨ g' = H) (hH : H = W.heap.size) : Md w W1 lo g L V f (.slice (some ⟨g', 0, none⟩) (n + 1) cap) (xs ++ [x]) := by
  subst hv hn
  refine ⟨W, h, hgrow, by rw [← nums_snoc, List.length_append]; exact hown, fun q hq => ?_⟩
  have e : g' = q := by simpa [Value.ownBlock] using hq
  subst e
  rcases hat with h1 | h1
  · exact .inl h1
  · exact .inr (by omega)
section
variable {f : Nat} {u : Value} {xs : List Int}
theorem Md.outer (h : Md w W lo g L V f u xs) (hf : f < L.length) : ∃ cells : Array Value, W.heap[g]? = some (.cells cells 32 (0, 0)) ∧ ∀ i, i < L.length → cells[i]? = some (V i) := by
  obtain ⟨W2, h1, hg, _, _⟩ := h
  obtain ⟨cells, h3, h4⟩ := h1.rows.rows
  exact ⟨cells, (hg.block g h1.rows.outer.2 (fun e => ((h1.rows.apart f hf g e.symm).1 rfl).elim)).trans h3, h4⟩
theorem Md.cell (h : Md w W lo g L V f u xs) (hf : f < L.length) {i : Nat} (hi : i < L.length) : W.cell? ⟨g, i, none⟩ = some (V i) := by
  obtain ⟨cells, h1, h2⟩ := h.outer hf
  rw [cell_of_row W g i cells _ _ h1]; exact h2 i hi
theorem Md.frozen (h : Md w W lo g L V f u xs) (hf : f < L.length) (i : Nat) : W.frozen? ⟨g, i, none⟩ = false := by
  obtain ⟨cells, h1, _⟩ := h.outer hf
  exact frozen_of_row W g i cells _ h1
theorem Md.num (h : Md w W lo g L V f u xs) (hf : f < L.length) {i q n c k : Nat} (hi : i < L.length) (hif : i ≠ f) (hv : V i = .slice (some ⟨q, 0, none⟩) n c) (hk : k < (L.getD i []).length) : W.cell? ⟨q, k, none⟩ = some (.int .i64 ((L.getD i []).getD k 0)) := by
  obtain ⟨W2, h1, hg, _, _⟩ := h
  obtain ⟨cur, h3, h4⟩ := h1.rows.num hi hv hk
  have hq : (V i).ownBlock = some q := by rw [hv]; rfl
  have h5 := (hg.block q (own_lt (h1.rows.ints i hi) q hq) (fun e => (h1.rows.apart i hi q hq).2 f hf (Ne.symm hif) e.symm)).trans h3
  rw [cell_of_row W q _ cur _ _ h5]; exact h4
theorem Md.store (h : Md w W lo g L V f u xs) (hf : f < L.length) : Lw w (W.setCell ⟨g, f, none⟩ u) lo g (L.set f xs) (fun j => if j = f then u else V j) := by
  obtain ⟨W2, h1, hg, ho, hat⟩ := h
  have hb : w.heap.size ≤ g := Nat.le_trans h1.low h1.rows.outer.1
  exact ⟨h1.rows.put hf hg (fun q hq => hq) ho hat, h1.low, (pw_below_grown h1.new _ (Below.size h1.new) hg (fun k_ e_ => Nat.le_trans h1.low (own_base (h1.rows.ints f hf) k_ e_))).setCell hb u⟩
end
theorem Lw.cut (h : Lw w W lo g L V) {i m c : Nat} {A : Option Addr} (hi : i < L.length) (hv : V i = .slice A (L.getD i []).length c) (hm : m ≤ (L.getD i []).length) : Lw w (W.setCell ⟨g, i, none⟩ (.slice A m c)) lo g (L.set i ((L.getD i []).take m)) (fun j => if j = i then .slice A m c else V j) :=
  ⟨h.rows.cut hi hv hm, h.low, h.new.setCell (by show w.heap.size ≤ g; have := h.low; have := h.rows.outer.1; omega) _⟩
theorem Lw.fin {n c : Nat} (h : Lw w W lo g L V) (hne : 0 < n) (hn : L.length = n) (hc : n ≤ c) : RR W w.heap.size W.heap.size (.slice (some ⟨g, 0, none⟩) n c) L ∧ Below w.heap.size w W := by
  subst hn
  exact ⟨(h.rows.rr (List.length_pos_iff.1 hne) hc).lower h.low, h.new⟩
end
theorem pot_le (l : List (List Int)) : pot l ≤ l.flatten.length * l.flatten.length := by
  induction l with
  | nil => simp [pot]
  | cons p l ih =>
    simp only [pot, List.map_cons, List.sum_cons, List.flatten_cons, List.length_append] at ih ⊢
    generalize (l.map fun p => p.length * p.length).sum = s at *
    generalize l.flatten.length = a at *
    generalize p.length = b at *
    have : (b + a) * (b + a) = b * b + b * a + a * b + a * a := by rw [Nat.add_mul, Nat.mul_add, Nat.mul_add]; omega
    omega
theorem pot_small {l : List (List Int)} (hf : l.flatten.length ≤ 1048576) : pot l ≤ 1099511627776 := by
  have h1 := pot_le l
  have h2 := Nat.mul_le_mul hf hf
  omega
theorem lvS_flat {l : List (List Int)} (h0 : 0 < l.length) (h : ¬ lvE l) : (lvS l).flatten.length = l.flatten.length := by
  have hm := mostR_lt h0
  have hf := fewR_lt h0
  unfold lvE at h
  unfold lvS
  generalize mostR l = m at *
  generalize fewR l = f at *
  generalize (l.getD m []).getD ((l.getD m []).length - 1) 0 = x at *
  have hne : m ≠ f := by rintro rfl; omega
  have e3 : (l.set f (l.getD f [] ++ [x])).getD m [] = l.getD m [] := by
    rw [List.getD_eq_getElem?_getD, List.getElem?_set_ne (Ne.symm hne), ← List.getD_eq_getElem?_getD]
  have e1 := set_flat_len (l := l) (i := f) (xs := l.getD f [] ++ [x]) hf
  have e2 := set_flat_len (l := l.set f (l.getD f [] ++ [x])) (i := m) (xs := (l.getD m []).take ((l.getD m []).length - 1)) (by rw [List.length_set]; exact hm)
  rw [e3] at e2
  rw [List.length_append, List.length_cons, List.length_nil] at e1
  rw [List.length_take] at e2
  omega
theorem lvL_flat {l : List (List Int)} (h0 : 0 < l.length) : ∀ {N : Nat}, (∀ k, k < N → ¬ lvE (lvL l k)) → (lvL l N).flatten.length = l.flatten.length
  | 0, _ => rfl
  | k + 1, h => by
    rw [lvL, lvS_flat (by rw [lvL_len]; exact h0) (h k (by omega))]
    exact lvL_flat h0 (fun j hj => h j (by omega))
set_option maxHeartbeats 8000000 in
set_option maxRecDepth 100000 in
theorem specLev_go (l : List (List Int)) (hl : l.length ≤ 1048576) (hf : l.flatten.length ≤ 1048576) (lo hi : Nat) (v0 : Value) (w : World) (hX : RR w lo hi v0 l) (hg : good0 l 0 = true) (hlne : l ≠ []) (N : Nat) (hN : N ≤ 1099511627776) (hNe : lvE (lvL l N)) (hNk : ∀ k, k < N → ¬ lvE (lvL l k)) :
    Calls Try.prog 25 #[v0] w fun e w' => ∃ v : Value, e = .returned (.tuple #[v, .int .i64 (N : Int), .int .i64 0]) ∧ RR w' w.heap.size w'.heap.size v (lvL l N) ∧ Below w.heap.size w w' := by
  obtain ⟨A, c, rfl, hc, hC⟩ := hX.reads hl (row_small hf)
  have HL := Aside0.mk hC
  have HW : Aside0 (Below w.heap.size w w) := ⟨Below.refl _ _⟩
  have HCU := Aside0.mk (fun W h => cupS l hl hf A c hc W h)
  obtain ⟨i0, hi_, hz0, hz1, hz2⟩ := info_parts int64Info
  have HI := Aside0.mk (And.intro hi_ (And.intro hz0 (And.intro hz1 hz2)))
  have HOW := Aside0.mk (fun W h => ownHd l hl hf hlne A c hc W h)
  have hpos : 0 < l.length := List.length_pos_iff.2 hlne
  have HNE : Aside0 (((lvL l N).getD (mostR (lvL l N)) []).length < ((lvL l N).getD (fewR (lvL l N)) []).length + 2) := ⟨hNe⟩
  have HNK := Aside0.mk hNk
  have HFL : Aside0 (∀ k, k ≤ N → (lvL l k).flatten.length = l.flatten.length) := ⟨fun k hk => lvL_flat hpos (fun j hj => hNk j (by omega))⟩
  rw [hg] at HCU
  clear hC hX hi_ hz0 hz1 hz2 hNe hNk
  go_enter Try.func25, Try.ntmps25
  go_wp2_with (fail)
  refine (HCU.out _ (Kd.C_below HL.out (by with_reducible repeat (first | exact HW.out | refine Blk.alloc ?_ _ | refine Rw.alloc ?_ _ | refine Arg.alloc ?_ _ | apply below_alloc | refine Blk.drew ?_ | refine Rw.drew ?_ | refine Arg.drew ?_ | apply below_drew | refine Blk.drewN ?_ _ | refine Rw.drewN ?_ _ | refine Arg.drewN ?_ _ | apply pw_below_drewN)))).mono ?_
  rintro e w1 ⟨rfl, hb⟩
  have hs_w1 := Below.size hb
  (try simp at hs_w1)
  replace HW : Aside0 (Below w.heap.size w w1) := ⟨below_step (by with_reducible repeat (first | exact HW.out | refine Blk.alloc ?_ _ | refine Rw.alloc ?_ _ | refine Arg.alloc ?_ _ | apply below_alloc | refine Blk.drew ?_ | refine Rw.drew ?_ | refine Arg.drew ?_ | apply below_drew | refine Blk.drewN ?_ _ | refine Rw.drewN ?_ _ | refine Arg.drewN ?_ _ | apply pw_below_drewN)) hb⟩
  clear hb
  go_wp2_with (fail)
  refine (HOW.out _ (Kd.C_below HL.out (by with_reducible repeat (first | exact HW.out | refine Blk.alloc ?_ _ | refine Rw.alloc ?_ _ | refine Arg.alloc ?_ _ | apply below_alloc | refine Blk.drew ?_ | refine Rw.drew ?_ | refine Arg.drew ?_ | apply below_drew | refine Blk.drewN ?_ _ | refine Rw.drewN ?_ _ | refine Arg.drewN ?_ _ | apply pw_below_drewN)))).mono ?_
  rintro e w2 ⟨g, c2, V, rfl, hc2, hH, hb⟩
  obtain ⟨lo1, hlo1⟩ : ∃ q, w1.heap.size = q := ⟨_, rfl⟩
  rw [hlo1] at hH
  have hlow := Below.size HW.out
  have HK0 : Aside0 (Lw w w2 lo1 g (lvL l 0) V) := ⟨⟨hH, by omega, below_step HW.out hb⟩⟩
  clear hH hb hlow hlo1 HW HL HCU HOW
  go_wp2
  go_loopw [6] (fun v6 w' => ∃ (k : Nat) (V : Nat → Value), k ≤ N ∧ v6 = .int .i64 k ∧ Aside0 (Lw w w' lo1 g (lvL l k) V)) (fun v6 _ => N - (intOf v6).toNat)
  case atStart => exact ⟨0, V, by omega, rfl, HK0⟩
  case round =>
    clear HK0
    obtain ⟨k, V, hk, rfl, HK⟩ := hrel
    obtain ⟨wo, rfl⟩ : ∃ wo : World, wo = wr := ⟨_, rfl⟩
    have hk9 : IntKind.i64.wrap ((k : Int) + 1) = (k : Int) + 1 := IntWalk.i64_in _ ⟨by omega, by omega⟩
    have hLl := lvL_len l k
    have hLf := HFL.out k hk
    have hml : mostR (lvL l k) < (lvL l k).length := mostR_lt (by omega)
    have hfl : fewR (lvL l k) < (lvL l k).length := fewR_lt (by omega)
    have HM := Aside0.mk (fun W h => mostB (lvL l k) (by omega) (by omega) (some ⟨g, 0, none⟩) c2 (by omega) W h)
    have HF := Aside0.mk (fun W h => fewB (lvL l k) (by omega) (by omega) (some ⟨g, 0, none⟩) c2 (by omega) W h)
    have HCC : Aside0 (∀ (W : World), Lw w W lo1 g (lvL l k) V → (Kd.slice 2 (Kd.int .i64)).C W (some ⟨g, 0, none⟩) (lvL l k).length (lvL l k)) := ⟨fun W h => h.rows.C (fun e => by rw [e] at hLl; simp at hLl; omega) (by omega) (row_small (by omega))⟩
    rw [hLl] at HM HF HCC
    have HKN : Aside0 (((lvL l k).getD (mostR (lvL l k)) []).length < ((lvL l k).getD (fewR (lvL l k)) []).length + 2 → k = N) := ⟨fun h => by
      rcases Nat.lt_or_ge k N with h1 | h1
      · exact absurd h (HNK.out k h1)
      · omega⟩
    have HNK2 : Aside0 (¬ ((lvL l k).getD (mostR (lvL l k)) []).length < ((lvL l k).getD (fewR (lvL l k)) []).length + 2 → k < N) := ⟨fun h => by
      rcases Nat.lt_or_ge k N with h1 | h1
      · exact h1
      · have e : k = N := by omega
        rw [e] at h
        exact absurd HNE.out h⟩
    have HLL : Aside0 (lvL l (k + 1) = ((lvL l k).set (fewR (lvL l k)) ((lvL l k).getD (fewR (lvL l k)) [] ++ [((lvL l k).getD (mostR (lvL l k)) []).getD (((lvL l k).getD (mostR (lvL l k)) []).length - 1) 0])).set (mostR (lvL l k)) (((lvL l k).getD (mostR (lvL l k)) []).take (((lvL l k).getD (mostR (lvL l k)) []).length - 1))) := ⟨rfl⟩
    generalize mostR (lvL l k) = m at *
    generalize fewR (lvL l k) = f at *
    generalize hL : lvL l k = Lk at *
    have hml9 : (m : Int) < (l.length : Int) := by omega
    have hfl9 : (f : Int) < (l.length : Int) := by omega
    have hmt : ((m : Int)).toNat = m := rfl
    have hft : ((f : Int)).toNat = f := rfl
    have hmb : (Lk.getD m []).length ≤ 1048576 := by have := set_flat_len (l := Lk) (xs := []) hml; simp only [List.length_nil] at this; omega
    have hfb : (Lk.getD f []).length ≤ 1048576 := by have := set_flat_len (l := Lk) (xs := []) hfl; simp only [List.length_nil] at this; omega
    obtain ⟨Af, cf, hvf⟩ := HK.out.rows.val hfl
    have cf0 := HK.out.rows.cell hfl
    have cm0 := HK.out.rows.cell hml
    rw [hvf] at cf0
    by_cases hE : (Lk.getD m []).length < (Lk.getD f []).length + 2
    · obtain rfl : k = N := HKN.out hE
      obtain ⟨Am, cm, hvm⟩ := HK.out.rows.val hml
      rw [hvm] at cm0
      clear HKN HNK2 HLL HNK HFL HNE
      generalize (Lk.getD m []).length = am at *
      generalize (Lk.getD f []).length = af at *
      have am9 : IntKind.i64.wrap ((am : Int) - 1) = (am : Int) - 1 := IntWalk.i64_in _ ⟨by omega, by omega⟩
      have af9 : IntKind.i64.wrap ((am : Int) - 1 - (af : Int)) = (am : Int) - 1 - (af : Int) := IntWalk.i64_in _ ⟨by omega, by omega⟩
      have ag9 : IntKind.i64.wrap ((af : Int) + 1) = (af : Int) + 1 := IntWalk.i64_in _ ⟨by omega, by omega⟩
      have ht1 : (am : Int) - 1 - (af : Int) < 1 := by omega
      have ht2 : (am : Int) - 1 < (af : Int) + 1 := by omega
      go_wp2_with (first | (go_at_call 47; refine (HM.out _ (HCC.out _ HK.out)).mono ?_; rintro e W0 ⟨rfl, hb⟩; replace HK := Aside0.mk (HK.out.below hb); clear cm0 cf0; have cm0 := HK.out.rows.cell hml; have cf0 := HK.out.rows.cell hfl; rw [hvm] at cm0; rw [hvf] at cf0; clear hb) | (go_at_call 50; refine (HF.out _ (HCC.out _ HK.out)).mono ?_; rintro e W1 ⟨rfl, hb⟩; replace HK := Aside0.mk (HK.out.below hb); clear cm0 cf0; have cm0 := HK.out.rows.cell hml; have cf0 := HK.out.rows.cell hfl; rw [hvm] at cm0; rw [hvf] at cf0; clear hb))
      go_ret3
      exact ⟨_, rfl, by rw [hL]; exact HK.out.fin hpos hLl hc2⟩
    · have hkN := HNK2.out hE
      obtain ⟨qm, cm, hvm, hcm⟩ := HK.out.rows.head hml (by omega)
      rw [hvm] at cm0
      have hmf : m ≠ f := by rintro rfl; omega
      obtain ⟨n, hn⟩ : ∃ n, (Lk.getD m []).length = n + 1 := ⟨(Lk.getD m []).length - 1, by omega⟩
      have HROW := Aside0.mk hn
      rw [hn] at hvm cm0 hcm hE hmb HLL
      rw [show n + 1 - 1 = n by omega] at HLL
      have HIN : Aside0 (∀ W, Lw w W lo1 g Lk V → W.ownsRow lo1 2 1 (.slice Af (Lk.getD f []).length cf) (Lk.getD f []).length (nums .i64 (Lk.getD f []))) := ⟨fun W h => by have := h.rows.ints f hfl; rw [hvf] at this; exact this⟩
      have HCE : Aside0 (∀ W, Lw w W lo1 g Lk V → W.cell? ⟨g, f, none⟩ = some (.slice Af (Lk.getD f []).length cf) ∧ W.cell? ⟨g, m, none⟩ = some (.slice (some ⟨qm, 0, none⟩) (n + 1) cm) ∧ W.cell? ⟨qm, n, none⟩ = some (.int .i64 ((Lk.getD m []).getD n 0))) := ⟨fun W h => by
        have e1 := h.rows.cell hfl
        have e2 := h.rows.cell hml
        rw [hvf] at e1
        rw [hvm] at e2
        exact ⟨e1, e2, h.num hml hvm (by omega)⟩⟩
      have HCM : Aside0 (∀ W u xs, Md w W lo1 g Lk V f u xs → W.cell? ⟨g, f, none⟩ = some (.slice Af (Lk.getD f []).length cf) ∧ W.cell? ⟨g, m, none⟩ = some (.slice (some ⟨qm, 0, none⟩) (n + 1) cm) ∧ W.cell? ⟨qm, n, none⟩ = some (.int .i64 ((Lk.getD m []).getD n 0))) := ⟨fun W u xs h => by
        have e1 := h.cell hfl hfl
        have e2 := h.cell hfl hml
        rw [hvf] at e1
        rw [hvm] at e2
        exact ⟨e1, e2, h.num hfl hml hmf hvm (by omega)⟩⟩
      have HST : Aside0 (∀ W u xs, Md w W lo1 g Lk V f u xs → (W.setCell ⟨g, f, none⟩ u).cell? ⟨g, m, none⟩ = some (.slice (some ⟨qm, 0, none⟩) (n + 1) cm)) := ⟨fun W u xs h => by
        have e1 := (h.store hfl).rows.cell (i := m) (by rw [List.length_set]; exact hml)
        rw [if_neg hmf, hvm] at e1
        exact e1⟩
      have HCUT : Aside0 (∀ W u (xs : List Int) (V' : Nat → Value), V' = (fun j => if j = f then u else V j) → Lw w W lo1 g (Lk.set f xs) V' → Lw w (W.setCell ⟨g, m, none⟩ (.slice (some ⟨qm, 0, none⟩) n cm)) lo1 g ((Lk.set f xs).set m ((Lk.getD m []).take n)) (fun j => if j = m then .slice (some ⟨qm, 0, none⟩) n cm else V' j)) := ⟨fun W u xs V' hV' h => by
        subst hV'
        have e3 : (Lk.set f xs).getD m [] = Lk.getD m [] := by
          rw [List.getD_eq_getElem?_getD, List.getElem?_set_ne (Ne.symm hmf), ← List.getD_eq_getElem?_getD]
        have := h.cut (i := m) (m := n) (c := cm) (A := some ⟨qm, 0, none⟩) (by rw [List.length_set]; exact hml) (by rw [e3, HROW.out]; simp only [if_neg hmf]; exact hvm) (by rw [e3, HROW.out]; omega)
        rw [e3] at this
        exact this⟩
      have HFN : Aside0 ((Lk.getD f []).length = (Lk.getD f []).length) := ⟨rfl⟩
      clear HKN HNK2 HNK HFL HNE
      generalize (Lk.getD m []).take n = Mr at *
      generalize (Lk.getD m []).getD n 0 = x at *
      obtain ⟨Fr, hFr⟩ : ∃ Fr, Lk.getD f [] = Fr := ⟨_, rfl⟩
      rw [hFr] at HIN HCE HCM HFN HLL hvf cf0 hE hfb
      obtain ⟨af, haf⟩ : ∃ af, Fr.length = af := ⟨_, rfl⟩
      rw [haf] at HIN HCE HCM hvf cf0 hE hfb
      replace HFN := Aside0.mk haf
      clear hFr haf hn
      have am9 : IntKind.i64.wrap ((n : Int) + 1 - 1) = (n : Int) := by rw [show (n : Int) + 1 - 1 = (n : Int) by omega]; exact IntWalk.i64_in _ ⟨by omega, by omega⟩
      have af9 : IntKind.i64.wrap ((n : Int) - (af : Int)) = (n : Int) - (af : Int) := IntWalk.i64_in _ ⟨by omega, by omega⟩
      have ag9 : IntKind.i64.wrap ((af : Int) + 1) = (af : Int) + 1 := IntWalk.i64_in _ ⟨by omega, by omega⟩
      have hn9 : (n : Int) < (n : Int) + 1 := by omega
      have hn8 : (n : Int).toNat = n := rfl
      have ht1 : ¬ (n : Int) - (af : Int) < 1 := by omega
      have ht2 : ¬ (n : Int) < (af : Int) + 1 := by omega
      go_wp2_with (first | (go_at_call 47; refine (HM.out _ (HCC.out _ HK.out)).mono ?_; rintro e W0 ⟨rfl, hb⟩; replace HK := Aside0.mk (HK.out.below hb); clear cm0 cf0; have cm0 := HK.out.rows.cell hml; have cf0 := HK.out.rows.cell hfl; rw [hvm] at cm0; rw [hvf] at cf0; clear hb) | (go_at_call 50; refine (HF.out _ (HCC.out _ HK.out)).mono ?_; rintro e W1 ⟨rfl, hb⟩; replace HK := Aside0.mk (HK.out.below hb); clear cm0 cf0; have cm0 := HK.out.rows.cell hml; have cf0 := HK.out.rows.cell hfl; rw [hvm] at cm0; rw [hvf] at cf0; clear hb))
      refine start_ (n := 17) (S := (fun w' => w'.cell? ⟨g, f, none⟩ = some (.slice Af af cf) ∧ w'.cell? ⟨g, m, none⟩ = some (.slice (some ⟨qm, 0, none⟩) (n + 1) cm) ∧ w'.cell? ⟨qm, n, none⟩ = some (.int .i64 x))) (ds := [16]) #[false, false, false, false, false, false, false, false, false, false, false, false, false, false, false, false, false] (by kernel_rfl) rfl rfl (HCE.out _ HK.out.drew) (fun hHeld => ?_)
      obtain ⟨w9, hw9⟩ : ∃ w9, W1.drew = w9 := ⟨_, rfl⟩
      have HK9 : Aside0 (Lw w w9 lo1 g Lk V) := ⟨by subst hw9; exact HK.out.drew⟩
      rw [hw9] at hHeld ⊢
      clear hw9 HK cm0 cf0
      refine pure_ (i := 0) (N := some 38) (v := ?_) (a' := ?_) #[true, false, false, false, false, false, false, false, false, false, false, false, false, false, false, false, false] rfl rfl (by kernel_rfl) (fun _ _ _ h => h) (Or.inl ⟨by rfl, ?_⟩) ?_ ?_
      rotate_left
      · intro w'
        go_simp
        with_reducible rfl
      rotate_left
      · simp only [Act.put, List.setIfInBounds_toArray, List.set_cons_zero, List.set_cons_succ, i64_w, i32_w]
        rfl
      refine pure_ (i := 1) (N := some 39) (v := ?_) (a' := ?_) #[true, true, false, false, false, false, false, false, false, false, false, false, false, false, false, false, false] rfl rfl (by kernel_rfl) (fun _ _ _ h => h) (Or.inl ⟨by rfl, ?_⟩) ?_ ?_
      rotate_left
      · intro w'
        go_simp
        with_reducible rfl
      rotate_left
      · simp only [Act.put, List.setIfInBounds_toArray, List.set_cons_zero, List.set_cons_succ, i64_w, i32_w]
        rfl
      refine pure_ (i := 2) (N := some 40) (v := ?_) (a' := ?_) #[true, true, true, false, false, false, false, false, false, false, false, false, false, false, false, false, false] rfl rfl (by kernel_rfl) (fun _ _ _ h => h) (Or.inl ⟨by rfl, ?_⟩) ?_ ?_
      rotate_left
      · intro w'
        go_simp
        with_reducible rfl
      rotate_left
      · simp only [Act.put, List.setIfInBounds_toArray, List.set_cons_zero, List.set_cons_succ, i64_w, i32_w]
        rfl
      refine pure_ (i := 3) (N := some 41) (v := ?_) (a' := ?_) #[true, true, true, true, false, false, false, false, false, false, false, false, false, false, false, false, false] rfl rfl (by kernel_rfl) (fun _ _ _ h => h) (Or.inl ⟨by rfl, ?_⟩) ?_ ?_
      rotate_left
      · intro w'
        go_simp
        with_reducible rfl
      rotate_left
      · simp only [Act.put, List.setIfInBounds_toArray, List.set_cons_zero, List.set_cons_succ, i64_w, i32_w]
        rfl
      refine pure_ (i := 4) (N := some 42) (v := ?_) (a' := ?_) #[true, true, true, true, true, false, false, false, false, false, false, false, false, false, false, false, false] rfl rfl (by kernel_rfl) (fun _ _ _ h => h) (Or.inl ⟨by rfl, ?_⟩) ?_ ?_
      rotate_left
      · intro w'
        go_simp
        with_reducible rfl
      rotate_left
      · simp only [Act.put, List.setIfInBounds_toArray, List.set_cons_zero, List.set_cons_succ, i64_w, i32_w]
        rfl
      refine take_ (i := 5) (N := some 43) (v := ?_) (a' := ?_) #[true, true, true, true, true, true, false, false, false, false, false, false, false, false, false, false, false] rfl rfl (by kernel_rfl) (fun _ _ _ h => h) (Or.inl ⟨by rfl, ?_⟩) hHeld ?_ ?_
      rotate_left
      · rintro w' ⟨s0, s1, s2⟩
        go_simp
        with_reducible rfl
      rotate_left
      · simp only [Act.put, List.setIfInBounds_toArray, List.set_cons_zero, List.set_cons_succ, i64_w, i32_w]
        rfl
      refine pure_ (i := 6) (N := some 44) (v := ?_) (a' := ?_) #[true, true, true, true, true, true, true, false, false, false, false, false, false, false, false, false, false] rfl rfl (by kernel_rfl) (fun _ _ _ h => h) (Or.inl ⟨by rfl, ?_⟩) ?_ ?_
      rotate_left
      · intro w'
        go_simp
        with_reducible rfl
      rotate_left
      · simp only [Act.put, List.setIfInBounds_toArray, List.set_cons_zero, List.set_cons_succ, i64_w, i32_w]
        rfl
      refine pure_ (i := 7) (N := some 45) (v := ?_) (a' := ?_) #[true, true, true, true, true, true, true, true, false, false, false, false, false, false, false, false, false] rfl rfl (by kernel_rfl) (fun _ _ _ h => h) (Or.inl ⟨by rfl, ?_⟩) ?_ ?_
      rotate_left
      · intro w'
        go_simp
        with_reducible rfl
      rotate_left
      · simp only [Act.put, List.setIfInBounds_toArray, List.set_cons_zero, List.set_cons_succ, i64_w, i32_w]
        rfl
      refine pure_ (i := 8) (N := some 46) (v := ?_) (a' := ?_) #[true, true, true, true, true, true, true, true, true, false, false, false, false, false, false, false, false] rfl rfl (by kernel_rfl) (fun _ _ _ h => h) (Or.inl ⟨by rfl, ?_⟩) ?_ ?_
      rotate_left
      · intro w'
        go_simp
        with_reducible rfl
      rotate_left
      · simp only [Act.put, List.setIfInBounds_toArray, List.set_cons_zero, List.set_cons_succ, i64_w, i32_w]
        rfl
      refine take_ (i := 9) (N := some 47) (v := ?_) (a' := ?_) #[true, true, true, true, true, true, true, true, true, true, false, false, false, false, false, false, false] rfl rfl (by kernel_rfl) (fun _ _ _ h => h) (Or.inl ⟨by rfl, ?_⟩) hHeld ?_ ?_
      rotate_left
      · rintro w' ⟨s0, s1, s2⟩
        go_simp
        with_reducible rfl
      rotate_left
      · simp only [Act.put, List.setIfInBounds_toArray, List.set_cons_zero, List.set_cons_succ, i64_w, i32_w]
        rfl
      refine pure_ (i := 10) (N := some 48) (v := ?_) (a' := ?_) #[true, true, true, true, true, true, true, true, true, true, true, false, false, false, false, false, false] rfl rfl (by kernel_rfl) (fun _ _ _ h => h) (Or.inl ⟨by rfl, ?_⟩) ?_ ?_
      rotate_left
      · intro w'
        go_simp
        with_reducible rfl
      rotate_left
      · simp only [Act.put, List.setIfInBounds_toArray, List.set_cons_zero, List.set_cons_succ, i64_w, i32_w]
        rfl
      refine pure_ (i := 11) (N := some 49) (v := ?_) (a' := ?_) #[true, true, true, true, true, true, true, true, true, true, true, true, false, false, false, false, false] rfl rfl (by kernel_rfl) (fun _ _ _ h => h) (Or.inl ⟨by rfl, ?_⟩) ?_ ?_
      rotate_left
      · intro w'
        go_simp
        with_reducible rfl
      rotate_left
      · simp only [Act.put, List.setIfInBounds_toArray, List.set_cons_zero, List.set_cons_succ, i64_w, i32_w]
        rfl
      refine take_ (i := 12) (N := some 50) (v := ?_) (a' := ?_) #[true, true, true, true, true, true, true, true, true, true, true, true, true, false, false, false, false] rfl rfl (by kernel_rfl) (fun _ _ _ h => h) (Or.inl ⟨by rfl, ?_⟩) hHeld ?_ ?_
      rotate_left
      · rintro w' ⟨s0, s1, s2⟩
        go_simp
        with_reducible rfl
      rotate_left
      · simp only [Act.put, List.setIfInBounds_toArray, List.set_cons_zero, List.set_cons_succ, i64_w, i32_w]
        rfl
      refine one_ (i := 13) (N := some 51) #[true, true, true, true, true, true, true, true, true, true, true, true, true, true, false, false, false] rfl rfl (by kernel_rfl) (by decide) (fun K hK => ?_)
      refine value_ (v := ?_) (w1 := ?_) (by rfl) rfl ?_ ?_
      rotate_left
      rotate_left
      · go_simp
        first | (refine ⟨?_, ?_⟩ <;> rfl) | rfl
      have HKA := Aside0.mk (HK9.out.alloc (.cells #[.int .i64 x] 2))
      refine hK.out _ _ (HCE.out _ HKA.out) (fun hHeld => ?_)
      clear hK K HK9
      refine norm_ (a' := ?_) ?_ ?_
      rotate_left
      · show Act.put _ (some 51) _ = _
        simp only [Act.put, List.setIfInBounds_toArray, List.set_cons_zero, List.set_cons_succ, i64_w, i32_w]
        rfl
      refine one_ (i := 14) (N := some 52) #[true, true, true, true, true, true, true, true, true, true, true, true, true, true, true, false, false] rfl rfl (by kernel_rfl) (by decide) (fun K hK => ?_)
      refine on_ (by rfl) ?_
      refine wp_append_lies _ _ _ 32 (by rfl) lo1 2 i0 _ 1 8 Try.underlying32 HI.out.1 HI.out.2.1 HI.out.2.2.1 HI.out.2.2.2 (by rfl) (by decide) _ af (nums .i64 Fr) (by rfl) (HIN.out _ HKA.out) ⟨w9.heap.size, 0, none⟩ 1 1 [.int .i64 x] (by rfl) (by rfl) (World.news_of_block (Blk.new w9 _ [.int .i64 x])) (by intro u hu; simp at hu; subst hu; rfl) (by decide) (by unfold maxLen; omega) (by omega) (by have := HKA.out.rows.outer; omega) _ rfl ?_
      intro g' cap' w3 hown hgrow hat hlt'
      have HK3 := Aside0.mk (HKA.out.app hvf HFN.out hown hgrow hat rfl)
      clear hown hgrow hat hlt' HKA hHeld
      have cv3 := HK3.out.cell hfl hfl
      have dv3 := HK3.out.frozen hfl f
      refine hK.out _ _ (HCM.out _ _ _ HK3.out) (fun hHeld => ?_)
      clear hK K
      refine norm_ (a' := ?_) ?_ ?_
      rotate_left
      · show Act.put _ (some 52) _ = _
        simp only [Act.put, List.setIfInBounds_toArray, List.set_cons_zero, List.set_cons_succ, i64_w, i32_w]
        rfl
      refine pure_ (i := 15) (N := some 53) (v := ?_) (a' := ?_) #[true, true, true, true, true, true, true, true, true, true, true, true, true, true, true, true, false] rfl rfl (by kernel_rfl) (fun _ _ _ h => h) (Or.inl ⟨by rfl, ?_⟩) ?_ ?_
      rotate_left
      · intro w'
        go_simp
        with_reducible rfl
      rotate_left
      · simp only [Act.put, List.setIfInBounds_toArray, List.set_cons_zero, List.set_cons_succ, i64_w, i32_w]
        rfl
      refine last_ (i := 16) (N := none) #[true, true, true, true, true, true, true, true, true, true, true, true, true, true, true, true, true] rfl rfl (by kernel_rfl) (by decide) (fun K hK => ?_)
      refine skip_ (w1 := ?_) (by rfl) rfl ?_ ?_
      rotate_left
      · go_simp
        rfl
      refine hK.out _ _ ?_
      clear hK K
      refine done_ (by kernel_rfl) ?_
      have HK4 := Aside0.mk (HK3.out.store hfl)
      have cm4 := HST.out _ _ _ HK3.out
      have dm4 := HK4.out.rows.frozen m
      clear HK3 cv3 dv3
      go_wp2
      have HK5 := Aside0.mk (HCUT.out _ _ _ _ rfl HK4.out)
      go_roundw
      case rel => exact ⟨k + 1, _, by omega, by go_num, ⟨by rw [HLL.out]; exact HK5.out⟩⟩
      case measure => simp [intOf] <;> omega
set_option maxHeartbeats 8000000 in
set_option maxRecDepth 100000 in
theorem implLev_go (l : List (List Int)) (hl : l.length ≤ 1048576) (hf : l.flatten.length ≤ 1048576) (lo hi : Nat) (v0 : Value) (w : World) (hX : RR w lo hi v0 l) (hg : good0 l 0 = true) (hlne : l ≠ []) (N : Nat) (hN : N ≤ 1099511627776) (hNe : lvE (lvL l N)) (hNk : ∀ k, k < N → ¬ lvE (lvL l k)) :
    Calls Try.prog 26 #[v0] w fun e w' => ∃ v : Value, e = .returned (.tuple #[v, .int .i64 (N : Int), .int .i64 0]) ∧ RR w' w.heap.size w'.heap.size v (lvL l N) ∧ Below w.heap.size w w' := by
  obtain ⟨A, c, rfl, hc, hC⟩ := hX.reads hl (row_small hf)
  have HL := Aside0.mk hC
  have HW : Aside0 (Below w.heap.size w w) := ⟨Below.refl _ _⟩
  have HCU := Aside0.mk (fun W h => cupI l hf A c hc W h)
  obtain ⟨i0, hi_, hz0, hz1, hz2⟩ := info_parts int64Info
  have HI := Aside0.mk (And.intro hi_ (And.intro hz0 (And.intro hz1 hz2)))
  have HOW := Aside0.mk (fun W h => copyHd l hl hf hlne A c hc W h)
  have hpos : 0 < l.length := List.length_pos_iff.2 hlne
  have HNE : Aside0 (((lvL l N).getD (mostR (lvL l N)) []).length < ((lvL l N).getD (fewR (lvL l N)) []).length + 2) := ⟨hNe⟩
  have HNK := Aside0.mk hNk
  have HFL : Aside0 (∀ k, k ≤ N → (lvL l k).flatten.length = l.flatten.length) := ⟨fun k hk => lvL_flat hpos (fun j hj => hNk j (by omega))⟩
  rw [hg] at HCU
  clear hC hX hi_ hz0 hz1 hz2 hNe hNk
  go_enter Try.func26, Try.ntmps26
  go_wp2_with (fail)
  refine (HCU.out _ (Kd.C_below HL.out (by with_reducible repeat (first | exact HW.out | refine Blk.alloc ?_ _ | refine Rw.alloc ?_ _ | refine Arg.alloc ?_ _ | apply below_alloc | refine Blk.drew ?_ | refine Rw.drew ?_ | refine Arg.drew ?_ | apply below_drew | refine Blk.drewN ?_ _ | refine Rw.drewN ?_ _ | refine Arg.drewN ?_ _ | apply pw_below_drewN)))).mono ?_
  rintro e w1 ⟨rfl, hb⟩
  have hs_w1 := Below.size hb
  (try simp at hs_w1)
  replace HW : Aside0 (Below w.heap.size w w1) := ⟨below_step (by with_reducible repeat (first | exact HW.out | refine Blk.alloc ?_ _ | refine Rw.alloc ?_ _ | refine Arg.alloc ?_ _ | apply below_alloc | refine Blk.drew ?_ | refine Rw.drew ?_ | refine Arg.drew ?_ | apply below_drew | refine Blk.drewN ?_ _ | refine Rw.drewN ?_ _ | refine Arg.drewN ?_ _ | apply pw_below_drewN)) hb⟩
  clear hb
  go_wp2_with (fail)
  refine (HOW.out _ (Kd.C_below HL.out (by with_reducible repeat (first | exact HW.out | refine Blk.alloc ?_ _ | refine Rw.alloc ?_ _ | refine Arg.alloc ?_ _ | apply below_alloc | refine Blk.drew ?_ | refine Rw.drew ?_ | refine Arg.drew ?_ | apply below_drew | refine Blk.drewN ?_ _ | refine Rw.drewN ?_ _ | refine Arg.drewN ?_ _ | apply pw_below_drewN)))).mono ?_
  rintro e w2 ⟨g, c2, V, rfl, hc2, hH, hb⟩
  obtain ⟨lo1, hlo1⟩ : ∃ q, w1.heap.size = q := ⟨_, rfl⟩
  rw [hlo1] at hH
  have hlow := Below.size HW.out
  have HK0 : Aside0 (Lw w w2 lo1 g (lvL l 0) V) := ⟨⟨hH, by omega, below_step HW.out hb⟩⟩
  clear hH hb hlow hlo1 HW HL HCU HOW
  go_wp2
  go_loopw [6] (fun v6 w' => ∃ (k : Nat) (V : Nat → Value), k ≤ N ∧ v6 = .int .i64 k ∧ Aside0 (Lw w w' lo1 g (lvL l k) V)) (fun v6 _ => N - (intOf v6).toNat)
  case atStart => exact ⟨0, V, by omega, rfl, HK0⟩
  case round =>
    clear HK0
    obtain ⟨k, V, hk, rfl, HK⟩ := hrel
    obtain ⟨wo, rfl⟩ : ∃ wo : World, wo = wr := ⟨_, rfl⟩
    have hk9 : IntKind.i64.wrap ((k : Int) + 1) = (k : Int) + 1 := IntWalk.i64_in _ ⟨by omega, by omega⟩
    have hLl := lvL_len l k
    have hLf := HFL.out k hk
    have hml : mostR (lvL l k) < (lvL l k).length := mostR_lt (by omega)
    have hfl : fewR (lvL l k) < (lvL l k).length := fewR_lt (by omega)
    have HM := Aside0.mk (fun W h => mostIB (lvL l k) (by omega) (by omega) (some ⟨g, 0, none⟩) c2 (by omega) W h)
    have HF := Aside0.mk (fun W h => fewIB (lvL l k) (by omega) (by omega) (some ⟨g, 0, none⟩) c2 (by omega) W h)
    have HCC : Aside0 (∀ (W : World), Lw w W lo1 g (lvL l k) V → (Kd.slice 2 (Kd.int .i64)).C W (some ⟨g, 0, none⟩) (lvL l k).length (lvL l k)) := ⟨fun W h => h.rows.C (fun e => by rw [e] at hLl; simp at hLl; omega) (by omega) (row_small (by omega))⟩
    rw [hLl] at HM HF HCC
    have HKN : Aside0 (((lvL l k).getD (mostR (lvL l k)) []).length < ((lvL l k).getD (fewR (lvL l k)) []).length + 2 → k = N) := ⟨fun h => by
      rcases Nat.lt_or_ge k N with h1 | h1
      · exact absurd h (HNK.out k h1)
      · omega⟩
    have HNK2 : Aside0 (¬ ((lvL l k).getD (mostR (lvL l k)) []).length < ((lvL l k).getD (fewR (lvL l k)) []).length + 2 → k < N) := ⟨fun h => by
      rcases Nat.lt_or_ge k N with h1 | h1
      · exact h1
      · have e : k = N := by omega
        rw [e] at h
        exact absurd HNE.out h⟩
    have HLL : Aside0 (lvL l (k + 1) = ((lvL l k).set (fewR (lvL l k)) ((lvL l k).getD (fewR (lvL l k)) [] ++ [((lvL l k).getD (mostR (lvL l k)) []).getD (((lvL l k).getD (mostR (lvL l k)) []).length - 1) 0])).set (mostR (lvL l k)) (((lvL l k).getD (mostR (lvL l k)) []).take (((lvL l k).getD (mostR (lvL l k)) []).length - 1))) := ⟨rfl⟩
    generalize mostR (lvL l k) = m at *
    generalize fewR (lvL l k) = f at *
    generalize hL : lvL l k = Lk at *
    have hml9 : (m : Int) < (l.length : Int) := by omega
    have hfl9 : (f : Int) < (l.length : Int) := by omega
    have hmt : ((m : Int)).toNat = m := rfl
    have hft : ((f : Int)).toNat = f := rfl
    have hmb : (Lk.getD m []).length ≤ 1048576 := by have := set_flat_len (l := Lk) (xs := []) hml; simp only [List.length_nil] at this; omega
    have hfb : (Lk.getD f []).length ≤ 1048576 := by have := set_flat_len (l := Lk) (xs := []) hfl; simp only [List.length_nil] at this; omega
    obtain ⟨Af, cf, hvf⟩ := HK.out.rows.val hfl
    have cf0 := HK.out.rows.cell hfl
    have cm0 := HK.out.rows.cell hml
    rw [hvf] at cf0
    by_cases hE : (Lk.getD m []).length < (Lk.getD f []).length + 2
    · obtain rfl : k = N := HKN.out hE
      obtain ⟨Am, cm, hvm⟩ := HK.out.rows.val hml
      rw [hvm] at cm0
      clear HKN HNK2 HLL HNK HFL HNE
      generalize (Lk.getD m []).length = am at *
      generalize (Lk.getD f []).length = af at *
      have am9 : IntKind.i64.wrap ((am : Int) - 1) = (am : Int) - 1 := IntWalk.i64_in _ ⟨by omega, by omega⟩
      have af9 : IntKind.i64.wrap ((am : Int) - 1 - (af : Int)) = (am : Int) - 1 - (af : Int) := IntWalk.i64_in _ ⟨by omega, by omega⟩
      have ag9 : IntKind.i64.wrap ((af : Int) + 1) = (af : Int) + 1 := IntWalk.i64_in _ ⟨by omega, by omega⟩
      have ht1 : (am : Int) - 1 - (af : Int) < 1 := by omega
      have ht2 : (am : Int) - 1 < (af : Int) + 1 := by omega
      go_wp2_with (first | (go_at_call 49; refine (HM.out _ (HCC.out _ HK.out)).mono ?_; rintro e W0 ⟨rfl, hb⟩; replace HK := Aside0.mk (HK.out.below hb); clear cm0 cf0; have cm0 := HK.out.rows.cell hml; have cf0 := HK.out.rows.cell hfl; rw [hvm] at cm0; rw [hvf] at cf0; clear hb) | (go_at_call 51; refine (HF.out _ (HCC.out _ HK.out)).mono ?_; rintro e W1 ⟨rfl, hb⟩; replace HK := Aside0.mk (HK.out.below hb); clear cm0 cf0; have cm0 := HK.out.rows.cell hml; have cf0 := HK.out.rows.cell hfl; rw [hvm] at cm0; rw [hvf] at cf0; clear hb))
      go_ret3
      exact ⟨_, rfl, by rw [hL]; exact HK.out.fin hpos hLl hc2⟩
    · have hkN := HNK2.out hE
      obtain ⟨qm, cm, hvm, hcm⟩ := HK.out.rows.head hml (by omega)
      rw [hvm] at cm0
      have hmf : m ≠ f := by rintro rfl; omega
      obtain ⟨n, hn⟩ : ∃ n, (Lk.getD m []).length = n + 1 := ⟨(Lk.getD m []).length - 1, by omega⟩
      have HROW := Aside0.mk hn
      rw [hn] at hvm cm0 hcm hE hmb HLL
      rw [show n + 1 - 1 = n by omega] at HLL
      have HIN : Aside0 (∀ W, Lw w W lo1 g Lk V → W.ownsRow lo1 2 1 (.slice Af (Lk.getD f []).length cf) (Lk.getD f []).length (nums .i64 (Lk.getD f []))) := ⟨fun W h => by have := h.rows.ints f hfl; rw [hvf] at this; exact this⟩
      have HCE : Aside0 (∀ W, Lw w W lo1 g Lk V → W.cell? ⟨g, f, none⟩ = some (.slice Af (Lk.getD f []).length cf) ∧ W.cell? ⟨g, m, none⟩ = some (.slice (some ⟨qm, 0, none⟩) (n + 1) cm) ∧ W.cell? ⟨qm, n, none⟩ = some (.int .i64 ((Lk.getD m []).getD n 0))) := ⟨fun W h => by
        have e1 := h.rows.cell hfl
        have e2 := h.rows.cell hml
        rw [hvf] at e1
        rw [hvm] at e2
        exact ⟨e1, e2, h.num hml hvm (by omega)⟩⟩
      have HCM : Aside0 (∀ W u xs, Md w W lo1 g Lk V f u xs → W.cell? ⟨g, f, none⟩ = some (.slice Af (Lk.getD f []).length cf) ∧ W.cell? ⟨g, m, none⟩ = some (.slice (some ⟨qm, 0, none⟩) (n + 1) cm) ∧ W.cell? ⟨qm, n, none⟩ = some (.int .i64 ((Lk.getD m []).getD n 0))) := ⟨fun W u xs h => by
        have e1 := h.cell hfl hfl
        have e2 := h.cell hfl hml
        rw [hvf] at e1
        rw [hvm] at e2
        exact ⟨e1, e2, h.num hfl hml hmf hvm (by omega)⟩⟩
      have HST : Aside0 (∀ W u xs, Md w W lo1 g Lk V f u xs → (W.setCell ⟨g, f, none⟩ u).cell? ⟨g, m, none⟩ = some (.slice (some ⟨qm, 0, none⟩) (n + 1) cm)) := ⟨fun W u xs h => by
        have e1 := (h.store hfl).rows.cell (i := m) (by rw [List.length_set]; exact hml)
        rw [if_neg hmf, hvm] at e1
        exact e1⟩
      have HCUT : Aside0 (∀ W u (xs : List Int) (V' : Nat → Value), V' = (fun j => if j = f then u else V j) → Lw w W lo1 g (Lk.set f xs) V' → Lw w (W.setCell ⟨g, m, none⟩ (.slice (some ⟨qm, 0, none⟩) n cm)) lo1 g ((Lk.set f xs).set m ((Lk.getD m []).take n)) (fun j => if j = m then .slice (some ⟨qm, 0, none⟩) n cm else V' j)) := ⟨fun W u xs V' hV' h => by
        subst hV'
        have e3 : (Lk.set f xs).getD m [] = Lk.getD m [] := by
          rw [List.getD_eq_getElem?_getD, List.getElem?_set_ne (Ne.symm hmf), ← List.getD_eq_getElem?_getD]
        have := h.cut (i := m) (m := n) (c := cm) (A := some ⟨qm, 0, none⟩) (by rw [List.length_set]; exact hml) (by rw [e3, HROW.out]; simp only [if_neg hmf]; exact hvm) (by rw [e3, HROW.out]; omega)
        rw [e3] at this
        exact this⟩
      have HFN : Aside0 ((Lk.getD f []).length = (Lk.getD f []).length) := ⟨rfl⟩
      clear HKN HNK2 HNK HFL HNE
      generalize (Lk.getD m []).take n = Mr at *
      generalize (Lk.getD m []).getD n 0 = x at *
      obtain ⟨Fr, hFr⟩ : ∃ Fr, Lk.getD f [] = Fr := ⟨_, rfl⟩
      rw [hFr] at HIN HCE HCM HFN HLL hvf cf0 hE hfb
      obtain ⟨af, haf⟩ : ∃ af, Fr.length = af := ⟨_, rfl⟩
      rw [haf] at HIN HCE HCM hvf cf0 hE hfb
      replace HFN := Aside0.mk haf
      clear hFr haf hn
      have am9 : IntKind.i64.wrap ((n : Int) + 1 - 1) = (n : Int) := by rw [show (n : Int) + 1 - 1 = (n : Int) by omega]; exact IntWalk.i64_in _ ⟨by omega, by omega⟩
      have af9 : IntKind.i64.wrap ((n : Int) - (af : Int)) = (n : Int) - (af : Int) := IntWalk.i64_in _ ⟨by omega, by omega⟩
      have ag9 : IntKind.i64.wrap ((af : Int) + 1) = (af : Int) + 1 := IntWalk.i64_in _ ⟨by omega, by omega⟩
      have hn9 : (n : Int) < (n : Int) + 1 := by omega
      have hn8 : (n : Int).toNat = n := rfl
      have ht1 : ¬ (n : Int) - (af : Int) < 1 := by omega
      have ht2 : ¬ (n : Int) < (af : Int) + 1 := by omega
      go_wp2_with (first | (go_at_call 49; refine (HM.out _ (HCC.out _ HK.out)).mono ?_; rintro e W0 ⟨rfl, hb⟩; replace HK := Aside0.mk (HK.out.below hb); clear cm0 cf0; have cm0 := HK.out.rows.cell hml; have cf0 := HK.out.rows.cell hfl; rw [hvm] at cm0; rw [hvf] at cf0; clear hb) | (go_at_call 51; refine (HF.out _ (HCC.out _ HK.out)).mono ?_; rintro e W1 ⟨rfl, hb⟩; replace HK := Aside0.mk (HK.out.below hb); clear cm0 cf0; have cm0 := HK.out.rows.cell hml; have cf0 := HK.out.rows.cell hfl; rw [hvm] at cm0; rw [hvf] at cf0; clear hb))
      refine start_ (n := 17) (S := (fun w' => w'.cell? ⟨g, f, none⟩ = some (.slice Af af cf) ∧ w'.cell? ⟨g, m, none⟩ = some (.slice (some ⟨qm, 0, none⟩) (n + 1) cm) ∧ w'.cell? ⟨qm, n, none⟩ = some (.int .i64 x))) (ds := [16]) #[false, false, false, false, false, false, false, false, false, false, false, false, false, false, false, false, false] (by kernel_rfl) rfl rfl (HCE.out _ HK.out.drew) (fun hHeld => ?_)
      obtain ⟨w9, hw9⟩ : ∃ w9, W1.drew = w9 := ⟨_, rfl⟩
      have HK9 : Aside0 (Lw w w9 lo1 g Lk V) := ⟨by subst hw9; exact HK.out.drew⟩
      rw [hw9] at hHeld ⊢
      clear hw9 HK cm0 cf0
      refine pure_ (i := 0) (N := some 35) (v := ?_) (a' := ?_) #[true, false, false, false, false, false, false, false, false, false, false, false, false, false, false, false, false] rfl rfl (by kernel_rfl) (fun _ _ _ h => h) (Or.inl ⟨by rfl, ?_⟩) ?_ ?_
      rotate_left
      · intro w'
        go_simp
        with_reducible rfl
      rotate_left
      · simp only [Act.put, List.setIfInBounds_toArray, List.set_cons_zero, List.set_cons_succ, i64_w, i32_w]
        rfl
      refine pure_ (i := 1) (N := some 36) (v := ?_) (a' := ?_) #[true, true, false, false, false, false, false, false, false, false, false, false, false, false, false, false, false] rfl rfl (by kernel_rfl) (fun _ _ _ h => h) (Or.inl ⟨by rfl, ?_⟩) ?_ ?_
      rotate_left
      · intro w'
        go_simp
        with_reducible rfl
      rotate_left
      · simp only [Act.put, List.setIfInBounds_toArray, List.set_cons_zero, List.set_cons_succ, i64_w, i32_w]
        rfl
      refine pure_ (i := 2) (N := some 37) (v := ?_) (a' := ?_) #[true, true, true, false, false, false, false, false, false, false, false, false, false, false, false, false, false] rfl rfl (by kernel_rfl) (fun _ _ _ h => h) (Or.inl ⟨by rfl, ?_⟩) ?_ ?_
      rotate_left
      · intro w'
        go_simp
        with_reducible rfl
      rotate_left
      · simp only [Act.put, List.setIfInBounds_toArray, List.set_cons_zero, List.set_cons_succ, i64_w, i32_w]
        rfl
      refine pure_ (i := 3) (N := some 38) (v := ?_) (a' := ?_) #[true, true, true, true, false, false, false, false, false, false, false, false, false, false, false, false, false] rfl rfl (by kernel_rfl) (fun _ _ _ h => h) (Or.inl ⟨by rfl, ?_⟩) ?_ ?_
      rotate_left
      · intro w'
        go_simp
        with_reducible rfl
      rotate_left
      · simp only [Act.put, List.setIfInBounds_toArray, List.set_cons_zero, List.set_cons_succ, i64_w, i32_w]
        rfl
      refine pure_ (i := 4) (N := some 39) (v := ?_) (a' := ?_) #[true, true, true, true, true, false, false, false, false, false, false, false, false, false, false, false, false] rfl rfl (by kernel_rfl) (fun _ _ _ h => h) (Or.inl ⟨by rfl, ?_⟩) ?_ ?_
      rotate_left
      · intro w'
        go_simp
        with_reducible rfl
      rotate_left
      · simp only [Act.put, List.setIfInBounds_toArray, List.set_cons_zero, List.set_cons_succ, i64_w, i32_w]
        rfl
      refine take_ (i := 5) (N := some 40) (v := ?_) (a' := ?_) #[true, true, true, true, true, true, false, false, false, false, false, false, false, false, false, false, false] rfl rfl (by kernel_rfl) (fun _ _ _ h => h) (Or.inl ⟨by rfl, ?_⟩) hHeld ?_ ?_
      rotate_left
      · rintro w' ⟨s0, s1, s2⟩
        go_simp
        with_reducible rfl
      rotate_left
      · simp only [Act.put, List.setIfInBounds_toArray, List.set_cons_zero, List.set_cons_succ, i64_w, i32_w]
        rfl
      refine pure_ (i := 6) (N := some 41) (v := ?_) (a' := ?_) #[true, true, true, true, true, true, true, false, false, false, false, false, false, false, false, false, false] rfl rfl (by kernel_rfl) (fun _ _ _ h => h) (Or.inl ⟨by rfl, ?_⟩) ?_ ?_
      rotate_left
      · intro w'
        go_simp
        with_reducible rfl
      rotate_left
      · simp only [Act.put, List.setIfInBounds_toArray, List.set_cons_zero, List.set_cons_succ, i64_w, i32_w]
        rfl
      refine pure_ (i := 7) (N := some 42) (v := ?_) (a' := ?_) #[true, true, true, true, true, true, true, true, false, false, false, false, false, false, false, false, false] rfl rfl (by kernel_rfl) (fun _ _ _ h => h) (Or.inl ⟨by rfl, ?_⟩) ?_ ?_
      rotate_left
      · intro w'
        go_simp
        with_reducible rfl
      rotate_left
      · simp only [Act.put, List.setIfInBounds_toArray, List.set_cons_zero, List.set_cons_succ, i64_w, i32_w]
        rfl
      refine pure_ (i := 8) (N := some 43) (v := ?_) (a' := ?_) #[true, true, true, true, true, true, true, true, true, false, false, false, false, false, false, false, false] rfl rfl (by kernel_rfl) (fun _ _ _ h => h) (Or.inl ⟨by rfl, ?_⟩) ?_ ?_
      rotate_left
      · intro w'
        go_simp
        with_reducible rfl
      rotate_left
      · simp only [Act.put, List.setIfInBounds_toArray, List.set_cons_zero, List.set_cons_succ, i64_w, i32_w]
        rfl
      refine take_ (i := 9) (N := some 44) (v := ?_) (a' := ?_) #[true, true, true, true, true, true, true, true, true, true, false, false, false, false, false, false, false] rfl rfl (by kernel_rfl) (fun _ _ _ h => h) (Or.inl ⟨by rfl, ?_⟩) hHeld ?_ ?_
      rotate_left
      · rintro w' ⟨s0, s1, s2⟩
        go_simp
        with_reducible rfl
      rotate_left
      · simp only [Act.put, List.setIfInBounds_toArray, List.set_cons_zero, List.set_cons_succ, i64_w, i32_w]
        rfl
      refine pure_ (i := 10) (N := some 45) (v := ?_) (a' := ?_) #[true, true, true, true, true, true, true, true, true, true, true, false, false, false, false, false, false] rfl rfl (by kernel_rfl) (fun _ _ _ h => h) (Or.inl ⟨by rfl, ?_⟩) ?_ ?_
      rotate_left
      · intro w'
        go_simp
        with_reducible rfl
      rotate_left
      · simp only [Act.put, List.setIfInBounds_toArray, List.set_cons_zero, List.set_cons_succ, i64_w, i32_w]
        rfl
      refine pure_ (i := 11) (N := some 46) (v := ?_) (a' := ?_) #[true, true, true, true, true, true, true, true, true, true, true, true, false, false, false, false, false] rfl rfl (by kernel_rfl) (fun _ _ _ h => h) (Or.inl ⟨by rfl, ?_⟩) ?_ ?_
      rotate_left
      · intro w'
        go_simp
        with_reducible rfl
      rotate_left
      · simp only [Act.put, List.setIfInBounds_toArray, List.set_cons_zero, List.set_cons_succ, i64_w, i32_w]
        rfl
      refine take_ (i := 12) (N := some 47) (v := ?_) (a' := ?_) #[true, true, true, true, true, true, true, true, true, true, true, true, true, false, false, false, false] rfl rfl (by kernel_rfl) (fun _ _ _ h => h) (Or.inl ⟨by rfl, ?_⟩) hHeld ?_ ?_
      rotate_left
      · rintro w' ⟨s0, s1, s2⟩
        go_simp
        with_reducible rfl
      rotate_left
      · simp only [Act.put, List.setIfInBounds_toArray, List.set_cons_zero, List.set_cons_succ, i64_w, i32_w]
        rfl
      refine one_ (i := 13) (N := some 48) #[true, true, true, true, true, true, true, true, true, true, true, true, true, true, false, false, false] rfl rfl (by kernel_rfl) (by decide) (fun K hK => ?_)
      refine value_ (v := ?_) (w1 := ?_) (by rfl) rfl ?_ ?_
      rotate_left
      rotate_left
      · go_simp
        first | (refine ⟨?_, ?_⟩ <;> rfl) | rfl
      have HKA := Aside0.mk (HK9.out.alloc (.cells #[.int .i64 x] 2))
      refine hK.out _ _ (HCE.out _ HKA.out) (fun hHeld => ?_)
      clear hK K HK9
      refine norm_ (a' := ?_) ?_ ?_
      rotate_left
      · show Act.put _ (some 48) _ = _
        simp only [Act.put, List.setIfInBounds_toArray, List.set_cons_zero, List.set_cons_succ, i64_w, i32_w]
        rfl
      refine one_ (i := 14) (N := some 49) #[true, true, true, true, true, true, true, true, true, true, true, true, true, true, true, false, false] rfl rfl (by kernel_rfl) (by decide) (fun K hK => ?_)
      refine on_ (by rfl) ?_
      refine wp_append_lies _ _ _ 32 (by rfl) lo1 2 i0 _ 1 8 Try.underlying32 HI.out.1 HI.out.2.1 HI.out.2.2.1 HI.out.2.2.2 (by rfl) (by decide) _ af (nums .i64 Fr) (by rfl) (HIN.out _ HKA.out) ⟨w9.heap.size, 0, none⟩ 1 1 [.int .i64 x] (by rfl) (by rfl) (World.news_of_block (Blk.new w9 _ [.int .i64 x])) (by intro u hu; simp at hu; subst hu; rfl) (by decide) (by unfold maxLen; omega) (by omega) (by have := HKA.out.rows.outer; omega) _ rfl ?_
      intro g' cap' w3 hown hgrow hat hlt'
      have HK3 := Aside0.mk (HKA.out.app hvf HFN.out hown hgrow hat rfl)
      clear hown hgrow hat hlt' HKA hHeld
      have cv3 := HK3.out.cell hfl hfl
      have dv3 := HK3.out.frozen hfl f
      refine hK.out _ _ (HCM.out _ _ _ HK3.out) (fun hHeld => ?_)
      clear hK K
      refine norm_ (a' := ?_) ?_ ?_
      rotate_left
      · show Act.put _ (some 49) _ = _
        simp only [Act.put, List.setIfInBounds_toArray, List.set_cons_zero, List.set_cons_succ, i64_w, i32_w]
        rfl
      refine pure_ (i := 15) (N := some 50) (v := ?_) (a' := ?_) #[true, true, true, true, true, true, true, true, true, true, true, true, true, true, true, true, false] rfl rfl (by kernel_rfl) (fun _ _ _ h => h) (Or.inl ⟨by rfl, ?_⟩) ?_ ?_
      rotate_left
      · intro w'
        go_simp
        with_reducible rfl
      rotate_left
      · simp only [Act.put, List.setIfInBounds_toArray, List.set_cons_zero, List.set_cons_succ, i64_w, i32_w]
        rfl
      refine last_ (i := 16) (N := none) #[true, true, true, true, true, true, true, true, true, true, true, true, true, true, true, true, true] rfl rfl (by kernel_rfl) (by decide) (fun K hK => ?_)
      refine skip_ (w1 := ?_) (by rfl) rfl ?_ ?_
      rotate_left
      · go_simp
        rfl
      refine hK.out _ _ ?_
      clear hK K
      refine done_ (by kernel_rfl) ?_
      have HK4 := Aside0.mk (HK3.out.store hfl)
      have cm4 := HST.out _ _ _ HK3.out
      have dm4 := HK4.out.rows.frozen m
      clear HK3 cv3 dv3
      go_wp2
      have HK5 := Aside0.mk (HCUT.out _ _ _ _ rfl HK4.out)
      go_roundw
      case rel => exact ⟨k + 1, _, by omega, by go_num, ⟨by rw [HLL.out]; exact HK5.out⟩⟩
      case measure => simp [intOf] <;> omega
end Go.Proofs.Ytkjligoamechkaa.X
