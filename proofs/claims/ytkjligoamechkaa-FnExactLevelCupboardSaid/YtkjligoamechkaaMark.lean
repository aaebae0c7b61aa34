/- Contracts of functions, and plain facts: what each call answers, and what it leaves as it was. -/
import Derived.Test.YtkjligoamechkaaX0
import Derived.Test.YtkjligoamechkaaX5
import Derived.Test.YtkjligoamechkaaX7
set_option linter.unusedVariables false
set_option linter.unusedSimpArgs false
namespace Go.Proofs.Ytkjligoamechkaa.X
open Go.RowKit Go.Proofs.YtkjligoamechkaaW.PrintWords Go.Proofs.YtkjligoamechkaaW.PrintLast Go.Proofs.YtkjligoamechkaaW.PrintMore
attribute [local go_sem] max2_int min2_int max_two min_two max_three min_three max_four min_four
def seqL (a : Int) (n : Nat) : List Int := (List.range n).map fun j : Nat => a + (j : Int)
theorem seqL_length (a : Int) (n : Nat) : (seqL a n).length = n := by simp [seqL]
def markR : List (List Int) → Int → List (List Int)
  | [], _ => []
  | p :: ps, a => seqL a p.length :: markR ps (a + p.length)
theorem markR_length : ∀ (l : List (List Int)) (a : Int), (markR l a).length = l.length
  | [], _ => rfl
  | p :: ps, a => by simp [markR, markR_length ps]
theorem markR_snoc : ∀ (l : List (List Int)) (p : List Int) (a : Int), markR (l ++ [p]) a = markR l a ++ [seqL (a + l.flatten.length) p.length]
  | [], p, a => by simp [markR]
  | q :: l, p, a => by
    have h := markR_snoc l p (a + q.length)
    simp only [List.cons_append, markR, h, List.flatten_cons, List.length_append]
    have e : a + ((q.length + l.flatten.length : Nat) : Int) = a + (q.length : Int) + (l.flatten.length : Int) := by omega
    rw [e]
theorem mark_set {l : List (List Int)} {a : Int} {i : Nat} (hi : i < l.length) : (markR (l.take i) a ++ l.drop i).set i (seqL (a + (l.take i).flatten.length) (rd_L1 l i).length) = markR (l.take (i + 1)) a ++ l.drop (i + 1) := by
  have e1 : l.take (i + 1) = l.take i ++ [rd_L1 l i] := by rw [List.take_add_one]; simp [rd_L1, List.getElem?_eq_getElem hi]
  have e2 : l.drop i = rd_L1 l i :: l.drop (i + 1) := by rw [List.drop_eq_getElem_cons hi]; simp [rd_L1, List.getElem?_eq_getElem hi]
  have hlen : (markR (l.take i) a).length = i := by rw [markR_length, List.length_take]; omega
  rw [e1, markR_snoc, e2, List.append_assoc]
  rw [List.set_append_right _ _ (by omega), hlen, Nat.sub_self]
  rfl
theorem mark_get {l : List (List Int)} {a : Int} {i : Nat} (hi : i < l.length) : (markR (l.take i) a ++ l.drop i).getD i [] = rd_L1 l i := by
  have hlen : (markR (l.take i) a).length = i := by rw [markR_length, List.length_take]; omega
  rw [List.getD_eq_getElem?_getD, List.getElem?_append_right (by omega), hlen, Nat.sub_self, List.getElem?_drop]
  simp [rd_L1, List.getD_eq_getElem?_getD]
theorem markS_loop (a : Int) (n : Nat) (h0 : 0 ≤ a) (h1 : a ≤ 4294967296) (hn : n ≤ 4294967296) : ∀ (d k i : Nat) (x : List Int), i + d = n → d < k → x.length = n → x.take i = seqL a i → laws_markInt64S.l0 k x (a + i) i = some (a + n, seqL a n) := by
  intro d
  induction d with
  | zero =>
    intro k i x hi hk hx ht
    obtain ⟨k, rfl⟩ : ∃ m, k = m + 1 := ⟨k - 1, by omega⟩
    obtain rfl : i = n := by omega
    rw [List.take_of_length_le (by omega)] at ht
    simp only [laws_markInt64S.l0]
    rw [if_neg (by omega), ht]
  | succ d ih =>
    intro k i x hi hk hx ht
    obtain ⟨k, rfl⟩ : ∃ m, k = m + 1 := ⟨k - 1, by omega⟩
    simp only [laws_markInt64S.l0]
    have e1 : wrap64 (a + (i : Int) + 1) = a + ((i + 1 : Nat) : Int) := by unfold wrap64; omega
    have e2 : wrap64 ((i : Int) + 1) = ((i + 1 : Nat) : Int) := by unfold wrap64; omega
    rw [if_pos (by omega), if_pos (by omega), e1, e2, Int.toNat_natCast]
    refine ih k (i + 1) _ (by omega) (by omega) (by simp [hx]) ?_
    have e3 : seqL a (i + 1) = seqL a i ++ [a + (i : Int)] := by simp [seqL, List.range_succ]
    rw [e3, ← ht, List.take_add_one, List.getElem?_set_self (by omega), List.take_set_of_le (by omega)]
    rfl
theorem markS_f (a : Int) (p : List Int) (h0 : 0 ≤ a) (h1 : a ≤ 4294967296) (hn : p.length ≤ 4294967296) {k : Nat} (hk : p.length < k) : laws_markInt64S.f k p a = some (a + p.length, seqL a p.length) := by
  unfold laws_markInt64S.f
  have := markS_loop a p.length h0 h1 hn p.length k 0 p (by omega) hk rfl (by simp [seqL])
  simpa using this
set_option maxHeartbeats 4000000 in
set_option maxRecDepth 100000 in
theorem markSS_calls (P0 : Nat → Prop) (u : Value) (l0 : List (List Int)) (a : Int) (w0 w : World) (hB : Below w0.heap.size w0 w) (ho : Kd.S (Kd.slice 2 (Kd.int .i64)) 32 w w0.heap.size P0 u l0) (h0 : 0 ≤ a) (h1 : a ≤ 16777216) (hl : l0.flatten.length ≤ 16777216) :
    Calls Try.prog 18 #[u, .int .i64 a] w fun e w' => e = .returned (.int .i64 (a + l0.flatten.length)) ∧ Kd.S (Kd.slice 2 (Kd.int .i64)) 32 w' w0.heap.size (fun k => P0 k ∨ w.heap.size ≤ k) u (markR l0 a) ∧ Below w0.heap.size w0 w' ∧ Kept w w' (fun k => P0 k) := by
  obtain ⟨A, c, hu, hlc, hC⟩ := Kd.S_reads ho
  have hm := Kd.C_max hC
  clear hC
  subst hu
  have HB := Aside0.mk hB
  have HO := Aside0.mk (Kd.S_mono (ok' := fun k => P0 k ∨ w.heap.size ≤ k) ho (fun _ h => .inl h))
  have HL := Aside0.mk hl
  clear hB ho hl
  go_enter Try.func18, Try.ntmps18
  go_wp2
  go_loopw [1, 5] (fun v1 v5 w' => ∃ (i : Nat) (q : Int), i ≤ l0.length ∧ v5 = .int .i64 i ∧ v1 = .int .i64 q ∧ Aside0 (q = a + (l0.take i).flatten.length) ∧ Aside0 (Kd.S (Kd.slice 2 (Kd.int .i64)) 32 w' w0.heap.size (fun k => P0 k ∨ w.heap.size ≤ k) (.slice A l0.length c) (markR (l0.take i) a ++ l0.drop i)) ∧ Aside0 (Below w0.heap.size w0 w') ∧ Aside0 (Kept w w' (fun k => P0 k))) (fun _ v5 _ => l0.length - (intOf v5).toNat)
  case atStart => exact ⟨0, a, by omega, rfl, rfl, ⟨by simp⟩, ⟨by simpa [markR] using HO.out⟩, HB, ⟨⟨Nat.le_refl _, fun _ _ _ => rfl⟩⟩⟩
  case round =>
    clear HO HB
    obtain ⟨i, q, hi, rfl, rfl, HQ, HO, HB, HK⟩ := hrel
    by_cases hlt : i < l0.length
    · have hsz := below_size HB.out
      have hws : w.heap.size ≤ wr.heap.size := HK.out.1
      have hlen : (markR (l0.take i) a ++ l0.drop i).length = l0.length := by rw [List.length_append, markR_length, List.length_take, List.length_drop]; omega
      obtain ⟨g, cap, eg, hg0, hg1, _⟩ := Kd.S_form HO.out (by omega)
      injection eg with ea en ec
      subst ea
      subst ec
      clear en
      obtain ⟨oki, cs, hcl, hM, hcc, hfr, hoki, hH⟩ := Kd.S_elem HO.out [] (i : Int) (by omega) (by omega)
      rw [Int.toNat_natCast, mark_get hlt] at hM
      obtain ⟨v, rfl, hv⟩ := hM
      have hx := hcc 0 v rfl
      simp only [show ((Kd.slice 2 (Kd.int .i64))).sz = 1 from rfl, Nat.mul_one, Nat.add_zero, Int.toNat_natCast] at hx
      have hrow : (rd_L1 l0 i).length ≤ 16777216 := by
        have h := flat_take_le l0 (i + 1)
        rw [flat_take_succ hlt, List.length_append] at h
        have := HL.out
        omega
      have hq : 0 ≤ q ∧ q ≤ 33554432 := by
        have h := flat_take_le l0 i
        have := HL.out
        rw [HQ.out]
        omega
      have hF := markS_f q (rd_L1 l0 i) hq.1 (by omega) (by omega) (Nat.lt_succ_self _)
      have hc := laws_markInt64S.calls _ oki v (rd_L1 l0 i) q _ _ w0 wr HB.out hv hF
      have HH := Aside0.mk (Kd.H_widen hH)
      obtain ⟨A1, c1, ev⟩ := Kd.R_slice hv
      clear hcc hfr hcl hF hv hH hrow HO
      subst ev
      have HOk := Aside0.mk hoki
      clear hoki
      generalize hy : rd_L1 l0 (i : Int) = y at *
      have HMS := Aside0.mk (mark_set (a := a) hlt)
      have HFS := Aside0.mk (flat_take_succ hlt)
      rw [hy] at HMS HFS
      go_wp2_with (go_at_call 23; refine hc.mono ?_; rintro e w2 ⟨rfl, hR2, hb2, hk2⟩)
      have hS := Kd.H_back (Kd.H_kept HH.out hk2 (fun k _ hn hk => hn (.inl hk))) (x' := seqL q y.length) ⟨_, rfl, hR2⟩ (fun k hk => hk.imp_right fun h => ⟨.inr (Nat.le_trans hws h), h⟩)
      rw [Int.toNat_natCast, HQ.out, HMS.out] at hS
      have hK2 : Kept w w2 (fun k => P0 k) := ⟨Nat.le_trans hws hk2.1, fun k hk hn => (hk2.2 k (by omega) (fun ho => ((HOk.out k ho).1).elim hn (fun h => by omega))).trans (HK.out.2 k hk hn)⟩
      have hQ2 : q + (y.length : Int) = a + (((l0.take (i + 1)).flatten.length : Nat) : Int) := by rw [HFS.out, List.length_append, HQ.out]; omega
      go_roundw
      case rel => exact ⟨i + 1, _, by omega, by go_num, rfl, ⟨hQ2⟩, ⟨hS⟩, ⟨hb2⟩, ⟨hK2⟩⟩
      case measure => simp [intOf]; omega
    · obtain rfl : i = l0.length := by omega
      go_wp2
      go_ret
      exact ⟨by rw [HQ.out, List.take_length]; rfl, by have := HO.out; rw [List.take_length, List.drop_length, List.append_nil] at this; exact this, HB.out, HK.out⟩
end Go.Proofs.Ytkjligoamechkaa.X
