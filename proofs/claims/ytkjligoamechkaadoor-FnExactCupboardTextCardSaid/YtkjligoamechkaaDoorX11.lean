-- Written by px.py (a session's driver over the print): contracts of functions. Lean checks it.
import Derived.Test.YtkjligoamechkaaDoorX0
import Derived.Test.YtkjligoamechkaaDoorX5
import Derived.Test.YtkjligoamechkaaDoorX9
namespace Go.Proofs.YtkjligoamechkaaDoor.X
open Go.RowKit Go.Proofs.YtkjligoamechkaaDoorW.PrintWords Go.Proofs.YtkjligoamechkaaDoorW.PrintLast Go.Proofs.YtkjligoamechkaaDoorW.PrintMore
attribute [local go_sem] max2_int min2_int max_two min_two max_three min_three max_four min_four   -- for this text's walks alone
set_option linter.unusedVariables false
set_option linter.unusedSimpArgs false

/-! ### impl_ValidCupboard: function 13 -/
/-- the slice's cells, or nil -/
def IntsAt (w : World) (sv : Value) (zs : List Int) : Prop :=
  (sv = .slice none 0 0 ∧ zs = []) ∨ ∃ b off cap, sv = .slice (some ⟨b, off, none⟩) zs.length cap ∧ b < w.heap.size ∧ ∀ j, j < zs.length → w.cell? ⟨b, off + j, none⟩ = some (.int .i64 (zs[j]?.getD 0))
def SortedValues : Prop := ∀ (Bs : Nat) (sv : Value) (zs : List Int) (w : World), zs.length * 8 ≤ 140737488351232 → Bs < w.heap.size → w.cell? ⟨Bs, 0, none⟩ = some sv → IntsAt w sv zs →
    Calls Tryd.prog 20 #[.func (.func 37) #[] #[.pointer (some ⟨Bs, 0, none⟩)]] w fun e w' => ∃ v, e = .returned v ∧
      w'.ownsRow w.heap.size 2 1 v zs.length ((zs.mergeSort (fun x y => decide (x ≤ y))).map (Value.int .i64)) ∧ Below w.heap.size w w'
def CompactsInt (m : List Int → Nat) : Prop := ∀ (v : Value) (zs : List Int) (w0 w : World), Below w0.heap.size w0 w → w.ownsRow w0.heap.size 2 1 v zs.length (zs.map (Value.int .i64)) → zs.length ≤ 9223372036854775807 →
    Calls Tryd.prog 28 #[v] w fun e w' => ∃ A c, e = .returned (.slice A (m zs) c) ∧ Below w0.heap.size w0 w'
theorem ints_of_R {w : World} {base e : Nat} {ok : Nat → Prop} {v : Value} {zs : List Int} (h : Kd.R (Kd.int .i64) e w base ok v zs) : IntsAt w v zs := by
  obtain ⟨A, c, hv, hl, hC⟩ := Kd.R_reads h
  obtain ⟨_, inner, ho, _⟩ := h
  rcases ho.2 with ⟨rfl, h0⟩ | ⟨g, cap, cur, rfl, hg, hh, r⟩
  · exact .inl ⟨rfl, List.eq_nil_of_length_eq_zero h0⟩
  · refine .inr ⟨g, 0, cap, rfl, (Array.getElem?_eq_some_iff.1 hh).1, fun j hj => ?_⟩
    obtain ⟨ad, hA, hx⟩ := Kd.at_int hC (j : Int) (by omega) (by omega)
    have hA2 : A = some ⟨g, 0, none⟩ := by injection hv with h1 _ _; exact h1.symm
    rw [hA2] at hA
    injection hA with hA
    rw [← hA] at hx
    have e1 : rd zs (j : Int) = zs[j]?.getD 0 := by simp [rd]
    rw [e1] at hx
    by_cases h0 : j = 0
    · subst h0; simpa [Addr.add] using hx
    · simpa [Addr.add, h0] using hx
theorem R_of_ownI {w : World} {base e : Nat} {v : Value} {zs : List Int} (h : w.ownsRow base e 1 v zs.length (zs.map (Value.int .i64))) : Kd.R (Kd.int .i64) e w base (fun _ => True) v zs :=
  Kd.R_of_own (enc := Value.int .i64) (h1 := fun _ => rfl) h (fun _ _ => trivial)
theorem cup_clo (A1 : Option Addr) (n c1 : Nat) (w : World) (hn : n ≤ 9223372036854775807) : Calls Tryd.prog 26 #[.slice A1 n c1] w fun e w' => e = .returned (.bool (decide (8 < n))) ∧ Drawn0 w w' := by
  go_enter Tryd.func26, Tryd.ntmps26
  go_wp2
  go_ret
  exact ⟨by simp; omega, Drawn0.refl _⟩
theorem idxF_dropL {f : List Int → Bool} {xs : List (List Int)} {k : Nat} (hk : k < xs.length) : idxF f (xs.drop k) k = if f (rd_L1 xs k) then (k : Int) else idxF f (xs.drop (k + 1)) (k + 1) := by
  rw [List.drop_eq_getElem_cons hk]
  simp [idxF, rd_L1, List.getElem?_eq_getElem hk]
set_option maxHeartbeats 1000000 in
theorem cup_idx (A0 : Option Addr) (c0 : Nat) (l0 : List (List Int)) (w : World) (hr0 : Kd.C (Kd.slice 2 (Kd.int .i64)) w A0 l0.length l0) :
    Calls Tryd.prog 39 #[.slice A0 l0.length c0, .func (.func 26) #[] #[]] w fun e w' => e = .returned (.int .i64 (idxF (fun p : List Int => decide (8 < p.length)) l0 0)) ∧ Drawn0 w w' := by
  have hm := Kd.C_max hr0
  have HR0 := Aside0.mk hr0
  clear hr0
  generalize hf : (fun p : List Int => decide (8 < p.length)) = f
  have hc := fun (p : List Int) (A1 : Option Addr) (c1 : Nat) (W : World) h => cup_clo A1 p.length c1 W h
  have hff : ∀ p : List Int, decide (8 < p.length) = f p := fun p => by rw [← hf]
  simp only [hff] at hc
  clear hff hf
  go_enter Tryd.func39, Tryd.ntmps39
  go_wp2
  go_loopw [8] (fun v8 w' => ∃ k : Nat, k ≤ l0.length ∧ v8 = .int .i64 k ∧ Aside0 (idxF f (l0.drop k) k = idxF f l0 0) ∧ Drawn0 w w') (fun v8 _ => l0.length - (intOf v8).toNat)
  case atStart => exact ⟨0, by omega, rfl, ⟨rfl⟩, Drawn0.refl _⟩
  case round =>
    obtain ⟨k, hk, rfl, HI, ⟨m1, rfl⟩⟩ := hrel
    by_cases hlt : k < l0.length
    · obtain ⟨ad, A1, c1, e1, hx1, hl1, hi1⟩ := at_L1 HR0.out (k : Int) (by omega) (by omega)
      cases e1
      replace hx1 := (show (k : Int).toNat = k from rfl) ▸ hx1
      have hm1 := Kd.C_max hi1
      clear hi1 hl1
      have HJ := Aside0.mk (idxF_dropL (f := f) hlt)
      cases hb : f (rd_L1 l0 k)
      · have hcc := hc (rd_L1 l0 k) A1 c1 (w.drewN m1) hm1
        rw [hb] at hcc
        have HB := Aside0.mk hb
        clear hb hc hm1
        generalize (rd_L1 l0 k).length = q at *
        go_wp2_with (go_at_call 26; refine hcc.mono ?_; rintro e w' ⟨rfl, ⟨nd, rfl⟩⟩)
        go_roundw
        case rel => exact ⟨k + 1, by omega, by go_num, ⟨by rw [← HI.out, HJ.out, HB.out]; rfl⟩, by repeat (first | exact Drawn0.refl _ | apply Drawn0.step)⟩
        case measure => simp [intOf]; omega
      · have hcc := hc (rd_L1 l0 k) A1 c1 (w.drewN m1) hm1
        rw [hb] at hcc
        have HB := Aside0.mk hb
        clear hb hc hm1
        generalize (rd_L1 l0 k).length = q at *
        go_wp2_with (go_at_call 26; refine hcc.mono ?_; rintro e w' ⟨rfl, ⟨nd, rfl⟩⟩)
        go_ret
        exact ⟨by rw [← HI.out, HJ.out, HB.out]; rfl, by repeat (first | exact Drawn0.refl _ | apply Drawn0.step)⟩
    · have : l0.drop k = [] := List.drop_eq_nil_of_le (by omega)
      have HE := Aside0.mk this
      clear this
      go_wp2
      go_ret
      exact ⟨by rw [← HI.out, HE.out]; rfl, by repeat (first | exact Drawn0.refl _ | apply Drawn0.step)⟩
theorem cup_has (A0 : Option Addr) (c0 : Nat) (l0 : List (List Int)) (w : World) (hr0 : Kd.C (Kd.slice 2 (Kd.int .i64)) w A0 l0.length l0) :
    Calls Tryd.prog 25 #[.slice A0 l0.length c0, .func (.func 26) #[] #[]] w fun e w' => e = .returned (.bool (l0.any fun p => decide (8 < p.length))) ∧ Drawn0 w w' := by
  have hc := cup_idx A0 c0 l0 w hr0
  rw [← idxF_any _ _ 0]
  clear hr0
  generalize idxF (fun p : List Int => decide (8 < p.length)) l0 0 = r at hc ⊢
  go_enter Tryd.func25, Tryd.ntmps25
  go_wp2_with (go_at_call 39; refine hc.mono ?_; rintro e w' ⟨rfl, ⟨nd, rfl⟩⟩)
  go_ret
  exact ⟨rfl, by repeat (first | exact Drawn0.refl _ | apply Drawn0.step)⟩
theorem cup_values (A1 : Option Addr) (n c1 : Nat) (w : World) : Calls Tryd.prog 21 #[.slice A1 n c1] w fun e w' => e = .returned (.func (.func 37) #[] #[.pointer (some ⟨w.heap.size, 0, none⟩)]) ∧ w' = w.alloc (.cells #[.slice A1 n c1] 29) := by
  go_enter Tryd.func21, Tryd.ntmps21
  go_wp2
  go_ret
  exact ⟨rfl, rfl⟩
set_option maxHeartbeats 4000000 in
set_option maxRecDepth 100000 in
theorem validCup_of (m : List Int → Nat) (hS : SortedValues) (hC : CompactsInt m) (A0 : Option Addr) (c0 : Nat) (l0 : List (List Int)) (w : World) (hr0 : Kd.C (Kd.slice 2 (Kd.int .i64)) w A0 l0.length l0) (hc0 : l0.length ≤ c0) (hle : l0.flatten.length ≤ 1048576)
    (b1 b2 b3 b4 : Bool) (h1 : b1 = (decide (1 ≤ (l0.length : Int)) && decide ((l0.length : Int) ≤ 6))) (h2 : b2 = l0.any fun p => decide (8 < p.length)) (h3 : b3 = (l0.flatten.mergeSort (fun x y => decide (x ≤ y))).all fun x => decide (0 ≤ x) && decide (x ≤ 999)) (h4 : b4 = decide (m (l0.flatten.mergeSort (fun x y => decide (x ≤ y))) = l0.flatten.length)) :
    Calls Tryd.prog 13 #[.slice A0 l0.length c0] w fun e w' => e = .returned (.bool (b1 && !b2 && b3 && b4)) ∧ Below w.heap.size w w' := by
  have hm := Kd.C_max hr0
  have HR0 := Aside0.mk hr0
  have HC0 := Aside0.mk hc0
  have HL := Aside0.mk hle
  have H1 := fun W => impl_within.calls (l0.length : Int) 1 6 b1 W (by rw [h1]; unfold impl_within.f; split <;> simp [*])
  have hSz := fun (W : World) (hB : Below w.heap.size w W) => impl_size_int64.calls A0 c0 l0 (l0.length : Int) W (Kd.C_below HR0.out hB) HC0.out (by unfold impl_size_int64.f; simp)
  have H2 := fun (W : World) (hB : Below w.heap.size w W) => cup_has A0 c0 l0 W (Kd.C_below HR0.out hB)
  rw [← h2] at H2
  have hCat := concat_of grows_nil A0 c0 l0 w HR0.out HC0.out (by have := HL.out; omega)
  obtain ⟨L, hL⟩ : ∃ L, L = l0.flatten := ⟨_, rfl⟩
  rw [← hL] at hCat h3 h4 hle
  obtain ⟨T, hT⟩ : ∃ T, T = L.mergeSort (fun x y => decide (x ≤ y)) := ⟨_, rfl⟩
  have hTl : T.length = L.length := by rw [hT]; exact List.length_mergeSort _
  clear hL HL
  have H3 := fun (A : Option Addr) (c : Nat) (W : World) hr hc => impl_areWithin.calls A c T 0 999 b3 W hr hc (by rw [h3, ← hT]; rfl)
  rw [← hT] at h4
  clear hr0 hc0 h1 h2 h3
  go_enter Tryd.func13, Tryd.ntmps13
  go_wp2_with fail
  refine hCat.mono ?_
  rintro e w1 ⟨v1, rfl, ho1, hb1⟩
  have hi1 := ints_of_R ho1
  obtain ⟨A1, c1, rfl⟩ := Kd.R_slice ho1
  have HB1 := Aside0.mk hb1
  clear hb1 ho1
  go_wp2_with fail
  refine (cup_values A1 _ c1 w1).mono ?_
  rintro e w2 ⟨rfl, rfl⟩
  have hS2 := hS w1.heap.size (.slice A1 L.length c1) L (w1.alloc (.cells #[.slice A1 L.length c1] 29)) (by omega) (by simp) (by go_simp) (by
    rcases hi1 with ⟨h, h'⟩ | ⟨b, off, cap, h, hb, hcs⟩
    · exact .inl ⟨h, h'⟩
    · exact .inr ⟨b, off, cap, h, by simp; omega, fun j hj => ((Below.refl _ w1).alloc (Nat.le_refl _) _).cell (p := ⟨b, off + j, none⟩) hb |>.trans (hcs j hj)⟩)
  rw [← hT] at hS2
  rw [← hTl] at h4
  clear hi1 hS
  go_wp2_with fail
  refine hS2.mono ?_
  rintro e w3 ⟨v3, rfl, ho3, hb3⟩
  have ho3' := own_weaken ho3 (show w.heap.size ≤ _ by have := below_size HB1.out; simp; omega)
  rw [← hTl] at ho3'
  have HW3 := Aside0.mk ho3'
  have HO3 := Aside0.mk (R_of_ownI ho3')
  have HB3 := Aside0.mk (below_step (w := w) (below_alloc HB1.out _) hb3)
  obtain ⟨A3, c3, rfl⟩ := Kd.R_slice HO3.out
  clear hS2 hb3 ho3 ho3'
  have HCl := fun (A : Option Addr) (c : Nat) (W : World) hr hc => slices_Clone_int64_int64.calls A c T T W hr hc (by unfold slices_Clone_int64_int64.f; rw [if_pos (by omega)])
  have HCo := fun (v : Value) (W : World) hB ho => hC v T w W hB ho (by omega)
  have HBL := Aside0.mk hle
  clear hC hle hCat hTl hT hm
  replace h4 := Aside0.mk h4
  cases b1
  · clear H2 H3 HCl HCo
    go_wp2_with (first
      | (go_at_call 24; refine (hSz _ HB3.out).mono ?_; rintro e w' ⟨rfl, ⟨nd0, rfl⟩⟩)
      | (go_at_call 23; refine (H1 _).mono ?_; rintro e w' ⟨rfl, ⟨nd1, rfl⟩⟩))
    go_ret
    exact ⟨by simp, by repeat (first | exact HB3.out | apply pw_below_drewN | apply below_drew1)⟩
  cases b2
  rotate_left
  · clear H3 HCl HCo
    go_wp2_with (first
      | (go_at_call 24; refine (hSz _ HB3.out).mono ?_; rintro e w' ⟨rfl, ⟨nd0, rfl⟩⟩)
      | (go_at_call 23; refine (H1 _).mono ?_; rintro e w' ⟨rfl, ⟨nd1, rfl⟩⟩)
      | (go_at_call 25; refine (H2 _ (by repeat (first | exact HB3.out | apply pw_below_drewN | apply below_drew1))).mono ?_; rintro e w' ⟨rfl, ⟨nd2, rfl⟩⟩))
    go_ret
    exact ⟨by simp, by repeat (first | exact HB3.out | apply pw_below_drewN | apply below_drew1)⟩
  cases b3
  · clear HCl HCo
    go_wp2_with (first
      | (go_at_call 24; refine (hSz _ HB3.out).mono ?_; rintro e w' ⟨rfl, ⟨nd0, rfl⟩⟩)
      | (go_at_call 23; refine (H1 _).mono ?_; rintro e w' ⟨rfl, ⟨nd1, rfl⟩⟩)
      | (go_at_call 25; refine (H2 _ (by repeat (first | exact HB3.out | apply pw_below_drewN | apply below_drew1))).mono ?_; rintro e w' ⟨rfl, ⟨nd2, rfl⟩⟩)
      | (go_at_call 27; refine (H3 _ _ _ (by repeat (first | exact (Kd.R_reads' HO3.out).2.2 | refine Kd.C_drewN ?_ _)) (Kd.R_reads' HO3.out).2.1).mono ?_; rintro e w4 ⟨rfl, hb4⟩; have HO4 := Aside0.mk (Kd.R_below (by repeat (first | exact HO3.out | refine Kd.R_drewN ?_ _)) hb4); have HB4 := Aside0.mk (below_step (w := w) (by repeat (first | exact HB3.out | apply pw_below_drewN | apply below_drew1)) hb4); clear hb4))
    go_ret
    exact ⟨by simp, HB4.out⟩
  · skip
    go_wp2_with (first
      | (go_at_call 24; refine (hSz _ HB3.out).mono ?_; rintro e w' ⟨rfl, ⟨nd0, rfl⟩⟩)
      | (go_at_call 23; refine (H1 _).mono ?_; rintro e w' ⟨rfl, ⟨nd1, rfl⟩⟩)
      | (go_at_call 25; refine (H2 _ (by repeat (first | exact HB3.out | apply pw_below_drewN | apply below_drew1))).mono ?_; rintro e w' ⟨rfl, ⟨nd2, rfl⟩⟩)
      | (go_at_call 27; refine (H3 _ _ _ (by repeat (first | exact (Kd.R_reads' HO3.out).2.2 | refine Kd.C_drewN ?_ _)) (Kd.R_reads' HO3.out).2.1).mono ?_; rintro e w4 ⟨rfl, hb4⟩; have HO4 := Aside0.mk (Kd.R_below (by repeat (first | exact HO3.out | refine Kd.R_drewN ?_ _)) hb4); have HB4 := Aside0.mk (below_step (w := w) (by repeat (first | exact HB3.out | apply pw_below_drewN | apply below_drew1)) hb4); clear hb4)
      | (go_at_call 29; refine (HCl _ _ _ (Kd.R_reads' HO4.out).2.2 (Kd.R_reads' HO4.out).2.1).mono ?_; rintro e w5 ⟨v5, rfl, ho5, hb5⟩; have HO5 := Aside0.mk (Kd.R_lower ho5 (below_size HB4.out)); have HB5 := Aside0.mk (below_step (w := w) HB4.out hb5); clear hb5 ho5)
      | (go_at_call 28; refine (HCo _ _ HB5.out (Kd.own_of_R HO5.out)).mono ?_; rintro e w6 ⟨A6, c6, rfl, hb6⟩; have HB6 := Aside0.mk hb6; clear hb6))
    go_ret
    exact ⟨by rw [h4.out]; simp; rw [Bool.eq_iff_iff, beq_iff_eq, decide_eq_true_iff]; exact Int.ofNat_inj, HB6.out⟩
theorem filter_len_iff {α : Type} (p : α → Bool) : ∀ l : List α, (l.filter p).length = l.length ↔ ∀ x ∈ l, p x = true
  | [] => by simp
  | x :: xs => by
    have ih := filter_len_iff p xs
    have hl := List.length_filter_le p xs
    cases h : p x
    · simp [h]; omega
    · simp [h, ih]
theorem nodup_of_adj {l : List Int} (hs : l.Pairwise (· ≤ ·)) (ha : ∀ i, i + 1 < l.length → l[i]? ≠ l[i + 1]?) : l.Nodup := by
  induction l with
  | nil => simp
  | cons a l ih =>
    rw [List.pairwise_cons] at hs
    rw [List.nodup_cons]
    refine ⟨fun hm => ?_, ih hs.2 (fun i hi => ?_)⟩
    · cases l with
      | nil => simp at hm
      | cons b l =>
        have h0 := ha 0 (by simp)
        simp at h0
        have hab := hs.1 b (by simp)
        have hba : b ≤ a := by
          rcases List.mem_cons.1 hm with h | h
          · omega
          · exact (List.pairwise_cons.1 hs.2).1 a h
        omega
    · have := ha (i + 1) (by simp; omega)
      simpa using this
theorem adj_of_nodup {l : List Int} (hn : l.Nodup) (i : Nat) (hi : i + 1 < l.length) : l[i]? ≠ l[i + 1]? := by
  intro h
  rw [List.getElem?_eq_getElem (by omega), List.getElem?_eq_getElem hi] at h
  injection h with h
  have := (List.pairwise_iff_getElem.1 hn) i (i + 1) (by omega) hi (by omega)
  exact this h
theorem compact_len (l : List Int) (hs : l.Pairwise (· ≤ ·)) : (Go.Lib.compact l).length = l.length ↔ l.Nodup := by
  unfold Go.Lib.compact Go.Lib.compactUpTo
  rw [List.length_map]
  have h := filter_len_iff (Go.Lib.keeps l.toArray) (List.range l.length)
  rw [List.length_range] at h
  rw [h]
  constructor
  · intro h
    refine nodup_of_adj hs (fun i hi => ?_)
    have h2 := h (i + 1) (by simp; omega)
    simp only [Go.Lib.keeps, decide_eq_true_eq] at h2
    rcases h2 with h2 | h2
    · omega
    · intro he
      apply h2
      simp only [Nat.add_sub_cancel, List.getElem!_toArray, List.getElem!_eq_getElem?_getD, he]
  · intro hn i hi
    rw [List.mem_range] at hi
    simp only [Go.Lib.keeps, decide_eq_true_eq]
    by_cases h0 : i = 0
    · exact .inl h0
    · refine .inr fun he => ?_
      obtain ⟨k, rfl⟩ : ∃ k, i = k + 1 := ⟨i - 1, by omega⟩
      refine adj_of_nodup hn k hi ?_
      simp only [Nat.add_sub_cancel, List.getElem!_toArray, List.getElem!_eq_getElem?_getD] at he
      rw [List.getElem?_eq_getElem (show k < l.length by omega), List.getElem?_eq_getElem hi]
      simpa [List.getElem?_eq_getElem (show k < l.length by omega), List.getElem?_eq_getElem hi] using he.symm
theorem sortedValues : SortedValues := fun Bs sv zs w h1 h2 h3 h4 => Tryd.sorted_values Bs sv zs h1 w h2 h3 h4
theorem compactsInt : CompactsInt (fun zs => (Go.Lib.compact zs).length) := fun v zs w0 w hb ho hl => Tryd.compact_own v zs w0 w hb ho hl
def impl_ValidCupboard.f (l0 : List (List Int)) : Option Bool := if l0.flatten.length ≤ 1048576 then some ((decide (1 ≤ (l0.length : Int)) && decide ((l0.length : Int) ≤ 6)) && !(l0.any fun p => decide (8 < p.length)) && (l0.flatten.all fun x => decide (0 ≤ x) && decide (x ≤ 999)) && decide l0.flatten.Nodup) else none
theorem impl_ValidCupboard.calls (A0 : Option Addr) (c0 : Nat) (l0 : List (List Int)) (r : Bool) (w : World) (hr0 : Kd.C (Kd.slice 2 (Kd.int .i64)) w A0 l0.length l0) (hc0 : l0.length ≤ c0) (h : impl_ValidCupboard.f l0 = some r) :
    Calls Tryd.prog 13 #[.slice A0 l0.length c0] w fun e w' => e = .returned (.bool r) ∧ Below w.heap.size w w' := by
  unfold impl_ValidCupboard.f at h
  split at h
  case isFalse => cases h
  rename_i hle
  obtain rfl := Option.some.inj h
  have hp := List.mergeSort_perm l0.flatten (fun x y => decide (x ≤ y))
  have hs : (l0.flatten.mergeSort (fun x y => decide (x ≤ y))).Pairwise (· ≤ ·) := by
    have := List.pairwise_mergeSort (le := fun x y : Int => decide (x ≤ y)) (by intro a b c; simp; omega) (by intro a b; simp; omega) l0.flatten
    simpa using this
  have e3 : (l0.flatten.all fun x => decide (0 ≤ x) && decide (x ≤ 999)) = (l0.flatten.mergeSort (fun x y => decide (x ≤ y))).all fun x => decide (0 ≤ x) && decide (x ≤ 999) := by
    rw [Bool.eq_iff_iff, List.all_eq_true, List.all_eq_true]
    exact ⟨fun h x hx => h x (hp.mem_iff.1 hx), fun h x hx => h x (hp.mem_iff.2 hx)⟩
  have e4 : decide l0.flatten.Nodup = decide ((Go.Lib.compact (l0.flatten.mergeSort (fun x y => decide (x ≤ y)))).length = l0.flatten.length) := by
    rw [Bool.eq_iff_iff, decide_eq_true_iff, decide_eq_true_iff, ← List.length_mergeSort (le := fun x y : Int => decide (x ≤ y)) l0.flatten, compact_len _ hs, hp.nodup_iff]
  exact validCup_of (fun zs => (Go.Lib.compact zs).length) sortedValues compactsInt A0 c0 l0 w hr0 hc0 hle _ _ _ _ rfl rfl e3 e4

end Go.Proofs.YtkjligoamechkaaDoor.X
