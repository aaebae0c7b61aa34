/- Contracts of functions, and plain facts: what each call answers, and what it leaves as it was. -/
import Derived.Test.YtddlhjhnnmkgaaaDoorX0
import Derived.Test.YtddlhjhnnmkgaaaDoorBlk
import Derived.Lib.AppendZeros
import Derived.Lib.AppendZerosOnto
import Derived.Lib.Walk
set_option linter.unusedVariables false
set_option linter.unusedSimpArgs false
namespace Go.Proofs.YtddlhjhnnmkgaaaDoor.X
open Go.RowKit Go.Proofs.YtddlhjhnnmkgaaaDoorW.PrintWords Go.Proofs.YtddlhjhnnmkgaaaDoorW.PrintLast Go.Proofs.YtddlhjhnnmkgaaaDoorW.PrintMore
attribute [local go_sem] max2_int min2_int max_two min_two max_three min_three max_four min_four
theorem info16 : (Tryd.prog.info? 23).map (fun i => (i.zero, i.size, i.bytes)) = some (some (.int .i16 0), 1, 2) := by kernel_rfl
def rd_L16 (xs : List (List Int)) (i : Int) : List Int := xs.getD i.toNat []
theorem at_L16 {w : World} {A : Option Addr} {n : Nat} {xs : List (List Int)} (h : Kd.C (Kd.slice 23 (Kd.int .i16)) w A n xs) (i : Int) (h0 : 0 ≤ i) (h1 : i < n) :
    ∃ ad A1 c1, A = some ad ∧ w.cell? (ad.add i.toNat) = some (.slice A1 (rd_L16 xs i).length c1) ∧ (rd_L16 xs i).length ≤ c1 ∧ Kd.C (Kd.int .i16) w A1 (rd_L16 xs i).length (rd_L16 xs i) := by
  obtain ⟨ad, c, e, _, ⟨A1, c1, rfl, hl, hC⟩, hc0⟩ := Kd.C_get h [] i h0 h1
  have := hc0 0 _ rfl
  simp only [show (Kd.slice 23 (Kd.int .i16)).sz = 1 from rfl, Nat.mul_one, Nat.add_zero] at this
  exact ⟨ad, A1, c1, e, this, hl, hC⟩
theorem flat16_take_succ {l : List (List Int)} {k : Nat} (h : k < l.length) : (l.take (k + 1)).flatten = (l.take k).flatten ++ rd_L16 l (k : Int) := by
  rw [List.take_add_one, List.flatten_append]
  simp [rd_L16, List.getElem?_eq_getElem h]
theorem flat16_take_le (l : List (List Int)) (k : Nat) : (l.take k).flatten.length ≤ l.flatten.length := by
  have h := congrArg (fun x : List (List Int) => x.flatten.length) (List.take_append_drop k l)
  simp only [List.flatten_append, List.length_append] at h
  omega
/-- slices.Grow at nil: a row of nothing, of the call's own -/
def GrowsNil16 : Prop := ∀ (n : Nat) (w : World), n ≤ 1099511627776 → Calls Tryd.prog 41 #[.slice none 0 0, .int .i64 n] w fun e w' => ∃ v : Value, e = .returned v ∧ w'.ownsRow w.heap.size 23 1 v 0 [] ∧ Below w.heap.size w w'
set_option maxHeartbeats 4000000 in
set_option maxRecDepth 100000 in
theorem grows_nil16 : GrowsNil16 := by
  intro n w hn
  have h1 : ¬ ((n : Int) < 0) := by omega
  have h2 : wrap64 ((0 : Int) - (0 : Int)) = 0 := by unfold wrap64; omega
  have h3 : wrap64 ((n : Int) - 0) = (n : Int) := by unfold wrap64; omega
  by_cases h0 : n = 0
  · subst h0
    go_enter Tryd.func41, Tryd.ntmps41
    go_wp2
    go_ret
    exact ⟨_, rfl, own_nil _ _ _ _, Below.refl _ _⟩
  · have h4 : decide ((n : Int) > 0) = true := decide_eq_true (by omega)
    have h4' : decide (0 < (n : Int)) = true := decide_eq_true (by omega)
    obtain ⟨i0, hi, hzz⟩ := Option.map_eq_some_iff.1 info16
    have hz0 : i0.zero = some (.int .i16 0) := congrArg (fun x => x.1) hzz
    have hs1 : i0.size = 1 := congrArg (fun x => x.2.1) hzz
    have hb8 : i0.bytes = 2 := congrArg (fun x => x.2.2) hzz
    have hrz : ∀ ty, (Builtin.append_ #[61, 3] ty #[.slice none 0 0, .int .i64 (n : Int)]).run Tryd.prog w = .ok (.slice (some ⟨w.heap.size, 0, none⟩) n (grownCap w n 0 23)) (w.drew.alloc (.cells (#[] ++ Builtin.zeroCells (Value.int .i16 0).cells n ++ Builtin.zeroCells (Value.int .i16 0).cells (grownCap w n 0 23 - n)) 23)) := fun ty => by
      have h := Lib.run_append_grow_zeros w 61 3 ty 23 i0 (.int .i16 0) .i64 .i64 Tryd.underlying61 Tryd.underlying3 hi hz0 none 0 0 [] (by rw [hs1]; exact run_firstCells_none w.drew 1 0 0 0) n (by omega) (by omega) (by omega) (by omega) (by rw [hb8]; omega) (by rw [Nat.zero_add, hb8]; exact growslice_fits (by omega) (by omega))
      rw [Nat.zero_add] at h
      exact h
    obtain ⟨G, hG⟩ : ∃ G, G = grownCap w n 0 23 := ⟨_, rfl⟩
    have hGn : n ≤ grownCap w n 0 23 := grownCap_ge w _ _ _
    have hG63 : G ≤ maxLen := by
      rw [hG]
      exact grownCap_le_maxLen w n 0 23 (by unfold maxLen; omega)
    rw [← hG] at hrz hGn
    clear hG
    go_enter Tryd.func41, Tryd.ntmps41
    go_wp2_with (at_builtin; refine Lib.wpList_append_run _ rfl _ _ _ _ rfl _ _ rfl rfl _ _ (hrz _) ?_)
    go_ret
    refine ⟨_, rfl, ⟨by simp, .inr ⟨w.heap.size, G, _, rfl, Nat.le_refl _, (Array.getElem?_push_size ..), Nat.zero_le _, hG63, ?_, by simp⟩⟩, ?_⟩
    · simp [size_zeroCells, Value.cells]; omega
    · exact below_alloc (below_drew1 (Below.refl _ _)) _
def slices_Concat16.f (l0 : List (List Int)) : Option (List Int) := if l0.flatten.length ≤ 1099511627776 then some l0.flatten else none
set_option maxHeartbeats 4000000 in
set_option maxRecDepth 100000 in
theorem concat16_of (hG : GrowsNil16) (A0 : Option Addr) (c0 : Nat) (l0 : List (List Int)) (w : World) (hr0 : Kd.C (Kd.slice 23 (Kd.int .i16)) w A0 l0.length l0) (hc0 : l0.length ≤ c0) (hle : l0.flatten.length ≤ 1099511627776) :
    Calls Tryd.prog 30 #[.slice A0 l0.length c0] w fun e w' => ∃ v0_ : Value, e = .returned v0_ ∧ Kd.R (Kd.int .i16) 23 w' w.heap.size (fun _ => True) v0_ l0.flatten ∧ Below w.heap.size w w' := by
  have hm := Kd.C_max hr0
  have HR0 := Aside0.mk hr0
  clear hr0 hc0
  go_enter Tryd.func30, Tryd.ntmps30
  go_wp2
  go_loopw [3, 11] (fun v3 v11 w' => ∃ k q : Nat, k ≤ l0.length ∧ v11 = .int .i64 k ∧ v3 = .int .i64 q ∧ Aside0 (q = (l0.take k).flatten.length) ∧ w' = w) (fun _ v11 _ => l0.length - (intOf v11).toNat)
  case atStart => exact ⟨0, 0, by omega, rfl, rfl, ⟨by simp⟩, rfl⟩
  case round =>
    obtain ⟨k, q, hk, rfl, rfl, HQ, hw⟩ := hrel
    replace hw := hw.symm
    subst hw
    by_cases hlt : k < l0.length
    · obtain ⟨ad, A1, c1, e1, hx1, hl1, hi1⟩ := at_L16 HR0.out (k : Int) (by omega) (by omega)
      cases e1
      replace hx1 := (show (k : Int).toNat = k from rfl) ▸ hx1
      have HQ' : Aside0 (q + (rd_L16 l0 k).length = (l0.take (k + 1)).flatten.length) := ⟨by rw [flat16_take_succ hlt, List.length_append, HQ.out]⟩
      have h2 : q + (rd_L16 l0 k).length ≤ 1099511627776 := by rw [HQ'.out]; exact Nat.le_trans (flat16_take_le l0 (k + 1)) hle
      generalize (rd_L16 l0 k).length = m at *
      clear hle hi1 hl1 HQ
      have h3 : wrap64 ((q : Int) + (m : Int)) = ((q + m : Nat) : Int) := by unfold wrap64; omega
      have h4 : ¬ (((q + m : Nat) : Int) < 0) := by omega
      have h5 : decide (((q + m : Nat) : Int) < 0) = false := decide_eq_false h4
      generalize q + m = qm at *
      go_wp2
      go_roundw
      case rel => exact ⟨k + 1, qm, by omega, by go_num, by rw [h3], HQ', trivial⟩
      case measure => simp [intOf]; omega
    · obtain rfl : k = l0.length := by omega
      have HQ' : Aside0 (q = l0.flatten.length) := ⟨by rw [HQ.out, List.take_length]⟩
      have h2 : q ≤ 1099511627776 := by rw [HQ'.out]; exact hle
      clear HQ hle
      go_wp2_with fail
      refine (hG q _ h2).mono ?_
      rintro e w2 ⟨v, rfl, ho, hb⟩
      have HO := Aside0.mk (show Kd.R (Kd.int .i16) 23 w2 w.heap.size (fun _ => True) v ([] : List Int) from ⟨fun _ _ => trivial, [], ho, Reps.none _ _⟩)
      have HB := Aside0.mk hb
      have HL := Aside0.mk (show l0.flatten.length ≤ 1099511627776 by rw [← HQ'.out]; exact h2)
      clear ho hb h2 HQ' hG
      go_wp2
      go_loopw [6, 27] (fun v6 v27 w' => ∃ k : Nat, k ≤ l0.length ∧ v27 = .int .i64 k ∧ Aside0 (Kd.R (Kd.int .i16) 23 w' w.heap.size (fun _ => True) v6 (l0.take k).flatten) ∧ Aside0 (Below w.heap.size w w')) (fun _ v27 _ => l0.length - (intOf v27).toNat)
      case atStart => exact ⟨0, by omega, rfl, HO, HB⟩
      case round =>
        clear HO HB
        obtain ⟨k, hk, rfl, HO, HB⟩ := hrel
        by_cases hlt : k < l0.length
        · obtain ⟨ad, A1, c1, e1, hx1, hl1, hi1⟩ := at_L16 HR0.out (k : Int) (by omega) (by omega)
          cases e1
          replace hx1 := (show (k : Int).toNat = k from rfl) ▸ hx1
          replace hx1 := pw_cell_below HB.out hx1
          have HI := Aside0.mk (Kd.C_below hi1 HB.out)
          have HF := Aside0.mk (flat16_take_succ hlt)
          have HL2 := Aside0.mk (show ((l0.take k).flatten.length + (rd_L16 l0 k).length) * 2 ≤ 140737488355328 by
            have h1 := flat16_take_le l0 (k + 1)
            rw [flat16_take_succ hlt, List.length_append] at h1
            have := HL.out
            omega)
          clear hi1 hl1
          generalize hy : rd_L16 l0 (k : Int) = y at *
          go_wp2_with (first
            | ((with_reducible refine gate_builtin (b := .append) (xs := #[.tmp 31, .tmp 32]) rfl ?_); at_builtin; refine Kd.R_append_rows (Kd.int .i16) (w0 := w) w.heap.size rfl (.tmp 31) (.tmp 32) 61 23 (.int .i16 0) 2 rfl Tryd.underlying61 info16 rfl (by decide) (by omega) _ (l0.take k).flatten y _ _ _ (fun _ => True) (fun _ => False) rfl rfl ?aO ?aR (fun _ _ h => h) (fun _ h => h.elim) ?aF ?aB ?aS ?aL ?_; (case aR => exact HI.out); (case aB => exact HB.out); (case aF => exact (fun _ _ => trivial)); (case aO => exact HO.out); (case aS => exact below_size HB.out); (case aL => exact HL2.out); intro v5 w5 ho hb hg hat; have HO5 := Aside0.mk ho; have HB5 := Aside0.mk hb; clear ho hb hg hat))
          go_roundw
          case rel => exact ⟨k + 1, by omega, by go_num, ⟨by rw [HF.out]; exact HO5.out⟩, HB5⟩
          case measure => simp [intOf]; omega
        · obtain rfl : k = l0.length := by omega
          rw [List.take_length] at HO
          go_wp2
          go_ret
          exact ⟨_, rfl, HO.out, HB.out⟩
end Go.Proofs.YtddlhjhnnmkgaaaDoor.X
