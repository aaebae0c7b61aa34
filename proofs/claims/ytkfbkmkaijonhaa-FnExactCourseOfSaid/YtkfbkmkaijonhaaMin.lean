/- Contracts of functions over blocks of cells: what each call answers, and what it leaves as it was. -/
import Derived.Test.YtkfbkmkaijonhaaLast
import Derived.Test.YtkfbkmkaijonhaaDry5
set_option linter.unusedVariables false
set_option linter.unusedSimpArgs false
namespace Go.Proofs.Ytkfbkmkaijonhaa.X
open Go.RowKit Go.Proofs.YtkfbkmkaijonhaaW.PrintWords Go.Proofs.YtkfbkmkaijonhaaW.PrintLast Go.Proofs.YtkfbkmkaijonhaaW.PrintMore
attribute [local go_sem] max2_int min2_int max_two min_two max_three min_three max_four min_four
set_option maxHeartbeats 8000000 in
set_option maxRecDepth 100000 in
theorem min_calls (f : Nat → Int) (n : Nat) (hn : n ≤ 100000) (A : Option Addr) (c : Nat) (w : World) (hC : Kd.C (Kd.int .i64) w A (n + 1) ((List.range (n + 1)).map f)) :
    Calls Try.prog 54 #[.slice A (n + 1) c] w fun e w' => e = .returned (.int .i64 (takeN f n).2) ∧ Drawn0 w w' := by
  have HC := Aside0.mk hC
  obtain ⟨ad, rfl, hx⟩ := Kd.at_int hC (0 : Int) (by omega) (by omega)
  have e0 : rd ((List.range (n + 1)).map f) 0 = f 0 := map_getD f n 0 (by omega)
  rw [e0] at hx
  have hx0 : w.cell? (ad.add 0) = some (.int .i64 (f 0)) := by simpa using hx
  clear hx hC e0
  have ha : ad.add 0 = ad := by unfold Addr.add; simp
  rw [ha] at hx0
  clear ha
  generalize hf0 : f 0 = x0 at hx0
  have HF0 := Aside0.mk hf0
  clear hf0
  go_enter Try.func54, Try.ntmps54
  go_wp2
  go_loopw [3, 4] (fun v3 v4 w' => ∃ q : Nat, 1 ≤ q ∧ q ≤ n + 1 ∧ v3 = .int .i64 (takeN f (q - 1)).2 ∧ v4 = .int .i64 q ∧ Drawn0 w w') (fun _ v4 _ => n + 1 - (intOf v4).toNat)
  case atStart => exact ⟨1, by omega, by omega, by show _ = Value.int .i64 (f 0); rw [HF0.out], rfl, Drawn0.refl _⟩
  case round =>
    obtain ⟨q, hq0, hq1, rfl, rfl, ⟨m1, rfl⟩⟩ := hrel
    by_cases hlt : q < n + 1
    · obtain ⟨ad', e, hx⟩ := Kd.at_int HC.out (q : Int) (by omega) (by omega)
      injection e with e
      subst e
      have e1 : rd ((List.range (n + 1)).map f) (q : Int) = f q := map_getD f n q (by omega)
      rw [e1, Int.toNat_natCast] at hx
      have HE : Aside0 ((takeN f (q + 1 - 1)).2 = if f q < (takeN f (q - 1)).2 then f q else (takeN f (q - 1)).2) := ⟨by rw [show q + 1 - 1 = (q - 1) + 1 by omega, takeN, show q - 1 + 1 = q by omega]; split <;> rfl⟩
      generalize f q = x at hx HE
      generalize (takeN f (q - 1)).2 = y at HE
      clear e1
      by_cases hxy : x < y
      · have HE2 : Aside0 ((takeN f (q + 1 - 1)).2 = x) := ⟨by rw [HE.out, if_pos hxy]⟩
        clear HE
        go_wp2
        go_roundw
        case rel => exact ⟨q + 1, by omega, by omega, by rw [HE2.out], by go_num, by repeat (first | exact Drawn0.refl _ | apply Drawn0.step)⟩
        case measure => simp [intOf] <;> omega
      · have HE2 : Aside0 ((takeN f (q + 1 - 1)).2 = y) := ⟨by rw [HE.out, if_neg hxy]⟩
        clear HE
        go_wp2
        go_roundw
        case rel => exact ⟨q + 1, by omega, by omega, by rw [HE2.out], by go_num, by repeat (first | exact Drawn0.refl _ | apply Drawn0.step)⟩
        case measure => simp [intOf] <;> omega
    · obtain rfl : q = n + 1 := by omega
      go_wp2
      go_ret
      exact ⟨rfl, by repeat (first | exact Drawn0.refl _ | apply Drawn0.step)⟩
theorem course_list (L : List Int) (hL : L.length = 72) (hd : dayOk L = true) (wet thick : Int) (hw : washOk wet thick = true) (h : Nat) (hh : h ≤ 24) (n : Nat) (hn : n = 24 - h) (shade : Bool) (w : World) :
    Calls Try.prog 49 #[(.agg (nums .i8 L).toArray), .agg #[.int .i16 wet, .int .i8 thick], .int .i64 h, .bool shade] w fun e w' => ∃ A c, e = .returned (.slice A (n + 1) c) ∧ n + 1 ≤ c ∧ Kd.C (Kd.int .i64) w' A (n + 1) ((List.range (n + 1)).map fun j => beh L thick shade h j wet) ∧ Below w.heap.size w w' := by
  subst hn
  refine (course_calls L hL hd wet thick hw h hh shade w).mono ?_
  rintro e w' ⟨v, rfl, hR, hb⟩
  obtain ⟨A, c, rfl, hc, hC⟩ := Kd.R_reads hR
  rw [courseF_length] at hc hC
  exact ⟨A, c, by rw [courseF_length], hc, hC, hb⟩
theorem index_list (v : Int) (f : Nat → Int) (n : Nat) (hn : n ≤ 100000) (A : Option Addr) (c : Nat) (hc : n + 1 ≤ c) (w : World) (hC : Kd.C (Kd.int .i64) w A (n + 1) ((List.range (n + 1)).map f)) :
    Calls Try.prog 55 #[.slice A (n + 1) c, .int .i64 v] w fun e w' => e = .returned (.int .i64 (ixR v ((List.range (n + 1)).map f) 0)) ∧ Drawn0 w w' := by
  have hl : ((List.range (n + 1)).map f).length = n + 1 := by simp
  have := slices_Index_int64_int64.calls (n + 2) A c ((List.range (n + 1)).map f) v _ w (by rw [hl]; exact hC) (by rw [hl]; exact hc) (index_f v (by omega) (by omega))
  rw [hl] at this
  exact this

end Go.Proofs.Ytkfbkmkaijonhaa.X
