-- Written by px.py (a session's driver over the print): contracts of functions. Lean checks it.
import Derived.Test.YtjegcpagdpjidaaG0
import Derived.Test.YtjegcpagdpjidaaX5
import Derived.Test.YtjegcpagdpjidaaX7
namespace Go.Proofs.Ytjegcpagdpjidaa.X
open Go.RowKit Go.Proofs.YtjegcpagdpjidaaW.PrintWords Go.Proofs.YtjegcpagdpjidaaW.PrintLast Go.Proofs.YtjegcpagdpjidaaW.PrintMore
attribute [local go_sem] max2_int min2_int max_two min_two max_three min_three max_four min_four   -- for this text's walks alone
set_option linter.unusedVariables false
set_option linter.unusedSimpArgs false

/-! ### impl_folded: function 57 -/
def impl_folded.f (a b c fold : Int) : Option (Int × Int × Int × Int) :=
  if 1 ≤ a ∧ a ≤ 1296 ∧ 1 ≤ b ∧ b ≤ 1296 ∧ 1 ≤ c ∧ c ≤ 144 then
    (if fold < 0 ∨ 3 < fold then some (0, 0, 0, 2)
    else if (if fold = 1 ∨ fold = 3 then b else a) % (2 + fold / 2) ≠ 0 then some (0, 0, 0, 4)
    else if 144 < c * (2 + fold / 2) then some (0, 0, 0, 3)
    else if fold = 1 ∨ fold = 3 then some (a, b / (2 + fold / 2), c * (2 + fold / 2), 0)
    else some (a / (2 + fold / 2), b, c * (2 + fold / 2), 0))
  else none

set_option maxHeartbeats 1000000 in
theorem folded_none (a b c fold : Int) (w : World) (hf : fold < 0 ∨ 3 < fold) :
    Calls Try.prog 57 #[.agg #[.int .i16 a, .int .i16 b, .int .i16 c], .int .i64 fold] w fun e w' => e = .returned (.tuple #[.agg #[.int .i16 0, .int .i16 0, .int .i16 0], .int .i64 2]) ∧ Below w.heap.size w w' := by
  have A : impl_isFold.f fold = some false := by unfold impl_isFold.f impl_within.f; split <;> simp <;> omega
  have hc := fun W => impl_isFold.calls fold _ W A
  clear A hf
  have hu := Try.underlying26
  go_enter Try.func57, Try.ntmps57
  go_wp2_with (go_at_call 64; refine (hc _).mono ?_; rintro e w' ⟨rfl, ⟨nd, rfl⟩⟩)
  refine bodyPost_ret (v := .tuple #[.agg #[.int .i16 0, .int .i16 0, .int .i16 0], .int .i64 2]) (by simp [results, Try.results57, go_sem]) rfl ⟨rfl, ?_⟩
  repeat (first | exact Below.refl _ _ | refine below_set ?_ (by omega) | apply pw_below_drewN | apply below_drew1 | apply below_alloc)
set_option maxHeartbeats 4000000 in
set_option maxRecDepth 100000 in
theorem folded_hi_state (a b c fold p : Int) (w : World) (ha1 : 1 ≤ a) (ha2 : a ≤ 1296) (hb1 : 1 ≤ b) (hb2 : b ≤ 1296) (hc1 : 1 ≤ c) (hc2 : c ≤ 144) (hp1 : 2 ≤ p) (hp2 : p ≤ 3)
    (A1 : impl_isFold.f fold = some true) (A2 : impl_partsOf.f fold = some p) (A3 : impl_isHigh.f fold = some true) (hm : b % p ≠ 0) :
    Calls Try.prog 57 #[.agg #[.int .i16 a, .int .i16 b, .int .i16 c], .int .i64 fold] w fun e w' => e = .returned (.tuple #[.agg #[.int .i16 0, .int .i16 0, .int .i16 0], .int .i64 4]) ∧ Below w.heap.size w w' := by
  have h1 := fun W => impl_isFold.calls fold _ W A1
  have h2 := fun W => impl_partsOf.calls fold _ W A2
  have h3 := fun W => impl_isHigh.calls fold _ W A3
  clear A1 A2 A3
  have hu := Try.underlying26
  have hm3 : (b % p != 0) = true := by simpa using hm
  have hp3 : IntKind.i16.wrap p = p := IntWalk.i16_in _ ⟨by omega, by omega⟩
  clear hm
  go_enter Try.func57, Try.ntmps57
  go_wp2_with (first | (go_at_call 64; refine (h1 _).mono ?_; rintro e w' ⟨rfl, ⟨nd, rfl⟩⟩) | (go_at_call 58; refine (h2 _).mono ?_; rintro e w' ⟨rfl, ⟨nd, rfl⟩⟩) | (go_at_call 59; refine (h3 _).mono ?_; rintro e w' ⟨rfl, ⟨nd, rfl⟩⟩))
  refine bodyPost_ret (v := .tuple #[.agg #[.int .i16 0, .int .i16 0, .int .i16 0], .int .i64 4]) (by simp [results, Try.results57, go_sem]) rfl ⟨rfl, ?_⟩
  repeat (first | exact Below.refl _ _ | refine below_set ?_ (by omega) | apply pw_below_drewN | apply below_drew1 | apply below_alloc)
set_option maxHeartbeats 4000000 in
set_option maxRecDepth 100000 in
theorem folded_hi_limit (a b c fold p : Int) (w : World) (ha1 : 1 ≤ a) (ha2 : a ≤ 1296) (hb1 : 1 ≤ b) (hb2 : b ≤ 1296) (hc1 : 1 ≤ c) (hc2 : c ≤ 144) (hp1 : 2 ≤ p) (hp2 : p ≤ 3)
    (A1 : impl_isFold.f fold = some true) (A2 : impl_partsOf.f fold = some p) (A3 : impl_isHigh.f fold = some true) (hm : b % p = 0) (hl : 144 < c * p) :
    Calls Try.prog 57 #[.agg #[.int .i16 a, .int .i16 b, .int .i16 c], .int .i64 fold] w fun e w' => e = .returned (.tuple #[.agg #[.int .i16 0, .int .i16 0, .int .i16 0], .int .i64 3]) ∧ Below w.heap.size w w' := by
  have h1 := fun W => impl_isFold.calls fold _ W A1
  have h2 := fun W => impl_partsOf.calls fold _ W A2
  have h3 := fun W => impl_isHigh.calls fold _ W A3
  clear A1 A2 A3
  have hu := Try.underlying26
  have hm3 : (b % p != 0) = false := by simpa using hm
  have hp3 : IntKind.i16.wrap p = p := IntWalk.i16_in _ ⟨by omega, by omega⟩
  have hcp : 0 ≤ c * p := Int.mul_nonneg (by omega) (by omega)
  have hcq : c * p ≤ 432 := by have := Int.mul_le_mul hc2 hp2 (by omega) (by omega : (0:Int) ≤ 144); omega
  clear hm
  go_enter Try.func57, Try.ntmps57
  go_wp2_with (first | (go_at_call 64; refine (h1 _).mono ?_; rintro e w' ⟨rfl, ⟨nd, rfl⟩⟩) | (go_at_call 58; refine (h2 _).mono ?_; rintro e w' ⟨rfl, ⟨nd, rfl⟩⟩) | (go_at_call 59; refine (h3 _).mono ?_; rintro e w' ⟨rfl, ⟨nd, rfl⟩⟩))
  refine bodyPost_ret (v := .tuple #[.agg #[.int .i16 0, .int .i16 0, .int .i16 0], .int .i64 3]) (by simp [results, Try.results57, go_sem]) rfl ⟨rfl, ?_⟩
  repeat (first | exact Below.refl _ _ | refine below_set ?_ (by omega) | apply pw_below_drewN | apply below_drew1 | apply below_alloc)
set_option maxHeartbeats 4000000 in
set_option maxRecDepth 100000 in
theorem folded_hi_ok (a b c fold p : Int) (w : World) (ha1 : 1 ≤ a) (ha2 : a ≤ 1296) (hb1 : 1 ≤ b) (hb2 : b ≤ 1296) (hc1 : 1 ≤ c) (hc2 : c ≤ 144) (hp1 : 2 ≤ p) (hp2 : p ≤ 3)
    (A1 : impl_isFold.f fold = some true) (A2 : impl_partsOf.f fold = some p) (A3 : impl_isHigh.f fold = some true) (hm : b % p = 0) (hl : c * p ≤ 144) :
    Calls Try.prog 57 #[.agg #[.int .i16 a, .int .i16 b, .int .i16 c], .int .i64 fold] w fun e w' => e = .returned (.tuple #[.agg #[.int .i16 a, .int .i16 (b / p), .int .i16 (c * p)], .int .i64 0]) ∧ Below w.heap.size w w' := by
  have h1 := fun W => impl_isFold.calls fold _ W A1
  have h2 := fun W => impl_partsOf.calls fold _ W A2
  have h3 := fun W => impl_isHigh.calls fold _ W A3
  clear A1 A2 A3
  have hu := Try.underlying26
  have hm3 : (b % p != 0) = false := by simpa using hm
  have hp3 : IntKind.i16.wrap p = p := IntWalk.i16_in _ ⟨by omega, by omega⟩
  have hcp : 0 ≤ c * p := Int.mul_nonneg (by omega) (by omega)
  have hcq : c * p ≤ 432 := by have := Int.mul_le_mul hc2 hp2 (by omega) (by omega : (0:Int) ≤ 144); omega
  have hcw : IntKind.i16.wrap (c * p) = c * p := IntWalk.i16_in _ ⟨by omega, by omega⟩
  have hq : IntKind.i16.wrap (b.tdiv p) = b / p := by rw [Int.tdiv_eq_ediv_of_nonneg (by omega)]; exact IntWalk.i16_in _ ⟨by have := Int.ediv_nonneg (show 0 ≤ b by omega) (show 0 ≤ p by omega); omega, by have := Int.ediv_le_self p (show 0 ≤ b by omega); omega⟩
  clear hm
  go_enter Try.func57, Try.ntmps57
  go_wp2_with (first | (go_at_call 64; refine (h1 _).mono ?_; rintro e w' ⟨rfl, ⟨nd, rfl⟩⟩) | (go_at_call 58; refine (h2 _).mono ?_; rintro e w' ⟨rfl, ⟨nd, rfl⟩⟩) | (go_at_call 59; refine (h3 _).mono ?_; rintro e w' ⟨rfl, ⟨nd, rfl⟩⟩))
  refine bodyPost_ret (v := .tuple #[.agg #[.int .i16 a, .int .i16 (b / p), .int .i16 (c * p)], .int .i64 0]) (by simp [results, Try.results57, go_sem]) rfl ⟨rfl, ?_⟩
  repeat (first | exact Below.refl _ _ | refine below_set ?_ (by omega) | apply pw_below_drewN | apply below_drew1 | apply below_alloc)
set_option maxHeartbeats 4000000 in
set_option maxRecDepth 100000 in
theorem folded_wi_state (a b c fold p : Int) (w : World) (ha1 : 1 ≤ a) (ha2 : a ≤ 1296) (hb1 : 1 ≤ b) (hb2 : b ≤ 1296) (hc1 : 1 ≤ c) (hc2 : c ≤ 144) (hp1 : 2 ≤ p) (hp2 : p ≤ 3)
    (A1 : impl_isFold.f fold = some true) (A2 : impl_partsOf.f fold = some p) (A3 : impl_isHigh.f fold = some false) (hm : a % p ≠ 0) :
    Calls Try.prog 57 #[.agg #[.int .i16 a, .int .i16 b, .int .i16 c], .int .i64 fold] w fun e w' => e = .returned (.tuple #[.agg #[.int .i16 0, .int .i16 0, .int .i16 0], .int .i64 4]) ∧ Below w.heap.size w w' := by
  have h1 := fun W => impl_isFold.calls fold _ W A1
  have h2 := fun W => impl_partsOf.calls fold _ W A2
  have h3 := fun W => impl_isHigh.calls fold _ W A3
  clear A1 A2 A3
  have hu := Try.underlying26
  have hm3 : (a % p != 0) = true := by simpa using hm
  have hp3 : IntKind.i16.wrap p = p := IntWalk.i16_in _ ⟨by omega, by omega⟩
  clear hm
  go_enter Try.func57, Try.ntmps57
  go_wp2_with (first | (go_at_call 64; refine (h1 _).mono ?_; rintro e w' ⟨rfl, ⟨nd, rfl⟩⟩) | (go_at_call 58; refine (h2 _).mono ?_; rintro e w' ⟨rfl, ⟨nd, rfl⟩⟩) | (go_at_call 59; refine (h3 _).mono ?_; rintro e w' ⟨rfl, ⟨nd, rfl⟩⟩))
  refine bodyPost_ret (v := .tuple #[.agg #[.int .i16 0, .int .i16 0, .int .i16 0], .int .i64 4]) (by simp [results, Try.results57, go_sem]) rfl ⟨rfl, ?_⟩
  repeat (first | exact Below.refl _ _ | refine below_set ?_ (by omega) | apply pw_below_drewN | apply below_drew1 | apply below_alloc)
set_option maxHeartbeats 4000000 in
set_option maxRecDepth 100000 in
theorem folded_wi_limit (a b c fold p : Int) (w : World) (ha1 : 1 ≤ a) (ha2 : a ≤ 1296) (hb1 : 1 ≤ b) (hb2 : b ≤ 1296) (hc1 : 1 ≤ c) (hc2 : c ≤ 144) (hp1 : 2 ≤ p) (hp2 : p ≤ 3)
    (A1 : impl_isFold.f fold = some true) (A2 : impl_partsOf.f fold = some p) (A3 : impl_isHigh.f fold = some false) (hm : a % p = 0) (hl : 144 < c * p) :
    Calls Try.prog 57 #[.agg #[.int .i16 a, .int .i16 b, .int .i16 c], .int .i64 fold] w fun e w' => e = .returned (.tuple #[.agg #[.int .i16 0, .int .i16 0, .int .i16 0], .int .i64 3]) ∧ Below w.heap.size w w' := by
  have h1 := fun W => impl_isFold.calls fold _ W A1
  have h2 := fun W => impl_partsOf.calls fold _ W A2
  have h3 := fun W => impl_isHigh.calls fold _ W A3
  clear A1 A2 A3
  have hu := Try.underlying26
  have hm3 : (a % p != 0) = false := by simpa using hm
  have hp3 : IntKind.i16.wrap p = p := IntWalk.i16_in _ ⟨by omega, by omega⟩
  have hcp : 0 ≤ c * p := Int.mul_nonneg (by omega) (by omega)
  have hcq : c * p ≤ 432 := by have := Int.mul_le_mul hc2 hp2 (by omega) (by omega : (0:Int) ≤ 144); omega
  clear hm
  go_enter Try.func57, Try.ntmps57
  go_wp2_with (first | (go_at_call 64; refine (h1 _).mono ?_; rintro e w' ⟨rfl, ⟨nd, rfl⟩⟩) | (go_at_call 58; refine (h2 _).mono ?_; rintro e w' ⟨rfl, ⟨nd, rfl⟩⟩) | (go_at_call 59; refine (h3 _).mono ?_; rintro e w' ⟨rfl, ⟨nd, rfl⟩⟩))
  refine bodyPost_ret (v := .tuple #[.agg #[.int .i16 0, .int .i16 0, .int .i16 0], .int .i64 3]) (by simp [results, Try.results57, go_sem]) rfl ⟨rfl, ?_⟩
  repeat (first | exact Below.refl _ _ | refine below_set ?_ (by omega) | apply pw_below_drewN | apply below_drew1 | apply below_alloc)
set_option maxHeartbeats 4000000 in
set_option maxRecDepth 100000 in
theorem folded_wi_ok (a b c fold p : Int) (w : World) (ha1 : 1 ≤ a) (ha2 : a ≤ 1296) (hb1 : 1 ≤ b) (hb2 : b ≤ 1296) (hc1 : 1 ≤ c) (hc2 : c ≤ 144) (hp1 : 2 ≤ p) (hp2 : p ≤ 3)
    (A1 : impl_isFold.f fold = some true) (A2 : impl_partsOf.f fold = some p) (A3 : impl_isHigh.f fold = some false) (hm : a % p = 0) (hl : c * p ≤ 144) :
    Calls Try.prog 57 #[.agg #[.int .i16 a, .int .i16 b, .int .i16 c], .int .i64 fold] w fun e w' => e = .returned (.tuple #[.agg #[.int .i16 (a / p), .int .i16 b, .int .i16 (c * p)], .int .i64 0]) ∧ Below w.heap.size w w' := by
  have h1 := fun W => impl_isFold.calls fold _ W A1
  have h2 := fun W => impl_partsOf.calls fold _ W A2
  have h3 := fun W => impl_isHigh.calls fold _ W A3
  clear A1 A2 A3
  have hu := Try.underlying26
  have hm3 : (a % p != 0) = false := by simpa using hm
  have hp3 : IntKind.i16.wrap p = p := IntWalk.i16_in _ ⟨by omega, by omega⟩
  have hcp : 0 ≤ c * p := Int.mul_nonneg (by omega) (by omega)
  have hcq : c * p ≤ 432 := by have := Int.mul_le_mul hc2 hp2 (by omega) (by omega : (0:Int) ≤ 144); omega
  have hcw : IntKind.i16.wrap (c * p) = c * p := IntWalk.i16_in _ ⟨by omega, by omega⟩
  have hq : IntKind.i16.wrap (a.tdiv p) = a / p := by rw [Int.tdiv_eq_ediv_of_nonneg (by omega)]; exact IntWalk.i16_in _ ⟨by have := Int.ediv_nonneg (show 0 ≤ a by omega) (show 0 ≤ p by omega); omega, by have := Int.ediv_le_self p (show 0 ≤ a by omega); omega⟩
  clear hm
  go_enter Try.func57, Try.ntmps57
  go_wp2_with (first | (go_at_call 64; refine (h1 _).mono ?_; rintro e w' ⟨rfl, ⟨nd, rfl⟩⟩) | (go_at_call 58; refine (h2 _).mono ?_; rintro e w' ⟨rfl, ⟨nd, rfl⟩⟩) | (go_at_call 59; refine (h3 _).mono ?_; rintro e w' ⟨rfl, ⟨nd, rfl⟩⟩))
  refine bodyPost_ret (v := .tuple #[.agg #[.int .i16 (a / p), .int .i16 b, .int .i16 (c * p)], .int .i64 0]) (by simp [results, Try.results57, go_sem]) rfl ⟨rfl, ?_⟩
  repeat (first | exact Below.refl _ _ | refine below_set ?_ (by omega) | apply pw_below_drewN | apply below_drew1 | apply below_alloc)

theorem folded_facts (fold : Int) (h0 : 0 ≤ fold) (h1 : fold ≤ 3) : impl_isFold.f fold = some true ∧ impl_partsOf.f fold = some (2 + fold / 2) ∧ impl_isHigh.f fold = some (decide (fold = 1 ∨ fold = 3)) ∧ 2 ≤ 2 + fold / 2 ∧ 2 + fold / 2 ≤ 3 := by
  obtain rfl | rfl | rfl | rfl : fold = 0 ∨ fold = 1 ∨ fold = 2 ∨ fold = 3 := by omega
  all_goals exact ⟨rfl, by unfold impl_partsOf.f wrap64; rfl, rfl, by decide, by decide⟩

theorem impl_folded.calls (a b c fold : Int) (r1 r2 r3 r4 : Int) (w : World) (h : impl_folded.f a b c fold = some (r1, r2, r3, r4)) :
    Calls Try.prog 57 #[.agg #[.int .i16 a, .int .i16 b, .int .i16 c], .int .i64 fold] w fun e w' => e = .returned (.tuple #[.agg #[.int .i16 r1, .int .i16 r2, .int .i16 r3], .int .i64 r4]) ∧ Below w.heap.size w w' := by
  unfold impl_folded.f at h
  by_cases hv : 1 ≤ a ∧ a ≤ 1296 ∧ 1 ≤ b ∧ b ≤ 1296 ∧ 1 ≤ c ∧ c ≤ 144
  · rw [if_pos hv] at h
    obtain ⟨ha1, ha2, hb1, hb2, hc1, hc2⟩ := hv
    by_cases hf : fold < 0 ∨ 3 < fold
    · rw [if_pos hf] at h
      simp only [Option.some.injEq, Prod.mk.injEq] at h
      obtain ⟨rfl, rfl, rfl, rfl⟩ := h
      exact folded_none a b c fold w hf
    · rw [if_neg hf] at h
      obtain ⟨A1, A2, A3, hp1, hp2⟩ := folded_facts fold (by omega) (by omega)
      by_cases hh : fold = 1 ∨ fold = 3
      · simp only [if_pos hh] at h
        rw [decide_eq_true hh] at A3
        split at h
        · rename_i hm
          simp only [Option.some.injEq, Prod.mk.injEq] at h
          obtain ⟨rfl, rfl, rfl, rfl⟩ := h
          exact folded_hi_state a b c fold _ w ha1 ha2 hb1 hb2 hc1 hc2 hp1 hp2 A1 A2 A3 hm
        · rename_i hm
          have hm := Classical.not_not.mp hm
          split at h
          · rename_i hl
            simp only [Option.some.injEq, Prod.mk.injEq] at h
            obtain ⟨rfl, rfl, rfl, rfl⟩ := h
            exact folded_hi_limit a b c fold _ w ha1 ha2 hb1 hb2 hc1 hc2 hp1 hp2 A1 A2 A3 hm hl
          · rename_i hl
            simp only [Option.some.injEq, Prod.mk.injEq] at h
            obtain ⟨rfl, rfl, rfl, rfl⟩ := h
            exact folded_hi_ok a b c fold _ w ha1 ha2 hb1 hb2 hc1 hc2 hp1 hp2 A1 A2 A3 hm (by omega)
      · simp only [if_neg hh] at h
        rw [decide_eq_false hh] at A3
        split at h
        · rename_i hm
          simp only [Option.some.injEq, Prod.mk.injEq] at h
          obtain ⟨rfl, rfl, rfl, rfl⟩ := h
          exact folded_wi_state a b c fold _ w ha1 ha2 hb1 hb2 hc1 hc2 hp1 hp2 A1 A2 A3 hm
        · rename_i hm
          have hm := Classical.not_not.mp hm
          split at h
          · rename_i hl
            simp only [Option.some.injEq, Prod.mk.injEq] at h
            obtain ⟨rfl, rfl, rfl, rfl⟩ := h
            exact folded_wi_limit a b c fold _ w ha1 ha2 hb1 hb2 hc1 hc2 hp1 hp2 A1 A2 A3 hm hl
          · rename_i hl
            simp only [Option.some.injEq, Prod.mk.injEq] at h
            obtain ⟨rfl, rfl, rfl, rfl⟩ := h
            exact folded_wi_ok a b c fold _ w ha1 ha2 hb1 hb2 hc1 hc2 hp1 hp2 A1 A2 A3 hm (by omega)
  · rw [if_neg hv] at h
    cases h

end Go.Proofs.Ytjegcpagdpjidaa.X
