-- Written by px.py (a session's driver over the print): contracts of functions. Lean checks it.
import Derived.Test.YtjegcpagdpjidaaG0
import Derived.Test.YtjegcpagdpjidaaX5
import Derived.Test.YtjegcpagdpjidaaX7
import Derived.Test.YtjegcpagdpjidaaX8
namespace Go.Proofs.Ytjegcpagdpjidaa.X
open Go.RowKit Go.Proofs.YtjegcpagdpjidaaW.PrintWords Go.Proofs.YtjegcpagdpjidaaW.PrintLast Go.Proofs.YtjegcpagdpjidaaW.PrintMore
attribute [local go_sem] max2_int min2_int max_two min_two max_three min_three max_four min_four   -- for this text's walks alone
set_option linter.unusedVariables false
set_option linter.unusedSimpArgs false

/-! ### impl_UnfoldSheet: function 33 -/
def impl_UnfoldSheet.f (a b c fold : Int) : Option (Int × Int × Int × Int) :=
  (impl_ValidSheet.f a b c).bind fun ok =>
  if ok = true then
    (if ¬ (1 ≤ a ∧ a ≤ 1296 ∧ 1 ≤ b ∧ b ≤ 1296 ∧ 1 ≤ c ∧ c ≤ 144) then none
    else if fold < 0 ∨ 3 < fold then some (0, 0, 0, 2)
    else if c % (2 + fold / 2) ≠ 0 then some (0, 0, 0, 4)
    else if 1296 < (if fold = 1 ∨ fold = 3 then b else a) * (2 + fold / 2) then some (0, 0, 0, 3)
    else if fold = 1 ∨ fold = 3 then some (a, b * (2 + fold / 2), c / (2 + fold / 2), 0)
    else some (a * (2 + fold / 2), b, c / (2 + fold / 2), 0))
  else some (0, 0, 0, 1)

set_option maxHeartbeats 4000000 in
set_option maxRecDepth 100000 in
theorem unfold_invalid (a b c fold : Int) (w : World) (A0 : impl_ValidSheet.f a b c = some false) :
    Calls Try.prog 33 #[.agg #[.int .i16 a, .int .i16 b, .int .i16 c], .int .i64 fold] w fun e w' => e = .returned (.tuple #[.agg #[.int .i16 0, .int .i16 0, .int .i16 0], .int .i64 1]) ∧ Below w.heap.size w w' := by
  have h0 := fun W => impl_ValidSheet.calls a b c _ W A0
  clear A0
  have hu := Try.underlying26
  go_enter Try.func33, Try.ntmps33
  go_wp2_with (go_at_call 29; refine (h0 _).mono ?_; rintro e w1 ⟨rfl, hb⟩; have HB1 := Aside0.mk (below_step (below_alloc (below_alloc (Below.refl _ _) _) _) hb); have hsz1 : w.heap.size + 1 < w1.heap.size := (by have := hb.size; simp at this; omega); have x0 := pw_cell_below hb (show World.cell? _ ⟨w.heap.size, 0, none⟩ = some (.int .i16 a) by go_simp); have x1 := pw_cell_below hb (show World.cell? _ ⟨w.heap.size, 1, none⟩ = some (.int .i16 b) by go_simp); have x2 := pw_cell_below hb (show World.cell? _ ⟨w.heap.size, 2, none⟩ = some (.int .i16 c) by go_simp); have y0 := pw_cell_below hb (show World.cell? _ ⟨w.heap.size + 1, 0, none⟩ = some (.int .i16 0) by go_simp); have y1 := pw_cell_below hb (show World.cell? _ ⟨w.heap.size + 1, 1, none⟩ = some (.int .i16 0) by go_simp); have y2 := pw_cell_below hb (show World.cell? _ ⟨w.heap.size + 1, 2, none⟩ = some (.int .i16 0) by go_simp); have z0 : ∀ j, w1.frozen? ⟨w.heap.size, j, none⟩ = false := (fun j => (hb.frozen (p := ⟨w.heap.size, j, none⟩) (by simp <;> omega)).trans (by go_simp)); have z1 : ∀ j, w1.frozen? ⟨w.heap.size + 1, j, none⟩ = false := (fun j => (hb.frozen (p := ⟨w.heap.size + 1, j, none⟩) (by simp <;> omega)).trans (by go_simp)); clear hb)
  refine bodyPost_ret (v := .tuple #[.agg #[.int .i16 0, .int .i16 0, .int .i16 0], .int .i64 1]) (by simp [results, Try.results33, go_sem, *]) rfl ⟨rfl, ?_⟩
  repeat (first | exact HB1.out | refine below_set ?_ (by omega) | apply pw_below_drewN | apply below_drew1 | apply below_alloc)
set_option maxHeartbeats 4000000 in
set_option maxRecDepth 100000 in
theorem unfold_range (a b c fold : Int) (w : World) (A0 : impl_ValidSheet.f a b c = some true) (A1 : impl_isFold.f fold = some false) :
    Calls Try.prog 33 #[.agg #[.int .i16 a, .int .i16 b, .int .i16 c], .int .i64 fold] w fun e w' => e = .returned (.tuple #[.agg #[.int .i16 0, .int .i16 0, .int .i16 0], .int .i64 2]) ∧ Below w.heap.size w w' := by
  have h0 := fun W => impl_ValidSheet.calls a b c _ W A0
  have h1 := fun W => impl_isFold.calls fold _ W A1
  clear A0 A1
  have hu := Try.underlying26
  go_enter Try.func33, Try.ntmps33
  go_wp2_with (first
    | (go_at_call 29; refine (h0 _).mono ?_; rintro e w1 ⟨rfl, hb⟩; have HB1 := Aside0.mk (below_step (below_alloc (below_alloc (Below.refl _ _) _) _) hb); have hsz1 : w.heap.size + 1 < w1.heap.size := (by have := hb.size; simp at this; omega); have x0 := pw_cell_below hb (show World.cell? _ ⟨w.heap.size, 0, none⟩ = some (.int .i16 a) by go_simp); have x1 := pw_cell_below hb (show World.cell? _ ⟨w.heap.size, 1, none⟩ = some (.int .i16 b) by go_simp); have x2 := pw_cell_below hb (show World.cell? _ ⟨w.heap.size, 2, none⟩ = some (.int .i16 c) by go_simp); have y0 := pw_cell_below hb (show World.cell? _ ⟨w.heap.size + 1, 0, none⟩ = some (.int .i16 0) by go_simp); have y1 := pw_cell_below hb (show World.cell? _ ⟨w.heap.size + 1, 1, none⟩ = some (.int .i16 0) by go_simp); have y2 := pw_cell_below hb (show World.cell? _ ⟨w.heap.size + 1, 2, none⟩ = some (.int .i16 0) by go_simp); have z0 : ∀ j, w1.frozen? ⟨w.heap.size, j, none⟩ = false := (fun j => (hb.frozen (p := ⟨w.heap.size, j, none⟩) (by simp <;> omega)).trans (by go_simp)); have z1 : ∀ j, w1.frozen? ⟨w.heap.size + 1, j, none⟩ = false := (fun j => (hb.frozen (p := ⟨w.heap.size + 1, j, none⟩) (by simp <;> omega)).trans (by go_simp)); clear hb)
    | (go_at_call 64; refine (h1 _).mono ?_; rintro e w' ⟨rfl, ⟨nd, rfl⟩⟩))
  refine bodyPost_ret (v := .tuple #[.agg #[.int .i16 0, .int .i16 0, .int .i16 0], .int .i64 2]) (by simp [results, Try.results33, go_sem, *]) rfl ⟨rfl, ?_⟩
  repeat (first | exact HB1.out | refine below_set ?_ (by omega) | apply pw_below_drewN | apply below_drew1 | apply below_alloc)
set_option maxHeartbeats 4000000 in
set_option maxRecDepth 100000 in
theorem unfold_hi_state (a b c fold p : Int) (w : World) (ha1 : 1 ≤ a) (ha2 : a ≤ 1296) (hb1 : 1 ≤ b) (hb2 : b ≤ 1296) (hc1 : 1 ≤ c) (hc2 : c ≤ 144) (hp1 : 2 ≤ p) (hp2 : p ≤ 3)
    (A0 : impl_ValidSheet.f a b c = some true) (A1 : impl_isFold.f fold = some true) (A2 : impl_partsOf.f fold = some p) (A3 : impl_isHigh.f fold = some true) (hm : c % p ≠ 0) :
    Calls Try.prog 33 #[.agg #[.int .i16 a, .int .i16 b, .int .i16 c], .int .i64 fold] w fun e w' => e = .returned (.tuple #[.agg #[.int .i16 0, .int .i16 0, .int .i16 0], .int .i64 4]) ∧ Below w.heap.size w w' := by
  have h0 := fun W => impl_ValidSheet.calls a b c _ W A0
  have h1 := fun W => impl_isFold.calls fold _ W A1
  have h2 := fun W => impl_partsOf.calls fold _ W A2
  have h3 := fun W => impl_isHigh.calls fold _ W A3
  clear A0 A1 A2 A3
  have hu := Try.underlying26
  have hm3 : (c % p != 0) = true := by simpa using hm
  have hp3 : IntKind.i16.wrap p = p := IntWalk.i16_in _ ⟨by omega, by omega⟩
  clear hm
  go_enter Try.func33, Try.ntmps33
  go_wp2_with (first
    | (go_at_call 29; refine (h0 _).mono ?_; rintro e w1 ⟨rfl, hb⟩; have HB1 := Aside0.mk (below_step (below_alloc (below_alloc (Below.refl _ _) _) _) hb); have hsz1 : w.heap.size + 1 < w1.heap.size := (by have := hb.size; simp at this; omega); have x0 := pw_cell_below hb (show World.cell? _ ⟨w.heap.size, 0, none⟩ = some (.int .i16 a) by go_simp); have x1 := pw_cell_below hb (show World.cell? _ ⟨w.heap.size, 1, none⟩ = some (.int .i16 b) by go_simp); have x2 := pw_cell_below hb (show World.cell? _ ⟨w.heap.size, 2, none⟩ = some (.int .i16 c) by go_simp); have y0 := pw_cell_below hb (show World.cell? _ ⟨w.heap.size + 1, 0, none⟩ = some (.int .i16 0) by go_simp); have y1 := pw_cell_below hb (show World.cell? _ ⟨w.heap.size + 1, 1, none⟩ = some (.int .i16 0) by go_simp); have y2 := pw_cell_below hb (show World.cell? _ ⟨w.heap.size + 1, 2, none⟩ = some (.int .i16 0) by go_simp); have z0 : ∀ j, w1.frozen? ⟨w.heap.size, j, none⟩ = false := (fun j => (hb.frozen (p := ⟨w.heap.size, j, none⟩) (by simp <;> omega)).trans (by go_simp)); have z1 : ∀ j, w1.frozen? ⟨w.heap.size + 1, j, none⟩ = false := (fun j => (hb.frozen (p := ⟨w.heap.size + 1, j, none⟩) (by simp <;> omega)).trans (by go_simp)); clear hb)
    | (go_at_call 64; refine (h1 _).mono ?_; rintro e w' ⟨rfl, ⟨nd, rfl⟩⟩)
    | (go_at_call 58; refine (h2 _).mono ?_; rintro e w' ⟨rfl, ⟨nd, rfl⟩⟩)
    | (go_at_call 59; refine (h3 _).mono ?_; rintro e w' ⟨rfl, ⟨nd, rfl⟩⟩))
  refine bodyPost_ret (v := .tuple #[.agg #[.int .i16 0, .int .i16 0, .int .i16 0], .int .i64 4]) (by simp [results, Try.results33, go_sem, *]) rfl ⟨rfl, ?_⟩
  repeat (first | exact HB1.out | refine below_set ?_ (by omega) | apply pw_below_drewN | apply below_drew1 | apply below_alloc)
set_option maxHeartbeats 4000000 in
set_option maxRecDepth 100000 in
theorem unfold_hi_limit (a b c fold p : Int) (w : World) (ha1 : 1 ≤ a) (ha2 : a ≤ 1296) (hb1 : 1 ≤ b) (hb2 : b ≤ 1296) (hc1 : 1 ≤ c) (hc2 : c ≤ 144) (hp1 : 2 ≤ p) (hp2 : p ≤ 3)
    (A0 : impl_ValidSheet.f a b c = some true) (A1 : impl_isFold.f fold = some true) (A2 : impl_partsOf.f fold = some p) (A3 : impl_isHigh.f fold = some true) (hm : c % p = 0) (hl : 1296 < b * p) :
    Calls Try.prog 33 #[.agg #[.int .i16 a, .int .i16 b, .int .i16 c], .int .i64 fold] w fun e w' => e = .returned (.tuple #[.agg #[.int .i16 0, .int .i16 0, .int .i16 0], .int .i64 3]) ∧ Below w.heap.size w w' := by
  have h0 := fun W => impl_ValidSheet.calls a b c _ W A0
  have h1 := fun W => impl_isFold.calls fold _ W A1
  have h2 := fun W => impl_partsOf.calls fold _ W A2
  have h3 := fun W => impl_isHigh.calls fold _ W A3
  clear A0 A1 A2 A3
  have hu := Try.underlying26
  have hm3 : (c % p != 0) = false := by simpa using hm
  have hp3 : IntKind.i16.wrap p = p := IntWalk.i16_in _ ⟨by omega, by omega⟩
  have hcp : 0 ≤ b * p := Int.mul_nonneg (by omega) (by omega)
  have hcq : b * p ≤ 3888 := by have := Int.mul_le_mul hb2 hp2 (by omega) (by omega : (0:Int) ≤ 1296); omega
  clear hm
  go_enter Try.func33, Try.ntmps33
  go_wp2_with (first
    | (go_at_call 29; refine (h0 _).mono ?_; rintro e w1 ⟨rfl, hb⟩; have HB1 := Aside0.mk (below_step (below_alloc (below_alloc (Below.refl _ _) _) _) hb); have hsz1 : w.heap.size + 1 < w1.heap.size := (by have := hb.size; simp at this; omega); have x0 := pw_cell_below hb (show World.cell? _ ⟨w.heap.size, 0, none⟩ = some (.int .i16 a) by go_simp); have x1 := pw_cell_below hb (show World.cell? _ ⟨w.heap.size, 1, none⟩ = some (.int .i16 b) by go_simp); have x2 := pw_cell_below hb (show World.cell? _ ⟨w.heap.size, 2, none⟩ = some (.int .i16 c) by go_simp); have y0 := pw_cell_below hb (show World.cell? _ ⟨w.heap.size + 1, 0, none⟩ = some (.int .i16 0) by go_simp); have y1 := pw_cell_below hb (show World.cell? _ ⟨w.heap.size + 1, 1, none⟩ = some (.int .i16 0) by go_simp); have y2 := pw_cell_below hb (show World.cell? _ ⟨w.heap.size + 1, 2, none⟩ = some (.int .i16 0) by go_simp); have z0 : ∀ j, w1.frozen? ⟨w.heap.size, j, none⟩ = false := (fun j => (hb.frozen (p := ⟨w.heap.size, j, none⟩) (by simp <;> omega)).trans (by go_simp)); have z1 : ∀ j, w1.frozen? ⟨w.heap.size + 1, j, none⟩ = false := (fun j => (hb.frozen (p := ⟨w.heap.size + 1, j, none⟩) (by simp <;> omega)).trans (by go_simp)); clear hb)
    | (go_at_call 64; refine (h1 _).mono ?_; rintro e w' ⟨rfl, ⟨nd, rfl⟩⟩)
    | (go_at_call 58; refine (h2 _).mono ?_; rintro e w' ⟨rfl, ⟨nd, rfl⟩⟩)
    | (go_at_call 59; refine (h3 _).mono ?_; rintro e w' ⟨rfl, ⟨nd, rfl⟩⟩))
  refine bodyPost_ret (v := .tuple #[.agg #[.int .i16 0, .int .i16 0, .int .i16 0], .int .i64 3]) (by simp [results, Try.results33, go_sem, *]) rfl ⟨rfl, ?_⟩
  repeat (first | exact HB1.out | refine below_set ?_ (by omega) | apply pw_below_drewN | apply below_drew1 | apply below_alloc)
set_option maxHeartbeats 4000000 in
set_option maxRecDepth 100000 in
theorem unfold_hi_ok (a b c fold p : Int) (w : World) (ha1 : 1 ≤ a) (ha2 : a ≤ 1296) (hb1 : 1 ≤ b) (hb2 : b ≤ 1296) (hc1 : 1 ≤ c) (hc2 : c ≤ 144) (hp1 : 2 ≤ p) (hp2 : p ≤ 3)
    (A0 : impl_ValidSheet.f a b c = some true) (A1 : impl_isFold.f fold = some true) (A2 : impl_partsOf.f fold = some p) (A3 : impl_isHigh.f fold = some true) (hm : c % p = 0) (hl : b * p ≤ 1296) :
    Calls Try.prog 33 #[.agg #[.int .i16 a, .int .i16 b, .int .i16 c], .int .i64 fold] w fun e w' => e = .returned (.tuple #[.agg #[.int .i16 a, .int .i16 (b * p), .int .i16 (c / p)], .int .i64 0]) ∧ Below w.heap.size w w' := by
  have h0 := fun W => impl_ValidSheet.calls a b c _ W A0
  have h1 := fun W => impl_isFold.calls fold _ W A1
  have h2 := fun W => impl_partsOf.calls fold _ W A2
  have h3 := fun W => impl_isHigh.calls fold _ W A3
  clear A0 A1 A2 A3
  have hu := Try.underlying26
  have hm3 : (c % p != 0) = false := by simpa using hm
  have hp3 : IntKind.i16.wrap p = p := IntWalk.i16_in _ ⟨by omega, by omega⟩
  have hcp : 0 ≤ b * p := Int.mul_nonneg (by omega) (by omega)
  have hcq : b * p ≤ 3888 := by have := Int.mul_le_mul hb2 hp2 (by omega) (by omega : (0:Int) ≤ 1296); omega
  have hcw : IntKind.i16.wrap (b * p) = b * p := IntWalk.i16_in _ ⟨by omega, by omega⟩
  have hq : IntKind.i16.wrap (c.tdiv p) = c / p := by rw [Int.tdiv_eq_ediv_of_nonneg (by omega)]; exact IntWalk.i16_in _ ⟨by have := Int.ediv_nonneg (show 0 ≤ c by omega) (show 0 ≤ p by omega); omega, by have := Int.ediv_le_self p (show 0 ≤ c by omega); omega⟩
  clear hm
  go_enter Try.func33, Try.ntmps33
  go_wp2_with (first
    | (go_at_call 29; refine (h0 _).mono ?_; rintro e w1 ⟨rfl, hb⟩; have HB1 := Aside0.mk (below_step (below_alloc (below_alloc (Below.refl _ _) _) _) hb); have hsz1 : w.heap.size + 1 < w1.heap.size := (by have := hb.size; simp at this; omega); have x0 := pw_cell_below hb (show World.cell? _ ⟨w.heap.size, 0, none⟩ = some (.int .i16 a) by go_simp); have x1 := pw_cell_below hb (show World.cell? _ ⟨w.heap.size, 1, none⟩ = some (.int .i16 b) by go_simp); have x2 := pw_cell_below hb (show World.cell? _ ⟨w.heap.size, 2, none⟩ = some (.int .i16 c) by go_simp); have y0 := pw_cell_below hb (show World.cell? _ ⟨w.heap.size + 1, 0, none⟩ = some (.int .i16 0) by go_simp); have y1 := pw_cell_below hb (show World.cell? _ ⟨w.heap.size + 1, 1, none⟩ = some (.int .i16 0) by go_simp); have y2 := pw_cell_below hb (show World.cell? _ ⟨w.heap.size + 1, 2, none⟩ = some (.int .i16 0) by go_simp); have z0 : ∀ j, w1.frozen? ⟨w.heap.size, j, none⟩ = false := (fun j => (hb.frozen (p := ⟨w.heap.size, j, none⟩) (by simp <;> omega)).trans (by go_simp)); have z1 : ∀ j, w1.frozen? ⟨w.heap.size + 1, j, none⟩ = false := (fun j => (hb.frozen (p := ⟨w.heap.size + 1, j, none⟩) (by simp <;> omega)).trans (by go_simp)); clear hb)
    | (go_at_call 64; refine (h1 _).mono ?_; rintro e w' ⟨rfl, ⟨nd, rfl⟩⟩)
    | (go_at_call 58; refine (h2 _).mono ?_; rintro e w' ⟨rfl, ⟨nd, rfl⟩⟩)
    | (go_at_call 59; refine (h3 _).mono ?_; rintro e w' ⟨rfl, ⟨nd, rfl⟩⟩))
  refine bodyPost_ret (v := .tuple #[.agg #[.int .i16 a, .int .i16 (b * p), .int .i16 (c / p)], .int .i64 0]) (by simp [results, Try.results33, go_sem, *]) rfl ⟨rfl, ?_⟩
  repeat (first | exact HB1.out | refine below_set ?_ (by omega) | apply pw_below_drewN | apply below_drew1 | apply below_alloc)
set_option maxHeartbeats 4000000 in
set_option maxRecDepth 100000 in
theorem unfold_wi_state (a b c fold p : Int) (w : World) (ha1 : 1 ≤ a) (ha2 : a ≤ 1296) (hb1 : 1 ≤ b) (hb2 : b ≤ 1296) (hc1 : 1 ≤ c) (hc2 : c ≤ 144) (hp1 : 2 ≤ p) (hp2 : p ≤ 3)
    (A0 : impl_ValidSheet.f a b c = some true) (A1 : impl_isFold.f fold = some true) (A2 : impl_partsOf.f fold = some p) (A3 : impl_isHigh.f fold = some false) (hm : c % p ≠ 0) :
    Calls Try.prog 33 #[.agg #[.int .i16 a, .int .i16 b, .int .i16 c], .int .i64 fold] w fun e w' => e = .returned (.tuple #[.agg #[.int .i16 0, .int .i16 0, .int .i16 0], .int .i64 4]) ∧ Below w.heap.size w w' := by
  have h0 := fun W => impl_ValidSheet.calls a b c _ W A0
  have h1 := fun W => impl_isFold.calls fold _ W A1
  have h2 := fun W => impl_partsOf.calls fold _ W A2
  have h3 := fun W => impl_isHigh.calls fold _ W A3
  clear A0 A1 A2 A3
  have hu := Try.underlying26
  have hm3 : (c % p != 0) = true := by simpa using hm
  have hp3 : IntKind.i16.wrap p = p := IntWalk.i16_in _ ⟨by omega, by omega⟩
  clear hm
  go_enter Try.func33, Try.ntmps33
  go_wp2_with (first
    | (go_at_call 29; refine (h0 _).mono ?_; rintro e w1 ⟨rfl, hb⟩; have HB1 := Aside0.mk (below_step (below_alloc (below_alloc (Below.refl _ _) _) _) hb); have hsz1 : w.heap.size + 1 < w1.heap.size := (by have := hb.size; simp at this; omega); have x0 := pw_cell_below hb (show World.cell? _ ⟨w.heap.size, 0, none⟩ = some (.int .i16 a) by go_simp); have x1 := pw_cell_below hb (show World.cell? _ ⟨w.heap.size, 1, none⟩ = some (.int .i16 b) by go_simp); have x2 := pw_cell_below hb (show World.cell? _ ⟨w.heap.size, 2, none⟩ = some (.int .i16 c) by go_simp); have y0 := pw_cell_below hb (show World.cell? _ ⟨w.heap.size + 1, 0, none⟩ = some (.int .i16 0) by go_simp); have y1 := pw_cell_below hb (show World.cell? _ ⟨w.heap.size + 1, 1, none⟩ = some (.int .i16 0) by go_simp); have y2 := pw_cell_below hb (show World.cell? _ ⟨w.heap.size + 1, 2, none⟩ = some (.int .i16 0) by go_simp); have z0 : ∀ j, w1.frozen? ⟨w.heap.size, j, none⟩ = false := (fun j => (hb.frozen (p := ⟨w.heap.size, j, none⟩) (by simp <;> omega)).trans (by go_simp)); have z1 : ∀ j, w1.frozen? ⟨w.heap.size + 1, j, none⟩ = false := (fun j => (hb.frozen (p := ⟨w.heap.size + 1, j, none⟩) (by simp <;> omega)).trans (by go_simp)); clear hb)
    | (go_at_call 64; refine (h1 _).mono ?_; rintro e w' ⟨rfl, ⟨nd, rfl⟩⟩)
    | (go_at_call 58; refine (h2 _).mono ?_; rintro e w' ⟨rfl, ⟨nd, rfl⟩⟩)
    | (go_at_call 59; refine (h3 _).mono ?_; rintro e w' ⟨rfl, ⟨nd, rfl⟩⟩))
  refine bodyPost_ret (v := .tuple #[.agg #[.int .i16 0, .int .i16 0, .int .i16 0], .int .i64 4]) (by simp [results, Try.results33, go_sem, *]) rfl ⟨rfl, ?_⟩
  repeat (first | exact HB1.out | refine below_set ?_ (by omega) | apply pw_below_drewN | apply below_drew1 | apply below_alloc)
set_option maxHeartbeats 4000000 in
set_option maxRecDepth 100000 in
theorem unfold_wi_limit (a b c fold p : Int) (w : World) (ha1 : 1 ≤ a) (ha2 : a ≤ 1296) (hb1 : 1 ≤ b) (hb2 : b ≤ 1296) (hc1 : 1 ≤ c) (hc2 : c ≤ 144) (hp1 : 2 ≤ p) (hp2 : p ≤ 3)
    (A0 : impl_ValidSheet.f a b c = some true) (A1 : impl_isFold.f fold = some true) (A2 : impl_partsOf.f fold = some p) (A3 : impl_isHigh.f fold = some false) (hm : c % p = 0) (hl : 1296 < a * p) :
    Calls Try.prog 33 #[.agg #[.int .i16 a, .int .i16 b, .int .i16 c], .int .i64 fold] w fun e w' => e = .returned (.tuple #[.agg #[.int .i16 0, .int .i16 0, .int .i16 0], .int .i64 3]) ∧ Below w.heap.size w w' := by
  have h0 := fun W => impl_ValidSheet.calls a b c _ W A0
  have h1 := fun W => impl_isFold.calls fold _ W A1
  have h2 := fun W => impl_partsOf.calls fold _ W A2
  have h3 := fun W => impl_isHigh.calls fold _ W A3
  clear A0 A1 A2 A3
  have hu := Try.underlying26
  have hm3 : (c % p != 0) = false := by simpa using hm
  have hp3 : IntKind.i16.wrap p = p := IntWalk.i16_in _ ⟨by omega, by omega⟩
  have hcp : 0 ≤ a * p := Int.mul_nonneg (by omega) (by omega)
  have hcq : a * p ≤ 3888 := by have := Int.mul_le_mul ha2 hp2 (by omega) (by omega : (0:Int) ≤ 1296); omega
  clear hm
  go_enter Try.func33, Try.ntmps33
  go_wp2_with (first
    | (go_at_call 29; refine (h0 _).mono ?_; rintro e w1 ⟨rfl, hb⟩; have HB1 := Aside0.mk (below_step (below_alloc (below_alloc (Below.refl _ _) _) _) hb); have hsz1 : w.heap.size + 1 < w1.heap.size := (by have := hb.size; simp at this; omega); have x0 := pw_cell_below hb (show World.cell? _ ⟨w.heap.size, 0, none⟩ = some (.int .i16 a) by go_simp); have x1 := pw_cell_below hb (show World.cell? _ ⟨w.heap.size, 1, none⟩ = some (.int .i16 b) by go_simp); have x2 := pw_cell_below hb (show World.cell? _ ⟨w.heap.size, 2, none⟩ = some (.int .i16 c) by go_simp); have y0 := pw_cell_below hb (show World.cell? _ ⟨w.heap.size + 1, 0, none⟩ = some (.int .i16 0) by go_simp); have y1 := pw_cell_below hb (show World.cell? _ ⟨w.heap.size + 1, 1, none⟩ = some (.int .i16 0) by go_simp); have y2 := pw_cell_below hb (show World.cell? _ ⟨w.heap.size + 1, 2, none⟩ = some (.int .i16 0) by go_simp); have z0 : ∀ j, w1.frozen? ⟨w.heap.size, j, none⟩ = false := (fun j => (hb.frozen (p := ⟨w.heap.size, j, none⟩) (by simp <;> omega)).trans (by go_simp)); have z1 : ∀ j, w1.frozen? ⟨w.heap.size + 1, j, none⟩ = false := (fun j => (hb.frozen (p := ⟨w.heap.size + 1, j, none⟩) (by simp <;> omega)).trans (by go_simp)); clear hb)
    | (go_at_call 64; refine (h1 _).mono ?_; rintro e w' ⟨rfl, ⟨nd, rfl⟩⟩)
    | (go_at_call 58; refine (h2 _).mono ?_; rintro e w' ⟨rfl, ⟨nd, rfl⟩⟩)
    | (go_at_call 59; refine (h3 _).mono ?_; rintro e w' ⟨rfl, ⟨nd, rfl⟩⟩))
  refine bodyPost_ret (v := .tuple #[.agg #[.int .i16 0, .int .i16 0, .int .i16 0], .int .i64 3]) (by simp [results, Try.results33, go_sem, *]) rfl ⟨rfl, ?_⟩
  repeat (first | exact HB1.out | refine below_set ?_ (by omega) | apply pw_below_drewN | apply below_drew1 | apply below_alloc)
set_option maxHeartbeats 4000000 in
set_option maxRecDepth 100000 in
theorem unfold_wi_ok (a b c fold p : Int) (w : World) (ha1 : 1 ≤ a) (ha2 : a ≤ 1296) (hb1 : 1 ≤ b) (hb2 : b ≤ 1296) (hc1 : 1 ≤ c) (hc2 : c ≤ 144) (hp1 : 2 ≤ p) (hp2 : p ≤ 3)
    (A0 : impl_ValidSheet.f a b c = some true) (A1 : impl_isFold.f fold = some true) (A2 : impl_partsOf.f fold = some p) (A3 : impl_isHigh.f fold = some false) (hm : c % p = 0) (hl : a * p ≤ 1296) :
    Calls Try.prog 33 #[.agg #[.int .i16 a, .int .i16 b, .int .i16 c], .int .i64 fold] w fun e w' => e = .returned (.tuple #[.agg #[.int .i16 (a * p), .int .i16 b, .int .i16 (c / p)], .int .i64 0]) ∧ Below w.heap.size w w' := by
  have h0 := fun W => impl_ValidSheet.calls a b c _ W A0
  have h1 := fun W => impl_isFold.calls fold _ W A1
  have h2 := fun W => impl_partsOf.calls fold _ W A2
  have h3 := fun W => impl_isHigh.calls fold _ W A3
  clear A0 A1 A2 A3
  have hu := Try.underlying26
  have hm3 : (c % p != 0) = false := by simpa using hm
  have hp3 : IntKind.i16.wrap p = p := IntWalk.i16_in _ ⟨by omega, by omega⟩
  have hcp : 0 ≤ a * p := Int.mul_nonneg (by omega) (by omega)
  have hcq : a * p ≤ 3888 := by have := Int.mul_le_mul ha2 hp2 (by omega) (by omega : (0:Int) ≤ 1296); omega
  have hcw : IntKind.i16.wrap (a * p) = a * p := IntWalk.i16_in _ ⟨by omega, by omega⟩
  have hq : IntKind.i16.wrap (c.tdiv p) = c / p := by rw [Int.tdiv_eq_ediv_of_nonneg (by omega)]; exact IntWalk.i16_in _ ⟨by have := Int.ediv_nonneg (show 0 ≤ c by omega) (show 0 ≤ p by omega); omega, by have := Int.ediv_le_self p (show 0 ≤ c by omega); omega⟩
  clear hm
  go_enter Try.func33, Try.ntmps33
  go_wp2_with (first
    | (go_at_call 29; refine (h0 _).mono ?_; rintro e w1 ⟨rfl, hb⟩; have HB1 := Aside0.mk (below_step (below_alloc (below_alloc (Below.refl _ _) _) _) hb); have hsz1 : w.heap.size + 1 < w1.heap.size := (by have := hb.size; simp at this; omega); have x0 := pw_cell_below hb (show World.cell? _ ⟨w.heap.size, 0, none⟩ = some (.int .i16 a) by go_simp); have x1 := pw_cell_below hb (show World.cell? _ ⟨w.heap.size, 1, none⟩ = some (.int .i16 b) by go_simp); have x2 := pw_cell_below hb (show World.cell? _ ⟨w.heap.size, 2, none⟩ = some (.int .i16 c) by go_simp); have y0 := pw_cell_below hb (show World.cell? _ ⟨w.heap.size + 1, 0, none⟩ = some (.int .i16 0) by go_simp); have y1 := pw_cell_below hb (show World.cell? _ ⟨w.heap.size + 1, 1, none⟩ = some (.int .i16 0) by go_simp); have y2 := pw_cell_below hb (show World.cell? _ ⟨w.heap.size + 1, 2, none⟩ = some (.int .i16 0) by go_simp); have z0 : ∀ j, w1.frozen? ⟨w.heap.size, j, none⟩ = false := (fun j => (hb.frozen (p := ⟨w.heap.size, j, none⟩) (by simp <;> omega)).trans (by go_simp)); have z1 : ∀ j, w1.frozen? ⟨w.heap.size + 1, j, none⟩ = false := (fun j => (hb.frozen (p := ⟨w.heap.size + 1, j, none⟩) (by simp <;> omega)).trans (by go_simp)); clear hb)
    | (go_at_call 64; refine (h1 _).mono ?_; rintro e w' ⟨rfl, ⟨nd, rfl⟩⟩)
    | (go_at_call 58; refine (h2 _).mono ?_; rintro e w' ⟨rfl, ⟨nd, rfl⟩⟩)
    | (go_at_call 59; refine (h3 _).mono ?_; rintro e w' ⟨rfl, ⟨nd, rfl⟩⟩))
  refine bodyPost_ret (v := .tuple #[.agg #[.int .i16 (a * p), .int .i16 b, .int .i16 (c / p)], .int .i64 0]) (by simp [results, Try.results33, go_sem, *]) rfl ⟨rfl, ?_⟩
  repeat (first | exact HB1.out | refine below_set ?_ (by omega) | apply pw_below_drewN | apply below_drew1 | apply below_alloc)

theorem impl_UnfoldSheet.calls (a b c fold : Int) (r1 r2 r3 r4 : Int) (w : World) (h : impl_UnfoldSheet.f a b c fold = some (r1, r2, r3, r4)) :
    Calls Try.prog 33 #[.agg #[.int .i16 a, .int .i16 b, .int .i16 c], .int .i64 fold] w fun e w' => e = .returned (.tuple #[.agg #[.int .i16 r1, .int .i16 r2, .int .i16 r3], .int .i64 r4]) ∧ Below w.heap.size w w' := by
  unfold impl_UnfoldSheet.f at h
  obtain ⟨ok, A0, h⟩ := Option.bind_eq_some_iff.mp h
  cases ok
  · simp only [Bool.false_eq_true, if_false, Option.some.injEq, Prod.mk.injEq] at h
    obtain ⟨rfl, rfl, rfl, rfl⟩ := h
    exact unfold_invalid a b c fold w A0
  rw [if_pos rfl] at h
  by_cases hv : 1 ≤ a ∧ a ≤ 1296 ∧ 1 ≤ b ∧ b ≤ 1296 ∧ 1 ≤ c ∧ c ≤ 144
  · rw [if_neg (fun hn => hn hv)] at h
    obtain ⟨ha1, ha2, hb1, hb2, hc1, hc2⟩ := hv
    by_cases hf : fold < 0 ∨ 3 < fold
    · rw [if_pos hf] at h
      simp only [Option.some.injEq, Prod.mk.injEq] at h
      obtain ⟨rfl, rfl, rfl, rfl⟩ := h
      exact unfold_range a b c fold w A0 (by unfold impl_isFold.f impl_within.f; split <;> simp <;> omega)
    · rw [if_neg hf] at h
      obtain ⟨A1, A2, A3, hp1, hp2⟩ := folded_facts fold (by omega) (by omega)
      by_cases hm : c % (2 + fold / 2) = 0
      · rw [if_neg (fun hn => hn hm)] at h
        by_cases hh : fold = 1 ∨ fold = 3
        · simp only [if_pos hh] at h
          rw [decide_eq_true hh] at A3
          split at h
          · rename_i hl
            simp only [Option.some.injEq, Prod.mk.injEq] at h
            obtain ⟨rfl, rfl, rfl, rfl⟩ := h
            exact unfold_hi_limit a b c fold _ w ha1 ha2 hb1 hb2 hc1 hc2 hp1 hp2 A0 A1 A2 A3 hm hl
          · rename_i hl
            simp only [Option.some.injEq, Prod.mk.injEq] at h
            obtain ⟨rfl, rfl, rfl, rfl⟩ := h
            exact unfold_hi_ok a b c fold _ w ha1 ha2 hb1 hb2 hc1 hc2 hp1 hp2 A0 A1 A2 A3 hm (by omega)
        · simp only [if_neg hh] at h
          rw [decide_eq_false hh] at A3
          split at h
          · rename_i hl
            simp only [Option.some.injEq, Prod.mk.injEq] at h
            obtain ⟨rfl, rfl, rfl, rfl⟩ := h
            exact unfold_wi_limit a b c fold _ w ha1 ha2 hb1 hb2 hc1 hc2 hp1 hp2 A0 A1 A2 A3 hm hl
          · rename_i hl
            simp only [Option.some.injEq, Prod.mk.injEq] at h
            obtain ⟨rfl, rfl, rfl, rfl⟩ := h
            exact unfold_wi_ok a b c fold _ w ha1 ha2 hb1 hb2 hc1 hc2 hp1 hp2 A0 A1 A2 A3 hm (by omega)
      · rw [if_pos hm] at h
        simp only [Option.some.injEq, Prod.mk.injEq] at h
        obtain ⟨rfl, rfl, rfl, rfl⟩ := h
        by_cases hh : fold = 1 ∨ fold = 3
        · rw [decide_eq_true hh] at A3
          exact unfold_hi_state a b c fold _ w ha1 ha2 hb1 hb2 hc1 hc2 hp1 hp2 A0 A1 A2 A3 hm
        · rw [decide_eq_false hh] at A3
          exact unfold_wi_state a b c fold _ w ha1 ha2 hb1 hb2 hc1 hc2 hp1 hp2 A0 A1 A2 A3 hm
  · rw [if_pos hv] at h
    cases h

end Go.Proofs.Ytjegcpagdpjidaa.X
