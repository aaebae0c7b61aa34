/- Contracts of functions, and plain facts: what each call answers, and what it leaves as it was. -/
import Derived.Test.YtjmnbikaijphlaaHDa
import Derived.Test.YtjmnbikaijphlaaHMark
set_option linter.unusedVariables false
set_option linter.unusedSimpArgs false
namespace Go.Proofs.Ytjmnbikaijphlaa.X
open Go.RowKit Go.Proofs.YtjmnbikaijphlaaW.PrintWords Go.Proofs.YtjmnbikaijphlaaW.PrintLast Go.Proofs.YtjmnbikaijphlaaW.PrintMore
attribute [local go_sem] max2_int min2_int max_two min_two max_three min_three max_four min_four
/-- the first of n numbers that is above 0, or -1 -/
def FI (N : Nat → Int) (n : Nat) (R : Int) : Prop := (∃ k : Nat, k < n ∧ 0 < N k ∧ (∀ j, j < k → N j ≤ 0) ∧ R = (k : Int)) ∨ ((∀ k, k < n → N k ≤ 0) ∧ R = -1)
theorem FI_ex (N : Nat → Int) : ∀ n, ∃ R, FI N n R
  | 0 => ⟨-1, .inr ⟨fun k hk => by omega, rfl⟩⟩
  | n + 1 => by
    obtain ⟨R, ⟨k, h1, h2, h3, h4⟩ | ⟨h1, h2⟩⟩ := FI_ex N n
    · exact ⟨R, .inl ⟨k, by omega, h2, h3, h4⟩⟩
    · by_cases h : 0 < N n
      · exact ⟨n, .inl ⟨n, by omega, h, h1, rfl⟩⟩
      · exact ⟨-1, .inr ⟨fun k hk => by rcases Nat.lt_or_ge k n with h_ | h_; exact h1 k h_; (have : k = n := by omega); subst this; omega, rfl⟩⟩
theorem FI_one {N : Nat → Int} {n : Nat} {R R' : Int} (h : FI N n R) (h' : FI N n R') : R = R' := by
  rcases h with ⟨k, h1, h2, h3, h4⟩ | ⟨h1, h2⟩ <;> rcases h' with ⟨k', h1', h2', h3', h4'⟩ | ⟨h1', h2'⟩
  · rcases Nat.lt_trichotomy k k' with h | h | h
    · have := h3' k h; omega
    · omega
    · have := h3 k' h; omega
  · have := h1' k h1; omega
  · have := h1 k' h1'; omega
  · omega
/-- the first day and kind that are short, or none -/
def FIS (S : List (List Int)) (i : Nat) (R : Int) : Prop := FI (Nof (S.getD i [])) (S.getD i []).length R
def FSp (S : List (List Int)) (m : Nat) (a b code : Int) : Prop := (∃ i k : Nat, i < m ∧ FIS S i k ∧ (∀ j, j < i → FIS S j (-1)) ∧ a = (i : Int) ∧ b = (k : Int) ∧ code = 0) ∨ ((∀ j, j < m → FIS S j (-1)) ∧ a = 0 ∧ b = 0 ∧ code = 6)
theorem FSp_ex (S : List (List Int)) : ∀ m, ∃ a b code, FSp S m a b code
  | 0 => ⟨0, 0, 6, .inr ⟨fun k hk => by omega, rfl, rfl, rfl⟩⟩
  | m + 1 => by
    obtain ⟨a, b, code, ⟨i, k, h1, h2⟩ | ⟨h1, h2, h3, h4⟩⟩ := FSp_ex S m
    · exact ⟨a, b, code, .inl ⟨i, k, by omega, h2⟩⟩
    · obtain ⟨R, hR⟩ := FI_ex (Nof (S.getD m [])) (S.getD m []).length
      have hR0 := hR
      rcases hR with ⟨k, _, _, _, hk⟩ | ⟨_, hk⟩
      · subst hk; exact ⟨m, k, 0, .inl ⟨m, k, by omega, hR0, h1, rfl, rfl, rfl⟩⟩
      · subst hk; exact ⟨0, 0, 6, .inr ⟨fun j hj => by rcases Nat.lt_or_ge j m with h_ | h_; exact h1 j h_; (have : j = m := by omega); subst this; exact hR0, rfl, rfl, rfl⟩⟩
theorem FSp.found {S : List (List Int)} {m i k : Nat} {a b code : Int} (h : FSp S m a b code) (hi : i < m) (hp : ∀ j, j < i → FIS S j (-1)) (hk : FIS S i k) : a = (i : Int) ∧ b = (k : Int) ∧ code = 0 := by
  rcases h with ⟨i', k', h1, h2, h3, h4, h5, h6⟩ | ⟨h1, _⟩
  · rcases Nat.lt_trichotomy i i' with h | h | h
    · have := FI_one (h3 i h) hk; omega
    · subst h
      have := FI_one h2 hk
      exact ⟨h4, by omega, h6⟩
    · have := FI_one (hp i' h) h2; omega
  · have := FI_one (h1 i hi) hk; omega
theorem FSp.none {S : List (List Int)} {m : Nat} {a b code : Int} (h : FSp S m a b code) (hp : ∀ j, j < m → FIS S j (-1)) : a = 0 ∧ b = 0 ∧ code = 6 := by
  rcases h with ⟨i', k', h1, h2, h3, h4, h5, h6⟩ | ⟨h1, h2⟩
  · have := FI_one (hp i' h1) h2; omega
  · exact h2
theorem firstClo (x : Int) (w : World) : Calls Try.prog 107 #[.int .i64 x] w fun e w' => e = .returned (.bool (decide (0 < x))) ∧ w' = w := by
  go_enter Try.func107, Try.ntmps107
  go_wp2
  go_ret
  exact ⟨rfl, rfl⟩
set_option maxHeartbeats 8000000 in
set_option maxRecDepth 100000 in
theorem idxPos_calls (N : Nat → Int) (n c : Nat) (A : Option Addr) (R : Int) (hn : n ≤ 1000) (hR : FI N n R) (w : World) (hA : NdA w A n N) :
    Calls Try.prog 106 #[.slice A n c, .func (.func 107) #[] #[]] w fun e w' => e = .returned (.int .i64 R) ∧ w' = w := by
  have HA := Aside0.mk hA
  have HR := Aside0.mk hR
  have HCL := Aside0.mk (fun x W => firstClo x W)
  clear hA hR
  go_enter Try.func106, Try.ntmps106
  go_wp2
  go_loop [8] (fun v8 => ∃ k : Nat, k ≤ n ∧ v8 = .int .i64 k ∧ Aside0 (∀ j, j < k → N j ≤ 0)) (fun v8 => n - (intOf v8).toNat)
  case atStart => exact ⟨0, by omega, rfl, ⟨fun j hj => by omega⟩⟩
  case round =>
    obtain ⟨k, hk, rfl, HI⟩ := hrel
    have hk9 : IntKind.i64.wrap ((k : Int) + 1) = (k : Int) + 1 := IntWalk.i64_in _ ⟨by omega, by omega⟩
    by_cases hlt : k < n
    · have hki : (k : Int) < (n : Int) := by omega
      obtain ⟨gN, rfl, hNd⟩ := HA.out (by omega)
      have ck := hNd.at (k := k) (j := k) hlt rfl
      have HC := Aside0.mk (HCL.out (N k))
      clear hNd
      by_cases hp : 0 < N k
      · have HE : Aside0 (R = (k : Int)) := ⟨FI_one HR.out (.inl ⟨k, hlt, hp, HI.out, rfl⟩)⟩
        rw [decide_eq_true hp] at HC
        go_wp2_with (go_at_call 107; refine (HC.out _).mono ?_; rintro e w' ⟨rfl, rfl⟩)
        go_ret
        exact ⟨by rw [HE.out]; rfl, rfl⟩
      · have HI2 : Aside0 (∀ j, j < k + 1 → N j ≤ 0) := ⟨fun j hj => by rcases Nat.lt_or_ge j k with h_ | h_; exact HI.out j h_; (have : j = k := by omega); subst this; omega⟩
        rw [decide_eq_false hp] at HC
        go_wp2_with (go_at_call 107; refine (HC.out _).mono ?_; rintro e w' ⟨rfl, rfl⟩)
        go_round
        case rel => exact ⟨k + 1, by omega, by go_num, HI2⟩
        case measure => simp [intOf] <;> omega
    · have HE : Aside0 (R = -1) := ⟨FI_one HR.out (.inr ⟨fun j hj => HI.out j (by omega), rfl⟩)⟩
      go_wp2
      go_ret
      exact ⟨by rw [HE.out]; rfl, rfl⟩
set_option maxHeartbeats 8000000 in
set_option maxRecDepth 100000 in
theorem specFS_bad (f : Nat → Int) (n c g : Nat) (l : List (List Int)) (A : Option Addr) (cD : Nat) (tub every today : Int) (F : Nat → Int) (S : List (List Int)) (code : Int) (hda : ∀ W : World, Rw W g n f → Dy W (.slice A l.length cD) l → Calls Try.prog 104 #[.agg #[.slice (some ⟨g, 0, none⟩) n c, .int .i16 tub, .int .i8 every, .int .i16 today], .slice A l.length cD] W fun e w' => DaPost W n l.length tub every today F S code e w') (hc0 : code ≠ 0) (w : World) (hB : Rw w g n f) (hD : Dy w (.slice A l.length cD) l) :
    Calls Try.prog 55 #[.agg #[.slice (some ⟨g, 0, none⟩) n c, .int .i16 tub, .int .i8 every, .int .i16 today], .slice A l.length cD] w fun e w' => e = .returned (.tuple #[.int .i64 0, .int .i64 0, .int .i64 code]) ∧ Below w.heap.size w w' := by
  have HB0 : Aside0 (Blk (w.alloc (.cells #[.slice (some ⟨g, 0, none⟩) n c, .int .i16 tub, .int .i8 every, .int .i16 today] 40)) w.heap.size 40 [.slice (some ⟨g, 0, none⟩) n c, .int .i16 tub, .int .i8 every, .int .i16 today]) := ⟨Blk.new w _ _⟩
  have HW : Aside0 (Below w.heap.size w (w.alloc (.cells #[.slice (some ⟨g, 0, none⟩) n c, .int .i16 tub, .int .i8 every, .int .i16 today] 40))) := ⟨below_alloc (Below.refl _ _) _⟩
  have HR0 : Aside0 (Rw (w.alloc (.cells #[.slice (some ⟨g, 0, none⟩) n c, .int .i16 tub, .int .i8 every, .int .i16 today] 40)) g n f) := ⟨hB.alloc _⟩
  have HDD := Aside0.mk hD
  have hl0 := hB.lt
  have HDA := Aside0.mk (fun W h h' => (hda W h h').mono (fun e w' h => h.no hc0))
  have hc1 : (code != 0) = true := by simpa using hc0
  have hc2 : (code == 0) = false := by simpa using hc0
  have hc3 : decide (code = 0) = false := decide_eq_false hc0
  clear hc0
  clear hB hD hda
  go_enter Try.func55, Try.ntmps55
  go_wp2_with (first | (refine wl_load (by rfl) 40 _ (by rfl) (w.heap.size) 0 (by rfl) 40 4 [.slice (some ⟨g, 0, none⟩) n c, .int .i16 tub, .int .i8 every, .int .i16 today] [.slice (some ⟨g, 0, none⟩) n c, .int .i16 tub, .int .i8 every, .int .i16 today] (by with_reducible repeat (first | exact HB0.out | refine Blk.alloc ?_ _ | refine Rw.alloc ?_ _ | refine Arg.alloc ?_ _ | apply below_alloc | refine Blk.drew ?_ | refine Rw.drew ?_ | refine Arg.drew ?_ | apply below_drew | refine Blk.drewN ?_ _ | refine Rw.drewN ?_ _ | refine Arg.drewN ?_ _ | apply pw_below_drewN)) (by rfl) (by rfl) _ Try.underlying40 (by rfl) (by kernel_rfl) ?_))
  refine (HDA.out _ (by with_reducible repeat (first | exact HR0.out | refine Blk.alloc ?_ _ | refine Rw.alloc ?_ _ | refine Arg.alloc ?_ _ | apply below_alloc | refine Blk.drew ?_ | refine Rw.drew ?_ | refine Arg.drew ?_ | apply below_drew | refine Blk.drewN ?_ _ | refine Rw.drewN ?_ _ | refine Arg.drewN ?_ _ | apply pw_below_drewN)) (HDD.out.below (by with_reducible repeat (first | exact HW.out | refine Blk.alloc ?_ _ | refine Rw.alloc ?_ _ | refine Arg.alloc ?_ _ | apply below_alloc | refine Blk.drew ?_ | refine Rw.drew ?_ | refine Arg.drew ?_ | apply below_drew | refine Blk.drewN ?_ _ | refine Rw.drewN ?_ _ | refine Arg.drewN ?_ _ | apply pw_below_drewN)))).mono ?_
  rintro e w1 ⟨⟨v2, rfl⟩, hb⟩
  have hs_w1 := Below.size hb
  (try simp at hs_w1)
  replace HB0 : Aside0 (Blk w1 (w.heap.size) 40 [.slice (some ⟨g, 0, none⟩) n c, .int .i16 tub, .int .i8 every, .int .i16 today]) := ⟨Blk.below (by with_reducible repeat (first | exact HB0.out | refine Blk.alloc ?_ _ | refine Rw.alloc ?_ _ | refine Arg.alloc ?_ _ | apply below_alloc | refine Blk.drew ?_ | refine Rw.drew ?_ | refine Arg.drew ?_ | apply below_drew | refine Blk.drewN ?_ _ | refine Rw.drewN ?_ _ | refine Arg.drewN ?_ _ | apply pw_below_drewN)) hb⟩
  replace HR0 : Aside0 (Rw w1 g n f) := ⟨Rw.below (by with_reducible repeat (first | exact HR0.out | refine Blk.alloc ?_ _ | refine Rw.alloc ?_ _ | refine Arg.alloc ?_ _ | apply below_alloc | refine Blk.drew ?_ | refine Rw.drew ?_ | refine Arg.drew ?_ | apply below_drew | refine Blk.drewN ?_ _ | refine Rw.drewN ?_ _ | refine Arg.drewN ?_ _ | apply pw_below_drewN)) hb⟩
  replace HW : Aside0 (Below w.heap.size w w1) := ⟨below_step (by with_reducible repeat (first | exact HW.out | refine Blk.alloc ?_ _ | refine Rw.alloc ?_ _ | refine Arg.alloc ?_ _ | apply below_alloc | refine Blk.drew ?_ | refine Rw.drew ?_ | refine Arg.drew ?_ | apply below_drew | refine Blk.drewN ?_ _ | refine Rw.drewN ?_ _ | refine Arg.drewN ?_ _ | apply pw_below_drewN)) hb⟩
  clear hb
  go_wp2
  go_ret3
  exact ⟨rfl, by repeat (first | exact HW.out | refine below_alloc ?_ _)⟩
set_option maxHeartbeats 8000000 in
set_option maxRecDepth 100000 in
theorem specFS_ok (f : Nat → Int) (n c g : Nat) (l : List (List Int)) (A : Option Addr) (cD : Nat) (tub every today : Int) (F : Nat → Int) (S : List (List Int)) (a b code : Int) (hda : ∀ W : World, Rw W g n f → Dy W (.slice A l.length cD) l → Calls Try.prog 104 #[.agg #[.slice (some ⟨g, 0, none⟩) n c, .int .i16 tub, .int .i8 every, .int .i16 today], .slice A l.length cD] W fun e w' => DaPost W n l.length tub every today F S 0 e w') (hS : S.length ≤ 60) (hSn : ∀ i, (S.getD i []).length ≤ 1000) (hFS : FSp S S.length a b code) (w : World) (hB : Rw w g n f) (hD : Dy w (.slice A l.length cD) l) :
    Calls Try.prog 55 #[.agg #[.slice (some ⟨g, 0, none⟩) n c, .int .i16 tub, .int .i8 every, .int .i16 today], .slice A l.length cD] w fun e w' => e = .returned (.tuple #[.int .i64 a, .int .i64 b, .int .i64 code]) ∧ Below w.heap.size w w' := by
  have HB0 : Aside0 (Blk (w.alloc (.cells #[.slice (some ⟨g, 0, none⟩) n c, .int .i16 tub, .int .i8 every, .int .i16 today] 40)) w.heap.size 40 [.slice (some ⟨g, 0, none⟩) n c, .int .i16 tub, .int .i8 every, .int .i16 today]) := ⟨Blk.new w _ _⟩
  have HW : Aside0 (Below w.heap.size w (w.alloc (.cells #[.slice (some ⟨g, 0, none⟩) n c, .int .i16 tub, .int .i8 every, .int .i16 today] 40))) := ⟨below_alloc (Below.refl _ _) _⟩
  have HR0 : Aside0 (Rw (w.alloc (.cells #[.slice (some ⟨g, 0, none⟩) n c, .int .i16 tub, .int .i8 every, .int .i16 today] 40)) g n f) := ⟨hB.alloc _⟩
  have HDD := Aside0.mk hD
  have hl0 := hB.lt
  have HDA : Aside0 (∀ W : World, Rw W g n f → Dy W (.slice A l.length cD) l → Calls Try.prog 104 #[.agg #[.slice (some ⟨g, 0, none⟩) n c, .int .i16 tub, .int .i8 every, .int .i16 today], .slice A l.length cD] W fun e w' => ∃ (g' c' : Nat) (v : Value), e = .returned (.tuple #[.agg #[.slice (some ⟨g', 0, none⟩) n c', .int .i16 tub, .int .i8 every, .int .i16 (today + (l.length : Int))], v, .int .i64 0]) ∧ W.heap.size ≤ g' ∧ Rw w' g' n F ∧ Dy w' v S ∧ Below W.heap.size W w') := ⟨fun W h h' => (hda W h h').mono (fun e w' h => by obtain ⟨g', c', v, h1, h2, h3, h4, h5⟩ := h.yes rfl; exact ⟨g', c', v, h1, h2, h3, h4, h5⟩)⟩
  have HSN := Aside0.mk hSn
  have HFS := Aside0.mk hFS
  clear hSn hFS
  clear hB hD hda
  go_enter Try.func55, Try.ntmps55
  go_wp2_with (first | (refine wl_load (by rfl) 40 _ (by rfl) (w.heap.size) 0 (by rfl) 40 4 [.slice (some ⟨g, 0, none⟩) n c, .int .i16 tub, .int .i8 every, .int .i16 today] [.slice (some ⟨g, 0, none⟩) n c, .int .i16 tub, .int .i8 every, .int .i16 today] (by with_reducible repeat (first | exact HB0.out | refine Blk.alloc ?_ _ | refine Rw.alloc ?_ _ | refine Arg.alloc ?_ _ | apply below_alloc | refine Blk.drew ?_ | refine Rw.drew ?_ | refine Arg.drew ?_ | apply below_drew | refine Blk.drewN ?_ _ | refine Rw.drewN ?_ _ | refine Arg.drewN ?_ _ | apply pw_below_drewN)) (by rfl) (by rfl) _ Try.underlying40 (by rfl) (by kernel_rfl) ?_))
  refine (HDA.out _ (by with_reducible repeat (first | exact HR0.out | refine Blk.alloc ?_ _ | refine Rw.alloc ?_ _ | refine Arg.alloc ?_ _ | apply below_alloc | refine Blk.drew ?_ | refine Rw.drew ?_ | refine Arg.drew ?_ | apply below_drew | refine Blk.drewN ?_ _ | refine Rw.drewN ?_ _ | refine Arg.drewN ?_ _ | apply pw_below_drewN)) (HDD.out.below (by with_reducible repeat (first | exact HW.out | refine Blk.alloc ?_ _ | refine Rw.alloc ?_ _ | refine Arg.alloc ?_ _ | apply below_alloc | refine Blk.drew ?_ | refine Rw.drew ?_ | refine Arg.drew ?_ | apply below_drew | refine Blk.drewN ?_ _ | refine Rw.drewN ?_ _ | refine Arg.drewN ?_ _ | apply pw_below_drewN)))).mono ?_
  rintro e w1 ⟨g1, c1, v2, rfl, hg_, hR_, hY_, hb⟩
  obtain ⟨A2, c2, rfl, hc2, _⟩ := Dy.reads hY_
  replace HW : Aside0 (Below w.heap.size w w1) := ⟨below_step (by with_reducible repeat (first | exact HW.out | refine Blk.alloc ?_ _ | refine Rw.alloc ?_ _ | refine Arg.alloc ?_ _ | apply below_alloc | refine Blk.drew ?_ | refine Rw.drew ?_ | refine Arg.drew ?_ | apply below_drew | refine Blk.drewN ?_ _ | refine Rw.drewN ?_ _ | refine Arg.drewN ?_ _ | apply pw_below_drewN)) hb⟩
  have HY := Aside0.mk hY_
  clear hb hY_ hR_ hg_ HB0 HR0 hl0 HDD HDA
  go_wp2_with fail
  replace HW : Aside0 (Below w.heap.size w (w1.alloc (.cells #[.slice (some ⟨g1, 0, none⟩) n c1, .int .i16 tub, .int .i8 every, .int .i16 (today + (l.length : Int))] 40))) := ⟨below_alloc HW.out _⟩
  replace HY : Aside0 (Dy (w1.alloc (.cells #[.slice (some ⟨g1, 0, none⟩) n c1, .int .i16 tub, .int .i8 every, .int .i16 (today + (l.length : Int))] 40)) (.slice A2 S.length c2) S) := ⟨HY.out.alloc _⟩
  obtain ⟨wx, hwx⟩ : ∃ wx, wx = (w1.alloc (.cells #[.slice (some ⟨g1, 0, none⟩) n c1, .int .i16 tub, .int .i8 every, .int .i16 (today + (l.length : Int))] 40)) := ⟨_, rfl⟩
  rw [← hwx] at HW HY ⊢
  clear hwx
  go_loop [10] (fun v10 => ∃ i : Nat, i ≤ S.length ∧ v10 = .int .i64 i ∧ Aside0 (∀ j, j < i → FIS S j (-1))) (fun v10 => S.length - (intOf v10).toNat)
  case atStart => exact ⟨0, by omega, rfl, ⟨fun j hj => by omega⟩⟩
  case round =>
    obtain ⟨i, hi, rfl, HP⟩ := hrel
    have hi9 : IntKind.i64.wrap ((i : Int) + 1) = (i : Int) + 1 := IntWalk.i64_in _ ⟨by omega, by omega⟩
    by_cases hlt : i < S.length
    · have hii : (i : Int) < (S.length : Int) := by omega
      obtain ⟨gS, A3, c3, hA2, cS, hc3, HN⟩ := HY.out.at hlt
      subst hA2
      have hn3 := HSN.out i
      have HF : Aside0 (∀ k : Nat, FIS S i k → a = (i : Int) ∧ b = (k : Int) ∧ code = 0) := ⟨fun k hk => HFS.out.found hlt HP.out hk⟩
      have HQ : Aside0 (FIS S i (-1) → ∀ j, j < i + 1 → FIS S j (-1)) := ⟨fun h j hj => by rcases Nat.lt_or_ge j i with h_ | h_; exact HP.out j h_; (have : j = i := by omega); subst this; exact h⟩
      have HFI : Aside0 (∀ R, FI (Nof (S.getD i [])) (S.getD i []).length R → FIS S i R) := ⟨fun R h => h⟩
      have HN3 : Aside0 (NdA wx A3 (S.getD i []).length (Nof (S.getD i []))) := ⟨HN⟩
      clear HN
      generalize (S.getD i []).length = n3 at *
      generalize Nof (S.getD i []) = N3 at *
      go_wp2
      go_loop [11] (fun v11 => ∃ k : Nat, k ≤ n3 ∧ v11 = .int .i64 k ∧ Aside0 (∀ j, j < k → N3 j ≤ 0)) (fun v11 => n3 - (intOf v11).toNat)
      case atStart => exact ⟨0, by omega, rfl, ⟨fun j hj => by omega⟩⟩
      case round =>
        obtain ⟨k, hk, rfl, HI⟩ := hrel
        have hk9 : IntKind.i64.wrap ((k : Int) + 1) = (k : Int) + 1 := IntWalk.i64_in _ ⟨by omega, by omega⟩
        by_cases hlk : k < n3
        · have hki : (k : Int) < (n3 : Int) := by omega
          obtain ⟨gN, hgN, hNd⟩ := HN3.out (by omega)
          subst hgN
          have ck := hNd.at (k := k) (j := k) hlk rfl
          clear hNd
          by_cases hp : 0 < N3 k
          · obtain ⟨ea, eb, ec⟩ := HF.out k (HFI.out _ (.inl ⟨k, hlk, hp, HI.out, rfl⟩))
            have HE : Aside0 (a = (i : Int) ∧ b = (k : Int) ∧ code = 0) := ⟨⟨ea, eb, ec⟩⟩
            clear ea eb ec
            go_wp2
            go_ret3
            exact ⟨by rw [HE.out.1, HE.out.2.1, HE.out.2.2]; rfl, HW.out⟩
          · have HI2 : Aside0 (∀ j, j < k + 1 → N3 j ≤ 0) := ⟨fun j hj => by rcases Nat.lt_or_ge j k with h_ | h_; exact HI.out j h_; (have : j = k := by omega); subst this; omega⟩
            go_wp2
            go_round
            case rel => exact ⟨k + 1, by omega, by go_num, HI2⟩
            case measure => simp [intOf] <;> omega
        · have HQ2 := Aside0.mk (HQ.out (HFI.out _ (.inr ⟨fun j hj => HI.out j (by omega), rfl⟩)))
          go_wp2
          go_round
          case rel => exact ⟨i + 1, by omega, by go_num, HQ2⟩
          case measure => simp [intOf] <;> omega
    · have HE := Aside0.mk (HFS.out.none (fun j hj => HP.out j (by omega)))
      go_wp2
      go_ret3
      exact ⟨by rw [HE.out.1, HE.out.2.1, HE.out.2.2]; rfl, HW.out⟩
set_option maxHeartbeats 8000000 in
set_option maxRecDepth 100000 in
theorem implFS_bad (f : Nat → Int) (n c g : Nat) (l : List (List Int)) (A : Option Addr) (cD : Nat) (tub every today : Int) (F : Nat → Int) (S : List (List Int)) (code : Int) (hda : ∀ W : World, Rw W g n f → Dy W (.slice A l.length cD) l → Calls Try.prog 105 #[.agg #[.slice (some ⟨g, 0, none⟩) n c, .int .i16 tub, .int .i8 every, .int .i16 today], .slice A l.length cD] W fun e w' => DaPost W n l.length tub every today F S code e w') (hc0 : code ≠ 0) (w : World) (hB : Rw w g n f) (hD : Dy w (.slice A l.length cD) l) :
    Calls Try.prog 56 #[.agg #[.slice (some ⟨g, 0, none⟩) n c, .int .i16 tub, .int .i8 every, .int .i16 today], .slice A l.length cD] w fun e w' => e = .returned (.tuple #[.int .i64 0, .int .i64 0, .int .i64 code]) ∧ Below w.heap.size w w' := by
  have HB0 : Aside0 (Blk (w.alloc (.cells #[.slice (some ⟨g, 0, none⟩) n c, .int .i16 tub, .int .i8 every, .int .i16 today] 40)) w.heap.size 40 [.slice (some ⟨g, 0, none⟩) n c, .int .i16 tub, .int .i8 every, .int .i16 today]) := ⟨Blk.new w _ _⟩
  have HW : Aside0 (Below w.heap.size w (w.alloc (.cells #[.slice (some ⟨g, 0, none⟩) n c, .int .i16 tub, .int .i8 every, .int .i16 today] 40))) := ⟨below_alloc (Below.refl _ _) _⟩
  have HR0 : Aside0 (Rw (w.alloc (.cells #[.slice (some ⟨g, 0, none⟩) n c, .int .i16 tub, .int .i8 every, .int .i16 today] 40)) g n f) := ⟨hB.alloc _⟩
  have HDD := Aside0.mk hD
  have hl0 := hB.lt
  have HDA := Aside0.mk (fun W h h' => (hda W h h').mono (fun e w' h => h.no hc0))
  have hc1 : (code != 0) = true := by simpa using hc0
  have hc2 : (code == 0) = false := by simpa using hc0
  have hc3 : decide (code = 0) = false := decide_eq_false hc0
  clear hc0
  clear hB hD hda
  go_enter Try.func56, Try.ntmps56
  go_wp2_with (first | (refine wl_load (by rfl) 40 _ (by rfl) (w.heap.size) 0 (by rfl) 40 4 [.slice (some ⟨g, 0, none⟩) n c, .int .i16 tub, .int .i8 every, .int .i16 today] [.slice (some ⟨g, 0, none⟩) n c, .int .i16 tub, .int .i8 every, .int .i16 today] (by with_reducible repeat (first | exact HB0.out | refine Blk.alloc ?_ _ | refine Rw.alloc ?_ _ | refine Arg.alloc ?_ _ | apply below_alloc | refine Blk.drew ?_ | refine Rw.drew ?_ | refine Arg.drew ?_ | apply below_drew | refine Blk.drewN ?_ _ | refine Rw.drewN ?_ _ | refine Arg.drewN ?_ _ | apply pw_below_drewN)) (by rfl) (by rfl) _ Try.underlying40 (by rfl) (by kernel_rfl) ?_))
  refine (HDA.out _ (by with_reducible repeat (first | exact HR0.out | refine Blk.alloc ?_ _ | refine Rw.alloc ?_ _ | refine Arg.alloc ?_ _ | apply below_alloc | refine Blk.drew ?_ | refine Rw.drew ?_ | refine Arg.drew ?_ | apply below_drew | refine Blk.drewN ?_ _ | refine Rw.drewN ?_ _ | refine Arg.drewN ?_ _ | apply pw_below_drewN)) (HDD.out.below (by with_reducible repeat (first | exact HW.out | refine Blk.alloc ?_ _ | refine Rw.alloc ?_ _ | refine Arg.alloc ?_ _ | apply below_alloc | refine Blk.drew ?_ | refine Rw.drew ?_ | refine Arg.drew ?_ | apply below_drew | refine Blk.drewN ?_ _ | refine Rw.drewN ?_ _ | refine Arg.drewN ?_ _ | apply pw_below_drewN)))).mono ?_
  rintro e w1 ⟨⟨v2, rfl⟩, hb⟩
  have hs_w1 := Below.size hb
  (try simp at hs_w1)
  replace HB0 : Aside0 (Blk w1 (w.heap.size) 40 [.slice (some ⟨g, 0, none⟩) n c, .int .i16 tub, .int .i8 every, .int .i16 today]) := ⟨Blk.below (by with_reducible repeat (first | exact HB0.out | refine Blk.alloc ?_ _ | refine Rw.alloc ?_ _ | refine Arg.alloc ?_ _ | apply below_alloc | refine Blk.drew ?_ | refine Rw.drew ?_ | refine Arg.drew ?_ | apply below_drew | refine Blk.drewN ?_ _ | refine Rw.drewN ?_ _ | refine Arg.drewN ?_ _ | apply pw_below_drewN)) hb⟩
  replace HR0 : Aside0 (Rw w1 g n f) := ⟨Rw.below (by with_reducible repeat (first | exact HR0.out | refine Blk.alloc ?_ _ | refine Rw.alloc ?_ _ | refine Arg.alloc ?_ _ | apply below_alloc | refine Blk.drew ?_ | refine Rw.drew ?_ | refine Arg.drew ?_ | apply below_drew | refine Blk.drewN ?_ _ | refine Rw.drewN ?_ _ | refine Arg.drewN ?_ _ | apply pw_below_drewN)) hb⟩
  replace HW : Aside0 (Below w.heap.size w w1) := ⟨below_step (by with_reducible repeat (first | exact HW.out | refine Blk.alloc ?_ _ | refine Rw.alloc ?_ _ | refine Arg.alloc ?_ _ | apply below_alloc | refine Blk.drew ?_ | refine Rw.drew ?_ | refine Arg.drew ?_ | apply below_drew | refine Blk.drewN ?_ _ | refine Rw.drewN ?_ _ | refine Arg.drewN ?_ _ | apply pw_below_drewN)) hb⟩
  clear hb
  go_wp2
  go_ret3
  exact ⟨rfl, by repeat (first | exact HW.out | refine below_alloc ?_ _)⟩
set_option maxHeartbeats 8000000 in
set_option maxRecDepth 100000 in
theorem implFS_ok (f : Nat → Int) (n c g : Nat) (l : List (List Int)) (A : Option Addr) (cD : Nat) (tub every today : Int) (F : Nat → Int) (S : List (List Int)) (a b code : Int) (hda : ∀ W : World, Rw W g n f → Dy W (.slice A l.length cD) l → Calls Try.prog 105 #[.agg #[.slice (some ⟨g, 0, none⟩) n c, .int .i16 tub, .int .i8 every, .int .i16 today], .slice A l.length cD] W fun e w' => DaPost W n l.length tub every today F S 0 e w') (hS : S.length ≤ 60) (hSn : ∀ i, (S.getD i []).length ≤ 1000) (hFS : FSp S S.length a b code) (w : World) (hB : Rw w g n f) (hD : Dy w (.slice A l.length cD) l) :
    Calls Try.prog 56 #[.agg #[.slice (some ⟨g, 0, none⟩) n c, .int .i16 tub, .int .i8 every, .int .i16 today], .slice A l.length cD] w fun e w' => e = .returned (.tuple #[.int .i64 a, .int .i64 b, .int .i64 code]) ∧ Below w.heap.size w w' := by
  have HB0 : Aside0 (Blk (w.alloc (.cells #[.slice (some ⟨g, 0, none⟩) n c, .int .i16 tub, .int .i8 every, .int .i16 today] 40)) w.heap.size 40 [.slice (some ⟨g, 0, none⟩) n c, .int .i16 tub, .int .i8 every, .int .i16 today]) := ⟨Blk.new w _ _⟩
  have HW : Aside0 (Below w.heap.size w (w.alloc (.cells #[.slice (some ⟨g, 0, none⟩) n c, .int .i16 tub, .int .i8 every, .int .i16 today] 40))) := ⟨below_alloc (Below.refl _ _) _⟩
  have HR0 : Aside0 (Rw (w.alloc (.cells #[.slice (some ⟨g, 0, none⟩) n c, .int .i16 tub, .int .i8 every, .int .i16 today] 40)) g n f) := ⟨hB.alloc _⟩
  have HDD := Aside0.mk hD
  have hl0 := hB.lt
  have HDA : Aside0 (∀ W : World, Rw W g n f → Dy W (.slice A l.length cD) l → Calls Try.prog 105 #[.agg #[.slice (some ⟨g, 0, none⟩) n c, .int .i16 tub, .int .i8 every, .int .i16 today], .slice A l.length cD] W fun e w' => ∃ (g' c' : Nat) (v : Value), e = .returned (.tuple #[.agg #[.slice (some ⟨g', 0, none⟩) n c', .int .i16 tub, .int .i8 every, .int .i16 (today + (l.length : Int))], v, .int .i64 0]) ∧ W.heap.size ≤ g' ∧ Rw w' g' n F ∧ Dy w' v S ∧ Below W.heap.size W w') := ⟨fun W h h' => (hda W h h').mono (fun e w' h => by obtain ⟨g', c', v, h1, h2, h3, h4, h5⟩ := h.yes rfl; exact ⟨g', c', v, h1, h2, h3, h4, h5⟩)⟩
  have HSN := Aside0.mk hSn
  have HFS := Aside0.mk hFS
  clear hSn hFS
  clear hB hD hda
  go_enter Try.func56, Try.ntmps56
  go_wp2_with (first | (refine wl_load (by rfl) 40 _ (by rfl) (w.heap.size) 0 (by rfl) 40 4 [.slice (some ⟨g, 0, none⟩) n c, .int .i16 tub, .int .i8 every, .int .i16 today] [.slice (some ⟨g, 0, none⟩) n c, .int .i16 tub, .int .i8 every, .int .i16 today] (by with_reducible repeat (first | exact HB0.out | refine Blk.alloc ?_ _ | refine Rw.alloc ?_ _ | refine Arg.alloc ?_ _ | apply below_alloc | refine Blk.drew ?_ | refine Rw.drew ?_ | refine Arg.drew ?_ | apply below_drew | refine Blk.drewN ?_ _ | refine Rw.drewN ?_ _ | refine Arg.drewN ?_ _ | apply pw_below_drewN)) (by rfl) (by rfl) _ Try.underlying40 (by rfl) (by kernel_rfl) ?_))
  refine (HDA.out _ (by with_reducible repeat (first | exact HR0.out | refine Blk.alloc ?_ _ | refine Rw.alloc ?_ _ | refine Arg.alloc ?_ _ | apply below_alloc | refine Blk.drew ?_ | refine Rw.drew ?_ | refine Arg.drew ?_ | apply below_drew | refine Blk.drewN ?_ _ | refine Rw.drewN ?_ _ | refine Arg.drewN ?_ _ | apply pw_below_drewN)) (HDD.out.below (by with_reducible repeat (first | exact HW.out | refine Blk.alloc ?_ _ | refine Rw.alloc ?_ _ | refine Arg.alloc ?_ _ | apply below_alloc | refine Blk.drew ?_ | refine Rw.drew ?_ | refine Arg.drew ?_ | apply below_drew | refine Blk.drewN ?_ _ | refine Rw.drewN ?_ _ | refine Arg.drewN ?_ _ | apply pw_below_drewN)))).mono ?_
  rintro e w1 ⟨g1, c1, v2, rfl, hg_, hR_, hY_, hb⟩
  obtain ⟨A2, c2, rfl, hc2, _⟩ := Dy.reads hY_
  replace HW : Aside0 (Below w.heap.size w w1) := ⟨below_step (by with_reducible repeat (first | exact HW.out | refine Blk.alloc ?_ _ | refine Rw.alloc ?_ _ | refine Arg.alloc ?_ _ | apply below_alloc | refine Blk.drew ?_ | refine Rw.drew ?_ | refine Arg.drew ?_ | apply below_drew | refine Blk.drewN ?_ _ | refine Rw.drewN ?_ _ | refine Arg.drewN ?_ _ | apply pw_below_drewN)) hb⟩
  have HY := Aside0.mk hY_
  clear hb hY_ hR_ hg_ HB0 HR0 hl0 HDD HDA
  go_wp2_with fail
  replace HW : Aside0 (Below w.heap.size w (w1.alloc (.cells #[.slice (some ⟨g1, 0, none⟩) n c1, .int .i16 tub, .int .i8 every, .int .i16 (today + (l.length : Int))] 40))) := ⟨below_alloc HW.out _⟩
  replace HY : Aside0 (Dy (w1.alloc (.cells #[.slice (some ⟨g1, 0, none⟩) n c1, .int .i16 tub, .int .i8 every, .int .i16 (today + (l.length : Int))] 40)) (.slice A2 S.length c2) S) := ⟨HY.out.alloc _⟩
  obtain ⟨wx, hwx⟩ : ∃ wx, wx = (w1.alloc (.cells #[.slice (some ⟨g1, 0, none⟩) n c1, .int .i16 tub, .int .i8 every, .int .i16 (today + (l.length : Int))] 40)) := ⟨_, rfl⟩
  rw [← hwx] at HW HY ⊢
  clear hwx
  go_loop [25] (fun v25 => ∃ i : Nat, i ≤ S.length ∧ v25 = .int .i64 i ∧ Aside0 (∀ j, j < i → FIS S j (-1))) (fun v25 => S.length - (intOf v25).toNat)
  case atStart => exact ⟨0, by omega, rfl, ⟨fun j hj => by omega⟩⟩
  case round =>
    obtain ⟨i, hi, rfl, HP⟩ := hrel
    have hi9 : IntKind.i64.wrap ((i : Int) + 1) = (i : Int) + 1 := IntWalk.i64_in _ ⟨by omega, by omega⟩
    by_cases hlt : i < S.length
    · have hii : (i : Int) < (S.length : Int) := by omega
      obtain ⟨gS, A3, c3, hA2, cS, hc3, HN⟩ := HY.out.at hlt
      subst hA2
      have hn3 := HSN.out i
      have HF : Aside0 (∀ k : Nat, FIS S i k → a = (i : Int) ∧ b = (k : Int) ∧ code = 0) := ⟨fun k hk => HFS.out.found hlt HP.out hk⟩
      have HQ : Aside0 (FIS S i (-1) → ∀ j, j < i + 1 → FIS S j (-1)) := ⟨fun h j hj => by rcases Nat.lt_or_ge j i with h_ | h_; exact HP.out j h_; (have : j = i := by omega); subst this; exact h⟩
      have HFI : Aside0 (∀ R, FI (Nof (S.getD i [])) (S.getD i []).length R → FIS S i R) := ⟨fun R h => h⟩
      have HN3 : Aside0 (NdA wx A3 (S.getD i []).length (Nof (S.getD i []))) := ⟨HN⟩
      clear HN
      generalize (S.getD i []).length = n3 at *
      generalize Nof (S.getD i []) = N3 at *
      obtain ⟨R, hR⟩ := FI_ex N3 n3
      have HIX := Aside0.mk (fun W h => idxPos_calls N3 n3 c3 A3 R hn3 hR W h)
      have HR1 := Aside0.mk hR
      rcases hR with ⟨k, hk1, hk2, hk3, hk4⟩ | ⟨hk1, hk4⟩
      · subst hk4
        have HE := Aside0.mk (HF.out k (HFI.out _ HR1.out))
        have hk0 : 0 ≤ (k : Int) := by omega
        clear HR1 hk1 hk2 hk3
        go_wp2_with (go_at_call 106; refine (HIX.out _ HN3.out).mono ?_; rintro e w' ⟨rfl, rfl⟩)
        go_ret3
        exact ⟨by rw [HE.out.1, HE.out.2.1, HE.out.2.2]; rfl, HW.out⟩
      · subst hk4
        have HQ2 := Aside0.mk (HQ.out (HFI.out _ HR1.out))
        clear HR1 hk1
        go_wp2_with (go_at_call 106; refine (HIX.out _ HN3.out).mono ?_; rintro e w' ⟨rfl, rfl⟩)
        go_round
        case rel => exact ⟨i + 1, by omega, by go_num, HQ2⟩
        case measure => simp [intOf] <;> omega
    · have HE := Aside0.mk (HFS.out.none (fun j hj => HP.out j (by omega)))
      go_wp2
      go_ret3
      exact ⟨by rw [HE.out.1, HE.out.2.1, HE.out.2.2]; rfl, HW.out⟩
theorem daS_row (f : Nat → Int) (l : List (List Int)) (n : Nat) (tub every today : Int) (hn : n ≤ 4) : ∀ k i, ((daS f l n tub every today k).getD i []).length ≤ 1000
  | 0, i => by simp [daS]
  | k + 1, i => by
    rw [daS, List.getD_eq_getElem?_getD]
    rcases Nat.lt_or_ge i (daS f l n tub every today k).length with h | h
    · rw [List.getElem?_append_left h, ← List.getD_eq_getElem?_getD]
      exact daS_row f l n tub every today hn k i
    · rw [List.getElem?_append_right h]
      rcases Nat.eq_zero_or_pos (i - (daS f l n tub every today k).length) with e | e
      · rw [e]; simp [shL_len]; omega
      · rw [List.getElem?_eq_none (by simp; omega)]; simp
set_option maxHeartbeats 8000000 in
set_option maxRecDepth 100000 in
theorem lawFS (A A1 : Option Addr) (f : Nat → Int) (n c c1 : Nat) (l : List (List Int)) (tub every today : Int) (a b code : Int) (r : Int) (hr : 0 ≤ r) (hn : n ≤ 1048576) (hl : l.length ≤ 1048576 ∧ l.flatten.length ≤ 1048576) (hc1 : l.length ≤ c1) (hsz : ∀ W : World, (Kd.slice 2 (Kd.int .i64)).C W A1 l.length l → Calls Try.prog 39 #[.slice A1 l.length c1, .int .i64 ((1048576 : Int) - (n : Int))] W fun e w' => e = .returned (.int .i64 r) ∧ Below W.heap.size W w') (hsp : (∀ (g c : Nat) (A : Option Addr) (cD : Nat) (W : World), Rw W g n f → l.length ≤ cD → Dy W (.slice A l.length cD) l → Calls Try.prog 55 #[.agg #[.slice (some ⟨g, 0, none⟩) n c, .int .i16 tub, .int .i8 every, .int .i16 today], .slice A l.length cD] W fun e w' => e = .returned (.tuple #[.int .i64 a, .int .i64 b, .int .i64 code]) ∧ Below W.heap.size W w')) (him : (∀ (g c : Nat) (A : Option Addr) (cD : Nat) (W : World), Rw W g n f → l.length ≤ cD → Dy W (.slice A l.length cD) l → Calls Try.prog 56 #[.agg #[.slice (some ⟨g, 0, none⟩) n c, .int .i16 tub, .int .i8 every, .int .i16 today], .slice A l.length cD] W fun e w' => e = .returned (.tuple #[.int .i64 a, .int .i64 b, .int .i64 code]) ∧ Below W.heap.size W w')) (w : World) (hA : Arg w n f A) (hL : (Kd.slice 2 (Kd.int .i64)).C w A1 l.length l) :
    Calls Try.prog 15 #[.agg #[.slice A n c, .int .i16 tub, .int .i8 every, .int .i16 today], .slice A1 l.length c1] w fun e w' => e = .returned (.bool true) ∧ Below w.heap.size w w' := by
  have HSZ := Aside0.mk (fun W => szHouse_calls A n c tub every today 1048576 (by omega) (by omega) W)
  have hn1 : ¬ ((1048576 : Int) - (n : Int) < 0) := by omega
  rw [if_neg hn1] at HSZ
  have hn2 : 0 ≤ (1048576 : Int) - (n : Int) := by omega
  have HSR := Aside0.mk hsz
  have HA := Aside0.mk hA
  have HL := Aside0.mk hL
  have HW : Aside0 (Below w.heap.size w (w.alloc (.cells #[.slice A n c, .int .i16 tub, .int .i8 every, .int .i16 today] 35))) := ⟨below_alloc (Below.refl _ _) _⟩
  have HB0 : Aside0 (Blk (w.alloc (.cells #[.slice A n c, .int .i16 tub, .int .i8 every, .int .i16 today] 35)) w.heap.size 35 [.slice A n c, .int .i16 tub, .int .i8 every, .int .i16 today]) := ⟨Blk.new w _ _⟩
  have HTH := Aside0.mk (fun W h => toHouse_calls A n c f tub every today hn W h)
  have HTS := Aside0.mk (fun W h => toSS_calls A1 c1 l hl hc1 W h)
  have HES := Aside0.mk (fun v v' W h h' => eqSS_calls v v' l hl W h h')
  have HSP := Aside0.mk hsp
  have HIM := Aside0.mk him
  have HEA := Aside0.mk (fun g g' c c' W h h' => eqHouse_calls (some ⟨g, 0, none⟩) (some ⟨g', 0, none⟩) n c c' f f tub every today W hn h h' (fun i hi => rfl))
  obtain ⟨left, hleft⟩ : ∃ left, (1048576 : Int) - (n : Int) = left := ⟨_, rfl⟩
  rw [hleft] at HSZ HSR hn2
  clear hA hL hn1 hleft hsp him hsz
  go_enter Try.func15, Try.ntmps15
  go_wp2_with (first | (refine wl_load (by rfl) 35 _ (by rfl) (w.heap.size) 0 (by rfl) 35 4 [.slice A n c, .int .i16 tub, .int .i8 every, .int .i16 today] [.slice A n c, .int .i16 tub, .int .i8 every, .int .i16 today] (by with_reducible repeat (first | exact HB0.out | refine Blk.alloc ?_ _ | refine Rw.alloc ?_ _ | refine Arg.alloc ?_ _ | apply below_alloc | refine Blk.drew ?_ | refine Rw.drew ?_ | refine Arg.drew ?_ | apply below_drew | refine Blk.drewN ?_ _ | refine Rw.drewN ?_ _ | refine Arg.drewN ?_ _ | apply pw_below_drewN)) (by rfl) (by rfl) _ Try.underlying35 (by rfl) (by kernel_rfl) ?_))
  refine (HSZ.out _).mono ?_
  rintro e w1 ⟨rfl, hb⟩
  have hs_w1 := Below.size hb
  (try simp at hs_w1)
  replace HB0 : Aside0 (Blk w1 (w.heap.size) 35 [.slice A n c, .int .i16 tub, .int .i8 every, .int .i16 today]) := ⟨Blk.below (by with_reducible repeat (first | exact HB0.out | refine Blk.alloc ?_ _ | refine Rw.alloc ?_ _ | refine Arg.alloc ?_ _ | apply below_alloc | refine Blk.drew ?_ | refine Rw.drew ?_ | refine Arg.drew ?_ | apply below_drew | refine Blk.drewN ?_ _ | refine Rw.drewN ?_ _ | refine Arg.drewN ?_ _ | apply pw_below_drewN)) hb⟩
  replace HW : Aside0 (Below w.heap.size w w1) := ⟨below_step (by with_reducible repeat (first | exact HW.out | refine Blk.alloc ?_ _ | refine Rw.alloc ?_ _ | refine Arg.alloc ?_ _ | apply below_alloc | refine Blk.drew ?_ | refine Rw.drew ?_ | refine Arg.drew ?_ | apply below_drew | refine Blk.drewN ?_ _ | refine Rw.drewN ?_ _ | refine Arg.drewN ?_ _ | apply pw_below_drewN)) hb⟩
  clear hb
  go_wp2_with (fail)
  refine (HSR.out _ (Kd.C_below HL.out (by with_reducible repeat (first | exact HW.out | refine Blk.alloc ?_ _ | refine Rw.alloc ?_ _ | refine Arg.alloc ?_ _ | apply below_alloc | refine Blk.drew ?_ | refine Rw.drew ?_ | refine Arg.drew ?_ | apply below_drew | refine Blk.drewN ?_ _ | refine Rw.drewN ?_ _ | refine Arg.drewN ?_ _ | apply pw_below_drewN)))).mono ?_
  rintro e w2 ⟨rfl, hb⟩
  have hs_w2 := Below.size hb
  (try simp at hs_w2)
  replace HB0 : Aside0 (Blk w2 (w.heap.size) 35 [.slice A n c, .int .i16 tub, .int .i8 every, .int .i16 today]) := ⟨Blk.below (by with_reducible repeat (first | exact HB0.out | refine Blk.alloc ?_ _ | refine Rw.alloc ?_ _ | refine Arg.alloc ?_ _ | apply below_alloc | refine Blk.drew ?_ | refine Rw.drew ?_ | refine Arg.drew ?_ | apply below_drew | refine Blk.drewN ?_ _ | refine Rw.drewN ?_ _ | refine Arg.drewN ?_ _ | apply pw_below_drewN)) hb⟩
  replace HW : Aside0 (Below w.heap.size w w2) := ⟨below_step (by with_reducible repeat (first | exact HW.out | refine Blk.alloc ?_ _ | refine Rw.alloc ?_ _ | refine Arg.alloc ?_ _ | apply below_alloc | refine Blk.drew ?_ | refine Rw.drew ?_ | refine Arg.drew ?_ | apply below_drew | refine Blk.drewN ?_ _ | refine Rw.drewN ?_ _ | refine Arg.drewN ?_ _ | apply pw_below_drewN)) hb⟩
  clear hb
  go_wp2_with (first | (refine wl_load (by rfl) 35 _ (by rfl) (w.heap.size) 0 (by rfl) 35 4 [.slice A n c, .int .i16 tub, .int .i8 every, .int .i16 today] [.slice A n c, .int .i16 tub, .int .i8 every, .int .i16 today] (by with_reducible repeat (first | exact HB0.out | refine Blk.alloc ?_ _ | refine Rw.alloc ?_ _ | refine Arg.alloc ?_ _ | apply below_alloc | refine Blk.drew ?_ | refine Rw.drew ?_ | refine Arg.drew ?_ | apply below_drew | refine Blk.drewN ?_ _ | refine Rw.drewN ?_ _ | refine Arg.drewN ?_ _ | apply pw_below_drewN)) (by rfl) (by rfl) _ Try.underlying35 (by rfl) (by kernel_rfl) ?_))
  refine (HTH.out _ (HA.out.below (by with_reducible repeat (first | exact HW.out | refine Blk.alloc ?_ _ | refine Rw.alloc ?_ _ | refine Arg.alloc ?_ _ | apply below_alloc | refine Blk.drew ?_ | refine Rw.drew ?_ | refine Arg.drew ?_ | apply below_drew | refine Blk.drewN ?_ _ | refine Rw.drewN ?_ _ | refine Arg.drewN ?_ _ | apply pw_below_drewN)))).mono ?_
  rintro e w3 ⟨g1, rfl, hg_, hR_, hb⟩
  have lo_g1 := hg_
  (try simp at lo_g1)
  have hi_g1 := Rw.lt hR_
  have hs_w3 := Below.size hb
  (try simp at hs_w3)
  replace HB0 : Aside0 (Blk w3 (w.heap.size) 35 [.slice A n c, .int .i16 tub, .int .i8 every, .int .i16 today]) := ⟨Blk.below (by with_reducible repeat (first | exact HB0.out | refine Blk.alloc ?_ _ | refine Rw.alloc ?_ _ | refine Arg.alloc ?_ _ | apply below_alloc | refine Blk.drew ?_ | refine Rw.drew ?_ | refine Arg.drew ?_ | apply below_drew | refine Blk.drewN ?_ _ | refine Rw.drewN ?_ _ | refine Arg.drewN ?_ _ | apply pw_below_drewN)) hb⟩
  replace HW : Aside0 (Below w.heap.size w w3) := ⟨below_step (by with_reducible repeat (first | exact HW.out | refine Blk.alloc ?_ _ | refine Rw.alloc ?_ _ | refine Arg.alloc ?_ _ | apply below_alloc | refine Blk.drew ?_ | refine Rw.drew ?_ | refine Arg.drew ?_ | apply below_drew | refine Blk.drewN ?_ _ | refine Rw.drewN ?_ _ | refine Arg.drewN ?_ _ | apply pw_below_drewN)) hb⟩
  clear hb
  have HR1 := Aside0.mk hR_
  clear hR_ hg_
  go_wp2_with (fail)
  refine (HTS.out _ (Kd.C_below HL.out (by with_reducible repeat (first | exact HW.out | refine Blk.alloc ?_ _ | refine Rw.alloc ?_ _ | refine Arg.alloc ?_ _ | apply below_alloc | refine Blk.drew ?_ | refine Rw.drew ?_ | refine Arg.drew ?_ | apply below_drew | refine Blk.drewN ?_ _ | refine Rw.drewN ?_ _ | refine Arg.drewN ?_ _ | apply pw_below_drewN)))).mono ?_
  rintro e w4 ⟨A2, cN1, rfl, hc_HY1, hY_, hb⟩
  have hs_w4 := Below.size hb
  (try simp at hs_w4)
  replace HB0 : Aside0 (Blk w4 (w.heap.size) 35 [.slice A n c, .int .i16 tub, .int .i8 every, .int .i16 today]) := ⟨Blk.below (by with_reducible repeat (first | exact HB0.out | refine Blk.alloc ?_ _ | refine Rw.alloc ?_ _ | refine Arg.alloc ?_ _ | apply below_alloc | refine Blk.drew ?_ | refine Rw.drew ?_ | refine Arg.drew ?_ | apply below_drew | refine Blk.drewN ?_ _ | refine Rw.drewN ?_ _ | refine Arg.drewN ?_ _ | apply pw_below_drewN)) hb⟩
  replace HR1 : Aside0 (Rw w4 g1 n f) := ⟨Rw.below (by with_reducible repeat (first | exact HR1.out | refine Blk.alloc ?_ _ | refine Rw.alloc ?_ _ | refine Arg.alloc ?_ _ | apply below_alloc | refine Blk.drew ?_ | refine Rw.drew ?_ | refine Arg.drew ?_ | apply below_drew | refine Blk.drewN ?_ _ | refine Rw.drewN ?_ _ | refine Arg.drewN ?_ _ | apply pw_below_drewN)) hb⟩
  replace HW : Aside0 (Below w.heap.size w w4) := ⟨below_step (by with_reducible repeat (first | exact HW.out | refine Blk.alloc ?_ _ | refine Rw.alloc ?_ _ | refine Arg.alloc ?_ _ | apply below_alloc | refine Blk.drew ?_ | refine Rw.drew ?_ | refine Arg.drew ?_ | apply below_drew | refine Blk.drewN ?_ _ | refine Rw.drewN ?_ _ | refine Arg.drewN ?_ _ | apply pw_below_drewN)) hb⟩
  clear hb
  have HY1 : Aside0 (Dy w4 (.slice A2 l.length cN1) l) := ⟨hY_⟩
  clear hY_
  go_wp2_with (fail)
  refine (HSP.out _ _ _ _ _ (by with_reducible repeat (first | exact HR1.out | refine Blk.alloc ?_ _ | refine Rw.alloc ?_ _ | refine Arg.alloc ?_ _ | apply below_alloc | refine Blk.drew ?_ | refine Rw.drew ?_ | refine Arg.drew ?_ | apply below_drew | refine Blk.drewN ?_ _ | refine Rw.drewN ?_ _ | refine Arg.drewN ?_ _ | apply pw_below_drewN)) hc_HY1 (by with_reducible repeat (first | exact HY1.out | refine Dy.alloc ?_ _ | refine Dy.drew ?_))).mono ?_
  rintro e w5 ⟨rfl, hb⟩
  have hs_w5 := Below.size hb
  (try simp at hs_w5)
  replace HY1 : Aside0 (Dy w5 (.slice A2 l.length cN1) l) := ⟨Dy.below (by with_reducible repeat (first | exact HY1.out | refine Dy.alloc ?_ _ | refine Dy.drew ?_)) hb⟩
  replace HB0 : Aside0 (Blk w5 (w.heap.size) 35 [.slice A n c, .int .i16 tub, .int .i8 every, .int .i16 today]) := ⟨Blk.below (by with_reducible repeat (first | exact HB0.out | refine Blk.alloc ?_ _ | refine Rw.alloc ?_ _ | refine Arg.alloc ?_ _ | apply below_alloc | refine Blk.drew ?_ | refine Rw.drew ?_ | refine Arg.drew ?_ | apply below_drew | refine Blk.drewN ?_ _ | refine Rw.drewN ?_ _ | refine Arg.drewN ?_ _ | apply pw_below_drewN)) hb⟩
  replace HR1 : Aside0 (Rw w5 g1 n f) := ⟨Rw.below (by with_reducible repeat (first | exact HR1.out | refine Blk.alloc ?_ _ | refine Rw.alloc ?_ _ | refine Arg.alloc ?_ _ | apply below_alloc | refine Blk.drew ?_ | refine Rw.drew ?_ | refine Arg.drew ?_ | apply below_drew | refine Blk.drewN ?_ _ | refine Rw.drewN ?_ _ | refine Arg.drewN ?_ _ | apply pw_below_drewN)) hb⟩
  replace HW : Aside0 (Below w.heap.size w w5) := ⟨below_step (by with_reducible repeat (first | exact HW.out | refine Blk.alloc ?_ _ | refine Rw.alloc ?_ _ | refine Arg.alloc ?_ _ | apply below_alloc | refine Blk.drew ?_ | refine Rw.drew ?_ | refine Arg.drew ?_ | apply below_drew | refine Blk.drewN ?_ _ | refine Rw.drewN ?_ _ | refine Arg.drewN ?_ _ | apply pw_below_drewN)) hb⟩
  clear hb
  go_wp2_with (first | (refine wl_load (by rfl) 35 _ (by rfl) (w.heap.size) 0 (by rfl) 35 4 [.slice A n c, .int .i16 tub, .int .i8 every, .int .i16 today] [.slice A n c, .int .i16 tub, .int .i8 every, .int .i16 today] (by with_reducible repeat (first | exact HB0.out | refine Blk.alloc ?_ _ | refine Rw.alloc ?_ _ | refine Arg.alloc ?_ _ | apply below_alloc | refine Blk.drew ?_ | refine Rw.drew ?_ | refine Arg.drew ?_ | apply below_drew | refine Blk.drewN ?_ _ | refine Rw.drewN ?_ _ | refine Arg.drewN ?_ _ | apply pw_below_drewN)) (by rfl) (by rfl) _ Try.underlying35 (by rfl) (by kernel_rfl) ?_))
  refine (HTH.out _ (HA.out.below (by with_reducible repeat (first | exact HW.out | refine Blk.alloc ?_ _ | refine Rw.alloc ?_ _ | refine Arg.alloc ?_ _ | apply below_alloc | refine Blk.drew ?_ | refine Rw.drew ?_ | refine Arg.drew ?_ | apply below_drew | refine Blk.drewN ?_ _ | refine Rw.drewN ?_ _ | refine Arg.drewN ?_ _ | apply pw_below_drewN)))).mono ?_
  rintro e w6 ⟨g3, rfl, hg_, hR_, hb⟩
  have lo_g3 := hg_
  (try simp at lo_g3)
  have hi_g3 := Rw.lt hR_
  have hs_w6 := Below.size hb
  (try simp at hs_w6)
  replace HY1 : Aside0 (Dy w6 (.slice A2 l.length cN1) l) := ⟨Dy.below (by with_reducible repeat (first | exact HY1.out | refine Dy.alloc ?_ _ | refine Dy.drew ?_)) hb⟩
  replace HB0 : Aside0 (Blk w6 (w.heap.size) 35 [.slice A n c, .int .i16 tub, .int .i8 every, .int .i16 today]) := ⟨Blk.below (by with_reducible repeat (first | exact HB0.out | refine Blk.alloc ?_ _ | refine Rw.alloc ?_ _ | refine Arg.alloc ?_ _ | apply below_alloc | refine Blk.drew ?_ | refine Rw.drew ?_ | refine Arg.drew ?_ | apply below_drew | refine Blk.drewN ?_ _ | refine Rw.drewN ?_ _ | refine Arg.drewN ?_ _ | apply pw_below_drewN)) hb⟩
  replace HR1 : Aside0 (Rw w6 g1 n f) := ⟨Rw.below (by with_reducible repeat (first | exact HR1.out | refine Blk.alloc ?_ _ | refine Rw.alloc ?_ _ | refine Arg.alloc ?_ _ | apply below_alloc | refine Blk.drew ?_ | refine Rw.drew ?_ | refine Arg.drew ?_ | apply below_drew | refine Blk.drewN ?_ _ | refine Rw.drewN ?_ _ | refine Arg.drewN ?_ _ | apply pw_below_drewN)) hb⟩
  replace HW : Aside0 (Below w.heap.size w w6) := ⟨below_step (by with_reducible repeat (first | exact HW.out | refine Blk.alloc ?_ _ | refine Rw.alloc ?_ _ | refine Arg.alloc ?_ _ | apply below_alloc | refine Blk.drew ?_ | refine Rw.drew ?_ | refine Arg.drew ?_ | apply below_drew | refine Blk.drewN ?_ _ | refine Rw.drewN ?_ _ | refine Arg.drewN ?_ _ | apply pw_below_drewN)) hb⟩
  clear hb
  have HR3 := Aside0.mk hR_
  clear hR_ hg_
  go_wp2_with (fail)
  refine (HTS.out _ (Kd.C_below HL.out (by with_reducible repeat (first | exact HW.out | refine Blk.alloc ?_ _ | refine Rw.alloc ?_ _ | refine Arg.alloc ?_ _ | apply below_alloc | refine Blk.drew ?_ | refine Rw.drew ?_ | refine Arg.drew ?_ | apply below_drew | refine Blk.drewN ?_ _ | refine Rw.drewN ?_ _ | refine Arg.drewN ?_ _ | apply pw_below_drewN)))).mono ?_
  rintro e w7 ⟨A4, cN3, rfl, hc_HY3, hY_, hb⟩
  have hs_w7 := Below.size hb
  (try simp at hs_w7)
  replace HY1 : Aside0 (Dy w7 (.slice A2 l.length cN1) l) := ⟨Dy.below (by with_reducible repeat (first | exact HY1.out | refine Dy.alloc ?_ _ | refine Dy.drew ?_)) hb⟩
  replace HB0 : Aside0 (Blk w7 (w.heap.size) 35 [.slice A n c, .int .i16 tub, .int .i8 every, .int .i16 today]) := ⟨Blk.below (by with_reducible repeat (first | exact HB0.out | refine Blk.alloc ?_ _ | refine Rw.alloc ?_ _ | refine Arg.alloc ?_ _ | apply below_alloc | refine Blk.drew ?_ | refine Rw.drew ?_ | refine Arg.drew ?_ | apply below_drew | refine Blk.drewN ?_ _ | refine Rw.drewN ?_ _ | refine Arg.drewN ?_ _ | apply pw_below_drewN)) hb⟩
  replace HR1 : Aside0 (Rw w7 g1 n f) := ⟨Rw.below (by with_reducible repeat (first | exact HR1.out | refine Blk.alloc ?_ _ | refine Rw.alloc ?_ _ | refine Arg.alloc ?_ _ | apply below_alloc | refine Blk.drew ?_ | refine Rw.drew ?_ | refine Arg.drew ?_ | apply below_drew | refine Blk.drewN ?_ _ | refine Rw.drewN ?_ _ | refine Arg.drewN ?_ _ | apply pw_below_drewN)) hb⟩
  replace HR3 : Aside0 (Rw w7 g3 n f) := ⟨Rw.below (by with_reducible repeat (first | exact HR3.out | refine Blk.alloc ?_ _ | refine Rw.alloc ?_ _ | refine Arg.alloc ?_ _ | apply below_alloc | refine Blk.drew ?_ | refine Rw.drew ?_ | refine Arg.drew ?_ | apply below_drew | refine Blk.drewN ?_ _ | refine Rw.drewN ?_ _ | refine Arg.drewN ?_ _ | apply pw_below_drewN)) hb⟩
  have HVX : Aside0 (Blk w7 (w6.heap.size) 40 [.slice (some ⟨g3, 0, none⟩) n n, .int .i16 tub, .int .i8 every, .int .i16 today]) := ⟨Blk.below (by repeat (first | exact Blk.at_ (by simp) rfl | refine Blk.alloc ?_ _)) hb⟩
  replace HW : Aside0 (Below w.heap.size w w7) := ⟨below_step (by with_reducible repeat (first | exact HW.out | refine Blk.alloc ?_ _ | refine Rw.alloc ?_ _ | refine Arg.alloc ?_ _ | apply below_alloc | refine Blk.drew ?_ | refine Rw.drew ?_ | refine Arg.drew ?_ | apply below_drew | refine Blk.drewN ?_ _ | refine Rw.drewN ?_ _ | refine Arg.drewN ?_ _ | apply pw_below_drewN)) hb⟩
  clear hb
  have HY3 : Aside0 (Dy w7 (.slice A4 l.length cN3) l) := ⟨hY_⟩
  clear hY_
  go_wp2_with (first | (refine wl_load (by rfl) 40 _ (by rfl) (w6.heap.size) 0 (by rfl) 40 4 [.slice (some ⟨g3, 0, none⟩) n n, .int .i16 tub, .int .i8 every, .int .i16 today] [.slice (some ⟨g3, 0, none⟩) n n, .int .i16 tub, .int .i8 every, .int .i16 today] (by with_reducible repeat (first | exact HVX.out | refine Blk.alloc ?_ _ | refine Rw.alloc ?_ _ | refine Arg.alloc ?_ _ | apply below_alloc | refine Blk.drew ?_ | refine Rw.drew ?_ | refine Arg.drew ?_ | apply below_drew | refine Blk.drewN ?_ _ | refine Rw.drewN ?_ _ | refine Arg.drewN ?_ _ | apply pw_below_drewN)) (by rfl) (by rfl) _ Try.underlying40 (by rfl) (by kernel_rfl) ?_))
  refine (HIM.out _ _ _ _ _ (by with_reducible repeat (first | exact HR3.out | refine Blk.alloc ?_ _ | refine Rw.alloc ?_ _ | refine Arg.alloc ?_ _ | apply below_alloc | refine Blk.drew ?_ | refine Rw.drew ?_ | refine Arg.drew ?_ | apply below_drew | refine Blk.drewN ?_ _ | refine Rw.drewN ?_ _ | refine Arg.drewN ?_ _ | apply pw_below_drewN)) hc_HY3 (by with_reducible repeat (first | exact HY3.out | refine Dy.alloc ?_ _ | refine Dy.drew ?_))).mono ?_
  rintro e w8 ⟨rfl, hb⟩
  have hs_w8 := Below.size hb
  (try simp at hs_w8)
  replace HY1 : Aside0 (Dy w8 (.slice A2 l.length cN1) l) := ⟨Dy.below (by with_reducible repeat (first | exact HY1.out | refine Dy.alloc ?_ _ | refine Dy.drew ?_)) hb⟩
  replace HY3 : Aside0 (Dy w8 (.slice A4 l.length cN3) l) := ⟨Dy.below (by with_reducible repeat (first | exact HY3.out | refine Dy.alloc ?_ _ | refine Dy.drew ?_)) hb⟩
  replace HB0 : Aside0 (Blk w8 (w.heap.size) 35 [.slice A n c, .int .i16 tub, .int .i8 every, .int .i16 today]) := ⟨Blk.below (by with_reducible repeat (first | exact HB0.out | refine Blk.alloc ?_ _ | refine Rw.alloc ?_ _ | refine Arg.alloc ?_ _ | apply below_alloc | refine Blk.drew ?_ | refine Rw.drew ?_ | refine Arg.drew ?_ | apply below_drew | refine Blk.drewN ?_ _ | refine Rw.drewN ?_ _ | refine Arg.drewN ?_ _ | apply pw_below_drewN)) hb⟩
  replace HVX : Aside0 (Blk w8 (w6.heap.size) 40 [.slice (some ⟨g3, 0, none⟩) n n, .int .i16 tub, .int .i8 every, .int .i16 today]) := ⟨Blk.below (by with_reducible repeat (first | exact HVX.out | refine Blk.alloc ?_ _ | refine Rw.alloc ?_ _ | refine Arg.alloc ?_ _ | apply below_alloc | refine Blk.drew ?_ | refine Rw.drew ?_ | refine Arg.drew ?_ | apply below_drew | refine Blk.drewN ?_ _ | refine Rw.drewN ?_ _ | refine Arg.drewN ?_ _ | apply pw_below_drewN)) hb⟩
  replace HR1 : Aside0 (Rw w8 g1 n f) := ⟨Rw.below (by with_reducible repeat (first | exact HR1.out | refine Blk.alloc ?_ _ | refine Rw.alloc ?_ _ | refine Arg.alloc ?_ _ | apply below_alloc | refine Blk.drew ?_ | refine Rw.drew ?_ | refine Arg.drew ?_ | apply below_drew | refine Blk.drewN ?_ _ | refine Rw.drewN ?_ _ | refine Arg.drewN ?_ _ | apply pw_below_drewN)) hb⟩
  replace HR3 : Aside0 (Rw w8 g3 n f) := ⟨Rw.below (by with_reducible repeat (first | exact HR3.out | refine Blk.alloc ?_ _ | refine Rw.alloc ?_ _ | refine Arg.alloc ?_ _ | apply below_alloc | refine Blk.drew ?_ | refine Rw.drew ?_ | refine Arg.drew ?_ | apply below_drew | refine Blk.drewN ?_ _ | refine Rw.drewN ?_ _ | refine Arg.drewN ?_ _ | apply pw_below_drewN)) hb⟩
  replace HW : Aside0 (Below w.heap.size w w8) := ⟨below_step (by with_reducible repeat (first | exact HW.out | refine Blk.alloc ?_ _ | refine Rw.alloc ?_ _ | refine Arg.alloc ?_ _ | apply below_alloc | refine Blk.drew ?_ | refine Rw.drew ?_ | refine Arg.drew ?_ | apply below_drew | refine Blk.drewN ?_ _ | refine Rw.drewN ?_ _ | refine Arg.drewN ?_ _ | apply pw_below_drewN)) hb⟩
  clear hb
  go_wp2_with (fail)
  have c0_0 := HVX.out.cell 0 (v := .slice (some ⟨g3, 0, none⟩) n n) rfl
  have c0_1 := HVX.out.cell 1 (v := .int .i16 tub) rfl
  have c0_2 := HVX.out.cell 2 (v := .int .i8 every) rfl
  have c0_3 := HVX.out.cell 3 (v := .int .i16 today) rfl
  have c1_0 := HB0.out.cell 0 (v := .slice A n c) rfl
  have c1_1 := HB0.out.cell 1 (v := .int .i16 tub) rfl
  have c1_2 := HB0.out.cell 2 (v := .int .i8 every) rfl
  have c1_3 := HB0.out.cell 3 (v := .int .i16 today) rfl
  go_region_held3 (fun w' => w'.cell? ⟨w6.heap.size, 0, none⟩ = some (.slice (some ⟨g3, 0, none⟩) n n) ∧ w'.cell? ⟨w6.heap.size, 1, none⟩ = some (.int .i16 tub) ∧ w'.cell? ⟨w6.heap.size, 2, none⟩ = some (.int .i8 every) ∧ w'.cell? ⟨w6.heap.size, 3, none⟩ = some (.int .i16 today) ∧ w'.cell? ⟨w.heap.size, 0, none⟩ = some (.slice A n c) ∧ w'.cell? ⟨w.heap.size, 1, none⟩ = some (.int .i16 tub) ∧ w'.cell? ⟨w.heap.size, 2, none⟩ = some (.int .i8 every) ∧ w'.cell? ⟨w.heap.size, 3, none⟩ = some (.int .i16 today)) (first | exact ⟨c0_0, c0_1, c0_2, c0_3, c1_0, c1_1, c1_2, c1_3⟩ | exact ⟨d1c0_0, d1c0_1, d1c0_2, d1c0_3, d1c1_0, d1c1_1, d1c1_2, d1c1_3⟩ | exact ⟨d0c0_0, d0c0_1, d0c0_2, d0c0_3, d0c1_0, d0c1_1, d0c1_2, d0c1_3⟩ | go_keep) ((first | (go_at_call 24; (with_reducible refine (HTH.out _ (HA.out.below (by with_reducible repeat (first | exact HW.out | refine Blk.alloc ?_ _ | refine Rw.alloc ?_ _ | refine Arg.alloc ?_ _ | apply below_alloc | refine Blk.drew ?_ | refine Rw.drew ?_ | refine Arg.drew ?_ | apply below_drew | refine Blk.drewN ?_ _ | refine Rw.drewN ?_ _ | refine Arg.drewN ?_ _ | apply pw_below_drewN)))).mono ?_); rintro e u1_0 ⟨y1, rfl, hy1, hY1, hb⟩; have q0 := below_step (w := w8) (by repeat (first | exact Below.refl _ _ | assumption | apply below_drew | apply pw_below_drewN | apply below_alloc)) hb; clear hb; have d0c0_0 := pw_cell_below q0 c0_0; have d0c0_1 := pw_cell_below q0 c0_1; have d0c0_2 := pw_cell_below q0 c0_2; have d0c0_3 := pw_cell_below q0 c0_3; have d0c1_0 := pw_cell_below q0 c1_0; have d0c1_1 := pw_cell_below q0 c1_1; have d0c1_2 := pw_cell_below q0 c1_2; have d0c1_3 := pw_cell_below q0 c1_3) | (go_at_call 26; (with_reducible refine (HEA.out _ _ _ _ _ (Arg.of_rw (by with_reducible repeat (first | exact (HR3.out.below q0) | refine Blk.alloc ?_ _ | refine Rw.alloc ?_ _ | refine Arg.alloc ?_ _ | apply below_alloc | refine Blk.drew ?_ | refine Rw.drew ?_ | refine Arg.drew ?_ | apply below_drew | refine Blk.drewN ?_ _ | refine Rw.drewN ?_ _ | refine Arg.drewN ?_ _ | apply pw_below_drewN))) (Arg.of_rw (by with_reducible repeat (first | exact hY1 | refine Blk.alloc ?_ _ | refine Rw.alloc ?_ _ | refine Arg.alloc ?_ _ | apply below_alloc | refine Blk.drew ?_ | refine Rw.drew ?_ | refine Arg.drew ?_ | apply below_drew | refine Blk.drewN ?_ _ | refine Rw.drewN ?_ _ | refine Arg.drewN ?_ _ | apply pw_below_drewN)))).mono ?_); rintro e u1_1 ⟨rfl, hb⟩; have q1 := below_step (w := w8) (by repeat (first | exact Below.refl _ _ | assumption | apply below_drew | apply pw_below_drewN | apply below_alloc)) hb; clear hb; have d1c0_0 := pw_cell_below q1 c0_0; have d1c0_1 := pw_cell_below q1 c0_1; have d1c0_2 := pw_cell_below q1 c0_2; have d1c0_3 := pw_cell_below q1 c0_3; have d1c1_0 := pw_cell_below q1 c1_0; have d1c1_1 := pw_cell_below q1 c1_1; have d1c1_2 := pw_cell_below q1 c1_2; have d1c1_3 := pw_cell_below q1 c1_3)))
  clear c0_0 c0_1 c0_2 c0_3 c1_0 c1_1 c1_2 c1_3 d0c0_0 d0c0_1 d0c0_2 d0c0_3 d0c1_0 d0c1_1 d0c1_2 d0c1_3 d1c0_0 d1c0_1 d1c0_2 d1c0_3 d1c1_0 d1c1_1 d1c1_2 d1c1_3 q0
  have hs_u1_1 := Below.size q1
  (try simp at hs_u1_1)
  replace HY1 : Aside0 (Dy u1_1 (.slice A2 l.length cN1) l) := ⟨Dy.below (by with_reducible repeat (first | exact HY1.out | refine Dy.alloc ?_ _ | refine Dy.drew ?_)) q1⟩
  replace HY3 : Aside0 (Dy u1_1 (.slice A4 l.length cN3) l) := ⟨Dy.below (by with_reducible repeat (first | exact HY3.out | refine Dy.alloc ?_ _ | refine Dy.drew ?_)) q1⟩
  replace HB0 : Aside0 (Blk u1_1 (w.heap.size) 35 [.slice A n c, .int .i16 tub, .int .i8 every, .int .i16 today]) := ⟨Blk.below (by with_reducible repeat (first | exact HB0.out | refine Blk.alloc ?_ _ | refine Rw.alloc ?_ _ | refine Arg.alloc ?_ _ | apply below_alloc | refine Blk.drew ?_ | refine Rw.drew ?_ | refine Arg.drew ?_ | apply below_drew | refine Blk.drewN ?_ _ | refine Rw.drewN ?_ _ | refine Arg.drewN ?_ _ | apply pw_below_drewN)) q1⟩
  replace HVX : Aside0 (Blk u1_1 (w6.heap.size) 40 [.slice (some ⟨g3, 0, none⟩) n n, .int .i16 tub, .int .i8 every, .int .i16 today]) := ⟨Blk.below (by with_reducible repeat (first | exact HVX.out | refine Blk.alloc ?_ _ | refine Rw.alloc ?_ _ | refine Arg.alloc ?_ _ | apply below_alloc | refine Blk.drew ?_ | refine Rw.drew ?_ | refine Arg.drew ?_ | apply below_drew | refine Blk.drewN ?_ _ | refine Rw.drewN ?_ _ | refine Arg.drewN ?_ _ | apply pw_below_drewN)) q1⟩
  replace HR1 : Aside0 (Rw u1_1 g1 n f) := ⟨Rw.below (by with_reducible repeat (first | exact HR1.out | refine Blk.alloc ?_ _ | refine Rw.alloc ?_ _ | refine Arg.alloc ?_ _ | apply below_alloc | refine Blk.drew ?_ | refine Rw.drew ?_ | refine Arg.drew ?_ | apply below_drew | refine Blk.drewN ?_ _ | refine Rw.drewN ?_ _ | refine Arg.drewN ?_ _ | apply pw_below_drewN)) q1⟩
  replace HR3 : Aside0 (Rw u1_1 g3 n f) := ⟨Rw.below (by with_reducible repeat (first | exact HR3.out | refine Blk.alloc ?_ _ | refine Rw.alloc ?_ _ | refine Arg.alloc ?_ _ | apply below_alloc | refine Blk.drew ?_ | refine Rw.drew ?_ | refine Arg.drew ?_ | apply below_drew | refine Blk.drewN ?_ _ | refine Rw.drewN ?_ _ | refine Arg.drewN ?_ _ | apply pw_below_drewN)) q1⟩
  replace HW : Aside0 (Below w.heap.size w u1_1) := ⟨below_step (by with_reducible repeat (first | exact HW.out | refine Blk.alloc ?_ _ | refine Rw.alloc ?_ _ | refine Arg.alloc ?_ _ | apply below_alloc | refine Blk.drew ?_ | refine Rw.drew ?_ | refine Arg.drew ?_ | apply below_drew | refine Blk.drewN ?_ _ | refine Rw.drewN ?_ _ | refine Arg.drewN ?_ _ | apply pw_below_drewN)) q1⟩
  clear q1
  clear hY1 hy1
  go_wp2_with (fail)
  refine (HTS.out _ (Kd.C_below HL.out (by with_reducible repeat (first | exact HW.out | refine Blk.alloc ?_ _ | refine Rw.alloc ?_ _ | refine Arg.alloc ?_ _ | apply below_alloc | refine Blk.drew ?_ | refine Rw.drew ?_ | refine Arg.drew ?_ | apply below_drew | refine Blk.drewN ?_ _ | refine Rw.drewN ?_ _ | refine Arg.drewN ?_ _ | apply pw_below_drewN)))).mono ?_
  rintro e w9 ⟨A5, cN5, rfl, hc_HY5, hY_, hb⟩
  have hs_w9 := Below.size hb
  (try simp at hs_w9)
  replace HY1 : Aside0 (Dy w9 (.slice A2 l.length cN1) l) := ⟨Dy.below (by with_reducible repeat (first | exact HY1.out | refine Dy.alloc ?_ _ | refine Dy.drew ?_)) hb⟩
  replace HY3 : Aside0 (Dy w9 (.slice A4 l.length cN3) l) := ⟨Dy.below (by with_reducible repeat (first | exact HY3.out | refine Dy.alloc ?_ _ | refine Dy.drew ?_)) hb⟩
  replace HB0 : Aside0 (Blk w9 (w.heap.size) 35 [.slice A n c, .int .i16 tub, .int .i8 every, .int .i16 today]) := ⟨Blk.below (by with_reducible repeat (first | exact HB0.out | refine Blk.alloc ?_ _ | refine Rw.alloc ?_ _ | refine Arg.alloc ?_ _ | apply below_alloc | refine Blk.drew ?_ | refine Rw.drew ?_ | refine Arg.drew ?_ | apply below_drew | refine Blk.drewN ?_ _ | refine Rw.drewN ?_ _ | refine Arg.drewN ?_ _ | apply pw_below_drewN)) hb⟩
  replace HVX : Aside0 (Blk w9 (w6.heap.size) 40 [.slice (some ⟨g3, 0, none⟩) n n, .int .i16 tub, .int .i8 every, .int .i16 today]) := ⟨Blk.below (by with_reducible repeat (first | exact HVX.out | refine Blk.alloc ?_ _ | refine Rw.alloc ?_ _ | refine Arg.alloc ?_ _ | apply below_alloc | refine Blk.drew ?_ | refine Rw.drew ?_ | refine Arg.drew ?_ | apply below_drew | refine Blk.drewN ?_ _ | refine Rw.drewN ?_ _ | refine Arg.drewN ?_ _ | apply pw_below_drewN)) hb⟩
  replace HR1 : Aside0 (Rw w9 g1 n f) := ⟨Rw.below (by with_reducible repeat (first | exact HR1.out | refine Blk.alloc ?_ _ | refine Rw.alloc ?_ _ | refine Arg.alloc ?_ _ | apply below_alloc | refine Blk.drew ?_ | refine Rw.drew ?_ | refine Arg.drew ?_ | apply below_drew | refine Blk.drewN ?_ _ | refine Rw.drewN ?_ _ | refine Arg.drewN ?_ _ | apply pw_below_drewN)) hb⟩
  replace HR3 : Aside0 (Rw w9 g3 n f) := ⟨Rw.below (by with_reducible repeat (first | exact HR3.out | refine Blk.alloc ?_ _ | refine Rw.alloc ?_ _ | refine Arg.alloc ?_ _ | apply below_alloc | refine Blk.drew ?_ | refine Rw.drew ?_ | refine Arg.drew ?_ | apply below_drew | refine Blk.drewN ?_ _ | refine Rw.drewN ?_ _ | refine Arg.drewN ?_ _ | apply pw_below_drewN)) hb⟩
  replace HW : Aside0 (Below w.heap.size w w9) := ⟨below_step (by with_reducible repeat (first | exact HW.out | refine Blk.alloc ?_ _ | refine Rw.alloc ?_ _ | refine Arg.alloc ?_ _ | apply below_alloc | refine Blk.drew ?_ | refine Rw.drew ?_ | refine Arg.drew ?_ | apply below_drew | refine Blk.drewN ?_ _ | refine Rw.drewN ?_ _ | refine Arg.drewN ?_ _ | apply pw_below_drewN)) hb⟩
  clear hb
  have HY5 : Aside0 (Dy w9 (.slice A5 l.length cN5) l) := ⟨hY_⟩
  clear hY_
  go_wp2_with (fail)
  refine (HES.out _ _ _ (by with_reducible repeat (first | exact HY3.out | refine Dy.alloc ?_ _ | refine Dy.drew ?_)) (by with_reducible repeat (first | exact HY5.out | refine Dy.alloc ?_ _ | refine Dy.drew ?_))).mono ?_
  rintro e w10 ⟨rfl, hb⟩
  have hs_w10 := Below.size hb
  (try simp at hs_w10)
  replace HY1 : Aside0 (Dy w10 (.slice A2 l.length cN1) l) := ⟨Dy.below (by with_reducible repeat (first | exact HY1.out | refine Dy.alloc ?_ _ | refine Dy.drew ?_)) hb⟩
  replace HY3 : Aside0 (Dy w10 (.slice A4 l.length cN3) l) := ⟨Dy.below (by with_reducible repeat (first | exact HY3.out | refine Dy.alloc ?_ _ | refine Dy.drew ?_)) hb⟩
  replace HY5 : Aside0 (Dy w10 (.slice A5 l.length cN5) l) := ⟨Dy.below (by with_reducible repeat (first | exact HY5.out | refine Dy.alloc ?_ _ | refine Dy.drew ?_)) hb⟩
  replace HB0 : Aside0 (Blk w10 (w.heap.size) 35 [.slice A n c, .int .i16 tub, .int .i8 every, .int .i16 today]) := ⟨Blk.below (by with_reducible repeat (first | exact HB0.out | refine Blk.alloc ?_ _ | refine Rw.alloc ?_ _ | refine Arg.alloc ?_ _ | apply below_alloc | refine Blk.drew ?_ | refine Rw.drew ?_ | refine Arg.drew ?_ | apply below_drew | refine Blk.drewN ?_ _ | refine Rw.drewN ?_ _ | refine Arg.drewN ?_ _ | apply pw_below_drewN)) hb⟩
  replace HVX : Aside0 (Blk w10 (w6.heap.size) 40 [.slice (some ⟨g3, 0, none⟩) n n, .int .i16 tub, .int .i8 every, .int .i16 today]) := ⟨Blk.below (by with_reducible repeat (first | exact HVX.out | refine Blk.alloc ?_ _ | refine Rw.alloc ?_ _ | refine Arg.alloc ?_ _ | apply below_alloc | refine Blk.drew ?_ | refine Rw.drew ?_ | refine Arg.drew ?_ | apply below_drew | refine Blk.drewN ?_ _ | refine Rw.drewN ?_ _ | refine Arg.drewN ?_ _ | apply pw_below_drewN)) hb⟩
  replace HR1 : Aside0 (Rw w10 g1 n f) := ⟨Rw.below (by with_reducible repeat (first | exact HR1.out | refine Blk.alloc ?_ _ | refine Rw.alloc ?_ _ | refine Arg.alloc ?_ _ | apply below_alloc | refine Blk.drew ?_ | refine Rw.drew ?_ | refine Arg.drew ?_ | apply below_drew | refine Blk.drewN ?_ _ | refine Rw.drewN ?_ _ | refine Arg.drewN ?_ _ | apply pw_below_drewN)) hb⟩
  replace HR3 : Aside0 (Rw w10 g3 n f) := ⟨Rw.below (by with_reducible repeat (first | exact HR3.out | refine Blk.alloc ?_ _ | refine Rw.alloc ?_ _ | refine Arg.alloc ?_ _ | apply below_alloc | refine Blk.drew ?_ | refine Rw.drew ?_ | refine Arg.drew ?_ | apply below_drew | refine Blk.drewN ?_ _ | refine Rw.drewN ?_ _ | refine Arg.drewN ?_ _ | apply pw_below_drewN)) hb⟩
  replace HW : Aside0 (Below w.heap.size w w10) := ⟨below_step (by with_reducible repeat (first | exact HW.out | refine Blk.alloc ?_ _ | refine Rw.alloc ?_ _ | refine Arg.alloc ?_ _ | apply below_alloc | refine Blk.drew ?_ | refine Rw.drew ?_ | refine Arg.drew ?_ | apply below_drew | refine Blk.drewN ?_ _ | refine Rw.drewN ?_ _ | refine Arg.drewN ?_ _ | apply pw_below_drewN)) hb⟩
  clear hb
  go_wp2
  go_ret
  exact ⟨rfl, HW.out⟩
set_option maxHeartbeats 8000000 in
set_option maxRecDepth 100000 in
theorem lawFS_calls (A A1 : Option Addr) (f : Nat → Int) (n c c1 : Nat) (l : List (List Int)) (tub every today : Int) (hm : (n : Int) ≤ 9223372036854775807) (hR : Rng f n) (ht : -32768 ≤ tub ∧ tub ≤ 32767) (hv : -128 ≤ every ∧ every ≤ 127) (hd : -32768 ≤ today ∧ today ≤ 32767) (hc1 : l.length ≤ c1) (w : World) (hA : Arg w n f A) (hL : (Kd.slice 2 (Kd.int .i64)).C w A1 l.length l) :
    Calls Try.prog 15 #[.agg #[.slice A n c, .int .i16 tub, .int .i8 every, .int .i16 today], .slice A1 l.length c1] w fun e w' => e = .returned (.bool true) ∧ Below w.heap.size w w' := by
  by_cases hn : n ≤ 1048576
  · obtain ⟨r, hrl, hsz⟩ := szSS_calls A1 c1 l ((1048576 : Int) - (n : Int)) (by omega) (by omega) hc1 w hL
    by_cases hr : 0 ≤ r
    · have hl := hrl hr
      have hlm : ∀ i, (l.getD i []).length ≤ 1048576 := by
        intro i
        rw [List.getD_eq_getElem?_getD]
        rcases Nat.lt_or_ge i l.length with hi | hi
        · rw [List.getElem?_eq_getElem hi]
          have := row_le (List.getElem_mem hi)
          show l[i].length ≤ _
          omega
        · rw [List.getElem?_eq_none hi]; simp
      by_cases hz : daCode f n l tub every today = 0
      · obtain ⟨h1, h2, h3, h4⟩ := daCode_zero hz
        have hS : (daS f l n tub every today l.length).length ≤ 60 := by rw [daS_len]; exact h4
        have hSn := daS_row f l n tub every today h2.2
        obtain ⟨a, b, code, hFS⟩ := FSp_ex (daS f l n tub every today l.length) (daS f l n tub every today l.length).length
        exact lawFS A A1 f n c c1 l tub every today a b code r hr hn hl hc1 hsz (fun g c A cD W h hc h' => specFS_ok f n c g l A cD tub every today _ _ _ _ _ (fun W h h' => hz ▸ specDA f n c g l A cD tub every today hn hlm hl.1 hc hR ht hv hd W h h') hS (hSn _) hFS W h h') (fun g c A cD W h hc h' => implFS_ok f n c g l A cD tub every today _ _ _ _ _ (fun W h h' => hz ▸ implDA f n c g l A cD tub every today hn hlm hl.1 hc hR ht hv hd W h h') hS (hSn _) hFS W h h') w hA hL
      · exact lawFS A A1 f n c c1 l tub every today 0 0 _ r hr hn hl hc1 hsz (fun g c A cD W h hc h' => specFS_bad f n c g l A cD tub every today _ _ _ (fun W h h' => specDA f n c g l A cD tub every today hn hlm hl.1 hc hR ht hv hd W h h') hz W h h') (fun g c A cD W h hc h' => implFS_bad f n c g l A cD tub every today _ _ _ (fun W h h' => implDA f n c g l A cD tub every today hn hlm hl.1 hc hR ht hv hd W h h') hz W h h') w hA hL
    · have HSZ := Aside0.mk (fun W => szHouse_calls A n c tub every today 1048576 (by omega) (by omega) W)
      have hn1 : ¬ ((1048576 : Int) - (n : Int) < 0) := by omega
      rw [if_neg hn1] at HSZ
      have hn2 : 0 ≤ (1048576 : Int) - (n : Int) := by omega
      have HSR := Aside0.mk hsz
      have hr1 : r < 0 := by omega
      obtain ⟨left, hleft⟩ : ∃ left, (1048576 : Int) - (n : Int) = left := ⟨_, rfl⟩
      rw [hleft] at HSZ HSR hn2
      have HW : Aside0 (Below w.heap.size w (w.alloc (.cells #[.slice A n c, .int .i16 tub, .int .i8 every, .int .i16 today] 35))) := ⟨below_alloc (Below.refl _ _) _⟩
      have HB0 : Aside0 (Blk (w.alloc (.cells #[.slice A n c, .int .i16 tub, .int .i8 every, .int .i16 today] 35)) w.heap.size 35 [.slice A n c, .int .i16 tub, .int .i8 every, .int .i16 today]) := ⟨Blk.new w _ _⟩
      have HL := Aside0.mk hL
      clear hA hL hR ht hv hd hn hn1 hm hsz hleft hrl hr
      go_enter Try.func15, Try.ntmps15
      go_wp2_with (first | (refine wl_load (by rfl) 35 _ (by rfl) (w.heap.size) 0 (by rfl) 35 4 [.slice A n c, .int .i16 tub, .int .i8 every, .int .i16 today] [.slice A n c, .int .i16 tub, .int .i8 every, .int .i16 today] (by with_reducible repeat (first | exact HB0.out | refine Blk.alloc ?_ _ | refine Rw.alloc ?_ _ | refine Arg.alloc ?_ _ | apply below_alloc | refine Blk.drew ?_ | refine Rw.drew ?_ | refine Arg.drew ?_ | apply below_drew | refine Blk.drewN ?_ _ | refine Rw.drewN ?_ _ | refine Arg.drewN ?_ _ | apply pw_below_drewN)) (by rfl) (by rfl) _ Try.underlying35 (by rfl) (by kernel_rfl) ?_))
      refine (HSZ.out _).mono ?_
      rintro e w1 ⟨rfl, hb⟩
      have hs_w1 := Below.size hb
      (try simp at hs_w1)
      replace HB0 : Aside0 (Blk w1 (w.heap.size) 35 [.slice A n c, .int .i16 tub, .int .i8 every, .int .i16 today]) := ⟨Blk.below (by with_reducible repeat (first | exact HB0.out | refine Blk.alloc ?_ _ | refine Rw.alloc ?_ _ | refine Arg.alloc ?_ _ | apply below_alloc | refine Blk.drew ?_ | refine Rw.drew ?_ | refine Arg.drew ?_ | apply below_drew | refine Blk.drewN ?_ _ | refine Rw.drewN ?_ _ | refine Arg.drewN ?_ _ | apply pw_below_drewN)) hb⟩
      replace HW : Aside0 (Below w.heap.size w w1) := ⟨below_step (by with_reducible repeat (first | exact HW.out | refine Blk.alloc ?_ _ | refine Rw.alloc ?_ _ | refine Arg.alloc ?_ _ | apply below_alloc | refine Blk.drew ?_ | refine Rw.drew ?_ | refine Arg.drew ?_ | apply below_drew | refine Blk.drewN ?_ _ | refine Rw.drewN ?_ _ | refine Arg.drewN ?_ _ | apply pw_below_drewN)) hb⟩
      clear hb
      go_wp2_with (fail)
      refine (HSR.out _ (Kd.C_below HL.out (by with_reducible repeat (first | exact HW.out | refine Blk.alloc ?_ _ | refine Rw.alloc ?_ _ | refine Arg.alloc ?_ _ | apply below_alloc | refine Blk.drew ?_ | refine Rw.drew ?_ | refine Arg.drew ?_ | apply below_drew | refine Blk.drewN ?_ _ | refine Rw.drewN ?_ _ | refine Arg.drewN ?_ _ | apply pw_below_drewN)))).mono ?_
      rintro e w2 ⟨rfl, hb⟩
      have hs_w2 := Below.size hb
      (try simp at hs_w2)
      replace HB0 : Aside0 (Blk w2 (w.heap.size) 35 [.slice A n c, .int .i16 tub, .int .i8 every, .int .i16 today]) := ⟨Blk.below (by with_reducible repeat (first | exact HB0.out | refine Blk.alloc ?_ _ | refine Rw.alloc ?_ _ | refine Arg.alloc ?_ _ | apply below_alloc | refine Blk.drew ?_ | refine Rw.drew ?_ | refine Arg.drew ?_ | apply below_drew | refine Blk.drewN ?_ _ | refine Rw.drewN ?_ _ | refine Arg.drewN ?_ _ | apply pw_below_drewN)) hb⟩
      replace HW : Aside0 (Below w.heap.size w w2) := ⟨below_step (by with_reducible repeat (first | exact HW.out | refine Blk.alloc ?_ _ | refine Rw.alloc ?_ _ | refine Arg.alloc ?_ _ | apply below_alloc | refine Blk.drew ?_ | refine Rw.drew ?_ | refine Arg.drew ?_ | apply below_drew | refine Blk.drewN ?_ _ | refine Rw.drewN ?_ _ | refine Arg.drewN ?_ _ | apply pw_below_drewN)) hb⟩
      clear hb
      go_wp2
      go_ret
      exact ⟨rfl, HW.out⟩
  · have HSZ := Aside0.mk (fun W => szHouse_calls A n c tub every today 1048576 hm (by omega) W)
    have hn1 : (1048576 : Int) - (n : Int) < 0 := by omega
    rw [if_pos hn1] at HSZ
    have HW : Aside0 (Below w.heap.size w (w.alloc (.cells #[.slice A n c, .int .i16 tub, .int .i8 every, .int .i16 today] 35))) := ⟨below_alloc (Below.refl _ _) _⟩
    have HB0 : Aside0 (Blk (w.alloc (.cells #[.slice A n c, .int .i16 tub, .int .i8 every, .int .i16 today] 35)) w.heap.size 35 [.slice A n c, .int .i16 tub, .int .i8 every, .int .i16 today]) := ⟨Blk.new w _ _⟩
    have HL := Aside0.mk hL
    clear hA hR ht hv hd hn hn1 hm hL
    go_enter Try.func15, Try.ntmps15
    go_wp2_with (first | (refine wl_load (by rfl) 35 _ (by rfl) (w.heap.size) 0 (by rfl) 35 4 [.slice A n c, .int .i16 tub, .int .i8 every, .int .i16 today] [.slice A n c, .int .i16 tub, .int .i8 every, .int .i16 today] (by with_reducible repeat (first | exact HB0.out | refine Blk.alloc ?_ _ | refine Rw.alloc ?_ _ | refine Arg.alloc ?_ _ | apply below_alloc | refine Blk.drew ?_ | refine Rw.drew ?_ | refine Arg.drew ?_ | apply below_drew | refine Blk.drewN ?_ _ | refine Rw.drewN ?_ _ | refine Arg.drewN ?_ _ | apply pw_below_drewN)) (by rfl) (by rfl) _ Try.underlying35 (by rfl) (by kernel_rfl) ?_))
    refine (HSZ.out _).mono ?_
    rintro e w1 ⟨rfl, hb⟩
    have hs_w1 := Below.size hb
    (try simp at hs_w1)
    replace HB0 : Aside0 (Blk w1 (w.heap.size) 35 [.slice A n c, .int .i16 tub, .int .i8 every, .int .i16 today]) := ⟨Blk.below (by with_reducible repeat (first | exact HB0.out | refine Blk.alloc ?_ _ | refine Rw.alloc ?_ _ | refine Arg.alloc ?_ _ | apply below_alloc | refine Blk.drew ?_ | refine Rw.drew ?_ | refine Arg.drew ?_ | apply below_drew | refine Blk.drewN ?_ _ | refine Rw.drewN ?_ _ | refine Arg.drewN ?_ _ | apply pw_below_drewN)) hb⟩
    replace HW : Aside0 (Below w.heap.size w w1) := ⟨below_step (by with_reducible repeat (first | exact HW.out | refine Blk.alloc ?_ _ | refine Rw.alloc ?_ _ | refine Arg.alloc ?_ _ | apply below_alloc | refine Blk.drew ?_ | refine Rw.drew ?_ | refine Arg.drew ?_ | apply below_drew | refine Blk.drewN ?_ _ | refine Rw.drewN ?_ _ | refine Arg.drewN ?_ _ | apply pw_below_drewN)) hb⟩
    clear hb
    go_wp2
    go_ret
    exact ⟨rfl, HW.out⟩
end Go.Proofs.Ytjmnbikaijphlaa.X
