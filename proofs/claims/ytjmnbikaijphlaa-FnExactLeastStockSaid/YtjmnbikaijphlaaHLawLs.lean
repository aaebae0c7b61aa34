/- Contracts of functions, and plain facts: what each call answers, and what it leaves as it was. -/
import Derived.Test.YtjmnbikaijphlaaHLsF
import Derived.Test.YtjmnbikaijphlaaHMark
set_option linter.unusedVariables false
set_option linter.unusedSimpArgs false
namespace Go.Proofs.Ytjmnbikaijphlaa.X
open Go.RowKit Go.Proofs.YtjmnbikaijphlaaW.PrintWords Go.Proofs.YtjmnbikaijphlaaW.PrintLast Go.Proofs.YtjmnbikaijphlaaW.PrintMore
attribute [local go_sem] max2_int min2_int max_two min_two max_three min_three max_four min_four
set_option maxHeartbeats 8000000 in
set_option maxRecDepth 100000 in
theorem l05Lasts_calls (p tub every : Int) (N : Nat → Int) (m gN cN : Nat) (r : Int) (hp : 0 ≤ p ∧ p ≤ 500) (ht : 0 ≤ tub ∧ tub ≤ 1000) (hv : 1 ≤ every ∧ every ≤ 7) (hm : m ≤ 60) (hN : ∀ i, i < m → 0 ≤ N i ∧ N i ≤ 500) (A : Option Addr) (hr1 : ∀ i : Nat, FI (lsS p tub every N) m i → r = (i : Int)) (hr2 : FI (lsS p tub every N) m (-1) → r = (m : Int)) (w : World) (hA : NdA w A m N) :
    Calls Try.prog 89 #[.int .i64 p, .int .i64 tub, .int .i64 every, .slice A m cN] w fun e w' => e = .returned (.int .i64 r) ∧ Below w.heap.size w w' := by
  have HA := Aside0.mk hA
  have HFR := Aside0.mk (fun W => l05Fresh_lit p hp W)
  have HR1 := Aside0.mk hr1
  have HR2 := Aside0.mk hr2
  have HNN := Aside0.mk hN
  have HFF := Aside0.mk (fun i hi => lsF_fine (m := m) (every := every) hp ht.1 (fun i hi => (hN i hi).1) i hi)
  have h16 : IntKind.i16.wrap tub = tub := IntWalk.i16_in _ ⟨by omega, by omega⟩
  have h8 : IntKind.i8.wrap every = every := IntWalk.i8_in _ ⟨by omega, by omega⟩
  have HDY : Aside0 (∀ (i g1 hb gs : Nat) (W : World), i < m → gs ≠ g1 → gs ≠ hb → hb ≠ g1 → Blk W hb 40 (hcells (some ⟨g1, 0, none⟩) 1 1 tub every (i : Int)) → Rw W g1 1 (lsF p tub every N i) → Nd W gs 1 (fun _ => N i) → _) := ⟨fun i g1 hb gs W hi e1 e2 e3 hH hB hNd => l05Day_nd (lsF p tub every N i) (fun _ => N i) 1 1 g1 hb gs 1 tub every i ⟨by decide, by decide⟩ (lsF_fine hp ht.1 (fun i hi => (hN i hi).1) i (by omega)) (needB_one (hN i hi)) ht hv ⟨by omega, by omega⟩ e1 e2 e3 W hH hB hNd⟩
  have HW : Aside0 (Below w.heap.size w w) := ⟨Below.refl _ _⟩
  have ht9 := ht
  have hv9 := hv
  clear hA hr1 hr2 hN hp ht hv
  go_enter Try.func89, Try.ntmps89
  go_wp2_with fail
  refine (HFR.out _).mono ?_
  rintro e w1 ⟨rfl, hb_⟩
  replace HW : Aside0 (Below w.heap.size w w1) := ⟨hb_⟩
  have hz1 := hb_.size
  clear hb_ HFR
  go_wp2_with fail
  obtain ⟨g1, hg1⟩ : ∃ g1, w1.heap.size = g1 := ⟨_, rfl⟩
  have HRW : Aside0 (Rw ((w1.alloc (.cells #[.int .i16 0, .int .i16 0, .int .i16 0, .int .i16 0, .int .i16 0, .int .i16 0, .int .i16 0, .int .i16 (p), .int .i16 0, .int .i16 0, .int .i16 0, .int .i16 0, .int .i16 0, .int .i16 0, .int .i16 0, .int .i16 0, .int .i16 0, .int .i16 0, .int .i16 0, .int .i16 0, .int .i16 0, .int .i16 0, .int .i16 0, .int .i16 0, .int .i32 0] 27)).alloc (.cells #[.slice (some ⟨g1, 0, none⟩) 1 1, .int .i16 tub, .int .i8 every, .int .i16 0] 40)) g1 1 (lsF p tub every N 0)) := ⟨by subst hg1; exact Rw.alloc (Rw.of_blk (f := newF fun _ => p) (Blk.new w1 _ _)) _⟩
  have HX : Aside0 (Blk ((w1.alloc (.cells #[.int .i16 0, .int .i16 0, .int .i16 0, .int .i16 0, .int .i16 0, .int .i16 0, .int .i16 0, .int .i16 (p), .int .i16 0, .int .i16 0, .int .i16 0, .int .i16 0, .int .i16 0, .int .i16 0, .int .i16 0, .int .i16 0, .int .i16 0, .int .i16 0, .int .i16 0, .int .i16 0, .int .i16 0, .int .i16 0, .int .i16 0, .int .i16 0, .int .i32 0] 27)).alloc (.cells #[.slice (some ⟨g1, 0, none⟩) 1 1, .int .i16 tub, .int .i8 every, .int .i16 0] 40)) (g1 + 1) 40 (hcells (some ⟨g1, 0, none⟩) 1 1 tub every ((0 : Nat) : Int))) := ⟨Blk.at_ (by simp; omega) rfl⟩
  replace HW : Aside0 (Below w.heap.size w ((w1.alloc (.cells #[.int .i16 0, .int .i16 0, .int .i16 0, .int .i16 0, .int .i16 0, .int .i16 0, .int .i16 0, .int .i16 (p), .int .i16 0, .int .i16 0, .int .i16 0, .int .i16 0, .int .i16 0, .int .i16 0, .int .i16 0, .int .i16 0, .int .i16 0, .int .i16 0, .int .i16 0, .int .i16 0, .int .i16 0, .int .i16 0, .int .i16 0, .int .i16 0, .int .i32 0] 27)).alloc (.cells #[.slice (some ⟨g1, 0, none⟩) 1 1, .int .i16 tub, .int .i8 every, .int .i16 0] 40))) := ⟨below_alloc (below_alloc HW.out _) _⟩
  rw [hg1]
  have hgw : w.heap.size ≤ g1 := by omega
  clear hg1 hz1
  go_loopw [10] (fun v10 w' => ∃ i : Nat, i ≤ m ∧ v10 = .int .i64 i ∧ Aside0 (∀ j, j < i → lsS p tub every N j ≤ 0) ∧ Aside0 (Rw w' g1 1 (lsF p tub every N i)) ∧ Aside0 (Blk w' (g1 + 1) 40 (hcells (some ⟨g1, 0, none⟩) 1 1 tub every (i : Int))) ∧ Aside0 (Below w.heap.size w w')) (fun v10 _ => m - (intOf v10).toNat)
  case atStart => exact ⟨0, by omega, rfl, ⟨fun j hj => by omega⟩, HRW, HX, HW⟩
  case round =>
    clear HRW HX HW
    obtain ⟨i, hi, rfl, HP, HR, HH, HW⟩ := hrel
    obtain ⟨wo, rfl⟩ : ∃ wo : World, wo = wr := ⟨_, rfl⟩
    have hi9 : IntKind.i64.wrap ((i : Int) + 1) = (i : Int) + 1 := IntWalk.i64_in _ ⟨by omega, by omega⟩
    by_cases hlt : i < m
    · have hii : (i : Int) < (m : Int) := by omega
      obtain ⟨gN, hgN, hNd⟩ := (HA.out.below HW.out) (by omega)
      subst hgN
      have cn := hNd.at (k := i) (j := i) hlt rfl
      clear hNd
      have hz1 := HH.out.lt
      have hz2 := HR.out.lt
      have HC := Aside0.mk (HDY.out i g1 (g1 + 1) wo.heap.size (wo.alloc (.cells #[.int .i64 (N i)] 2)) hlt (by omega) (by omega) (by omega) (HH.out.alloc _) (HR.out.alloc _) ⟨by simp, fun k hk => by obtain rfl : k = 0 := (by omega); exact (Blk.new wo _ [.int .i64 (N i)]).cell 0 (v := .int .i64 (N i)) rfl⟩)
      have HF : Aside0 (lsF p tub every N (i + 1) = dayF (lsF p tub every N i) (fun _ => N i) 1 tub every (i : Int)) := ⟨rfl⟩
      have HS0 : Aside0 (lsS p tub every N i = (shL (lsF p tub every N i) (fun _ => N i) 1).getD 0 0) := ⟨rfl⟩
      go_wp2_with fail
      refine HC.out.mono ?_
      rintro e w5 ⟨gv, cv, S, rfl, hV_, hS_, hR_, hH_, hk_⟩
      have c0 := hV_.at (k := 0) (j := 0) (by omega) rfl
      have HE : Aside0 (S 0 = lsS p tub every N i) := ⟨by rw [HS0.out]; exact hS_ 0⟩
      have HR5 : Aside0 (Rw w5 g1 1 (lsF p tub every N (i + 1))) := ⟨by rw [HF.out]; exact hR_⟩
      have HH5 : Aside0 (Blk w5 (g1 + 1) 40 (hcells (some ⟨g1, 0, none⟩) 1 1 tub every ((i + 1 : Nat) : Int))) := ⟨by rw [show ((i + 1 : Nat) : Int) = (i : Int) + 1 by omega]; exact hH_⟩
      have HW5 : Aside0 (Below w.heap.size w w5) := ⟨below_kept (below_alloc HW.out _) hk_ (by rintro k_ (rfl | rfl) <;> omega)⟩
      clear hV_ hS_ hR_ hH_ hk_ HR HH HW HC HF HS0
      rw [HE.out] at c0
      have HE2 : Aside0 (0 < lsS p tub every N i → r = (i : Int)) := ⟨fun h => HR1.out i (.inl ⟨i, hlt, h, HP.out, rfl⟩)⟩
      have HP2 : Aside0 (lsS p tub every N i ≤ 0 → ∀ j, j < i + 1 → lsS p tub every N j ≤ 0) := ⟨fun h j hj => by rcases Nat.lt_or_ge j i with h_ | h_; exact HP.out j h_; (have : j = i := by omega); subst this; exact h⟩
      clear HE HP
      generalize hs9 : lsS p tub every N i = s at *
      clear hs9
      by_cases hs : 0 < s
      · have HE3 := Aside0.mk (HE2.out hs)
        go_wp2
        go_ret
        exact ⟨by rw [HE3.out]; rfl, HW5.out⟩
      · have HP3 := Aside0.mk (HP2.out (by omega))
        go_wp2
        go_roundw
        case rel => exact ⟨i + 1, by omega, by go_num, HP3, HR5, HH5, HW5⟩
        case measure => simp [intOf] <;> omega
    · have ek : i = m := by omega
      subst ek
      have HE : Aside0 (r = (i : Int)) := ⟨HR2.out (.inr ⟨fun j hj => HP.out j (by omega), rfl⟩)⟩
      go_wp2
      go_ret
      exact ⟨by rw [HE.out]; rfl, HW.out⟩
theorem keep_q {f : FuncId} {args : Array Value} {E : Ending} {w : World} (h : Calls Try.prog f args w fun e w' => e = E ∧ w' = w) : Calls Try.prog f args w fun e w' => e = E ∧ w = w' := h.mono (fun e w' hh => ⟨hh.1, hh.2.symm⟩)
theorem lsDs_false {l : List (List Int)} {kd i : Nat} : ∀ {m : Nat}, lsDs l kd i = false → i ≤ m → lsDs l kd m = false
  | 0, h, hi => by
    have : i = 0 := by omega
    subst this; exact h
  | m + 1, h, hi => by
    rcases Nat.lt_or_ge i (m + 1) with h1 | h1
    · rw [lsDs, lsDs_false h (by omega : i ≤ m)]; rfl
    · have : i = m + 1 := by omega
      subst this; exact h
/-- for how many new pieces nothing is short -/
def lsP (l : List (List Int)) (kd : Nat) (tub every : Int) (p : Nat) : Prop := ∀ i, i < l.length → lsS p tub every (lsN l kd) i ≤ 0
def LSres (l : List (List Int)) (kd : Nat) (tub every a code : Int) : Prop := (lsDs l kd l.length = false → a = 0 ∧ code = 2) ∧ (lsDs l kd l.length = true → ¬ l.length ≤ 60 → a = 0 ∧ code = 3) ∧ (lsDs l kd l.length = true → l.length ≤ 60 → LP (lsP l kd tub every) 501 a code)
theorem LSres_ex (l : List (List Int)) (kd : Nat) (tub every : Int) : ∃ a code, LSres l kd tub every a code := by
  cases h : lsDs l kd l.length
  · exact ⟨0, 2, fun _ => ⟨rfl, rfl⟩, fun h' => (by rw [h] at h'; cases h'), fun h' => (by rw [h] at h'; cases h')⟩
  · by_cases h6 : l.length ≤ 60
    · obtain ⟨a, code, hL⟩ := LP_ex (lsP l kd tub every) 501
      exact ⟨a, code, fun h' => (by rw [h] at h'; cases h'), fun _ h' => absurd h6 h', fun _ _ => hL⟩
    · exact ⟨0, 3, fun h' => (by rw [h] at h'; cases h'), fun _ _ => ⟨rfl, rfl⟩, fun _ h' => absurd h' h6⟩
theorem lsD_range {l : List (List Int)} {kd m : Nat} (h : lsDs l kd m = true) : ∀ i, i < m → 0 ≤ lsN l kd i ∧ lsN l kd i ≤ 500 := fun i hi => by
  have := (lsDs_iff l kd m).1 h i hi
  unfold lsD at this
  rw [Bool.and_eq_true, decide_eq_true_eq, decide_eq_true_eq] at this
  exact this.2
set_option maxHeartbeats 8000000 in
set_option maxRecDepth 100000 in
theorem specLS_no (l : List (List Int)) (A : Option Addr) (cD : Nat) (tub every : Int) (hl : l.length ≤ 1048576) (hlm : ∀ i, (l.getD i []).length ≤ 1048576) (kind : Int) (x1 x2 : Bool) (h1 : decide (0 ≤ kind ∧ kind ≤ 3) = x1) (h2 : (decide (0 ≤ tub ∧ tub ≤ 1000) && decide (1 ≤ every ∧ every ≤ 7)) = x2) (hx : (x1 && x2) = false) (w : World) (hD : Dy w (.slice A l.length cD) l) :
    Calls Try.prog 40 #[.int .i64 kind, .int .i64 tub, .int .i64 every, .slice A l.length cD] w fun e w' => e = .returned (.tuple #[.int .i64 0, .int .i64 2]) ∧ Below w.heap.size w w' := by
  have HIN := Aside0.mk (fun W => keep_q (in_q kind 0 3 W))
  have HTB := Aside0.mk (fun W => keep_q (tub_q tub every W))
  rw [h1] at HIN
  rw [h2] at HTB
  clear h1 h2 hD hlm
  cases x1
  · cases x2
    · go_enter Try.func40, Try.ntmps40
      go_wp2_with (first | (go_at_call 74; refine (HIN.out _).mono ?_; rintro e w' ⟨rfl, rfl⟩) | (go_at_call 75; refine (HTB.out _).mono ?_; rintro e w' ⟨rfl, rfl⟩))
      go_loop [10, 12] (fun v10 v12 => v10 = .bool false ∧ v12 = .int .i64 0) (fun _ _ => 0)
      case atStart => exact ⟨rfl, rfl⟩
      case round =>
        obtain ⟨rfl, rfl⟩ := hrel
        by_cases h0 : 0 < l.length
        · have h0' : (0 : Int) < (l.length : Int) := by omega
          go_wp2
          go_ret2
          exact ⟨rfl, below_alloc (Below.refl _ _) _⟩
        · have h0' : ¬ (0 : Int) < (l.length : Int) := by omega
          go_wp2
          go_ret2
          exact ⟨rfl, below_alloc (Below.refl _ _) _⟩
    · go_enter Try.func40, Try.ntmps40
      go_wp2_with (first | (go_at_call 74; refine (HIN.out _).mono ?_; rintro e w' ⟨rfl, rfl⟩) | (go_at_call 75; refine (HTB.out _).mono ?_; rintro e w' ⟨rfl, rfl⟩))
      go_loop [10, 12] (fun v10 v12 => v10 = .bool false ∧ v12 = .int .i64 0) (fun _ _ => 0)
      case atStart => exact ⟨rfl, rfl⟩
      case round =>
        obtain ⟨rfl, rfl⟩ := hrel
        by_cases h0 : 0 < l.length
        · have h0' : (0 : Int) < (l.length : Int) := by omega
          go_wp2
          go_ret2
          exact ⟨rfl, below_alloc (Below.refl _ _) _⟩
        · have h0' : ¬ (0 : Int) < (l.length : Int) := by omega
          go_wp2
          go_ret2
          exact ⟨rfl, below_alloc (Below.refl _ _) _⟩
  · cases x2
    · go_enter Try.func40, Try.ntmps40
      go_wp2_with (first | (go_at_call 74; refine (HIN.out _).mono ?_; rintro e w' ⟨rfl, rfl⟩) | (go_at_call 75; refine (HTB.out _).mono ?_; rintro e w' ⟨rfl, rfl⟩))
      go_loop [10, 12] (fun v10 v12 => v10 = .bool false ∧ v12 = .int .i64 0) (fun _ _ => 0)
      case atStart => exact ⟨rfl, rfl⟩
      case round =>
        obtain ⟨rfl, rfl⟩ := hrel
        by_cases h0 : 0 < l.length
        · have h0' : (0 : Int) < (l.length : Int) := by omega
          go_wp2
          go_ret2
          exact ⟨rfl, below_alloc (Below.refl _ _) _⟩
        · have h0' : ¬ (0 : Int) < (l.length : Int) := by omega
          go_wp2
          go_ret2
          exact ⟨rfl, below_alloc (Below.refl _ _) _⟩
    · cases hx
set_option maxHeartbeats 8000000 in
set_option maxRecDepth 100000 in
theorem specLS_go (l : List (List Int)) (A : Option Addr) (cD : Nat) (tub every : Int) (hl : l.length ≤ 1048576) (hlm : ∀ i, (l.getD i []).length ≤ 1048576) (kd : Nat) (hkd : kd ≤ 3) (ht : 0 ≤ tub ∧ tub ≤ 1000) (hv : 1 ≤ every ∧ every ≤ 7) (a code : Int) (hres : LSres l kd tub every a code) (w : World) (hD : Dy w (.slice A l.length cD) l) :
    Calls Try.prog 40 #[.int .i64 (kd : Int), .int .i64 tub, .int .i64 every, .slice A l.length cD] w fun e w' => e = .returned (.tuple #[.int .i64 a, .int .i64 code]) ∧ Below w.heap.size w w' := by
  obtain ⟨i0, hi, hz0, hz1, hz2⟩ := info_parts int64Info
  have HI := Aside0.mk (And.intro hi (And.intro hz0 (And.intro hz1 hz2)))
  have HIN := Aside0.mk (fun W => keep_q (in_q (kd : Int) 0 3 W))
  have HTB := Aside0.mk (fun W => keep_q (tub_q tub every W))
  have HCT := Aside0.mk (fun x W => keep_q (count_q x W))
  rw [decide_eq_true (show 0 ≤ (kd : Int) ∧ (kd : Int) ≤ 3 by omega)] at HIN
  rw [decide_eq_true ht, decide_eq_true hv] at HTB
  have HDD := Aside0.mk hD
  have HRES := Aside0.mk hres
  have HHL := Aside0.mk hlm
  have ht9 := ht
  have hv9 := hv
  have HV0 : Aside0 ((w.alloc (.cells #[] 2)).ownsRow w.heap.size 2 1 (.slice (some ⟨w.heap.size, 0, none⟩) 0 0) 0 (nums .i64 (lsL l kd 0))) := ⟨World.ownsRow_made w #[] 0 (by exact Nat.le_refl _) (by decide) (by rfl)⟩
  have HW0 : Aside0 (Below w.heap.size w (w.alloc (.cells #[] 2))) := ⟨below_alloc (Below.refl _ _) _⟩
  clear hi hz0 hz1 hz2 ht hv hD hres hlm
  go_enter Try.func40, Try.ntmps40
  go_wp2_with (first | (go_at_call 74; refine (HIN.out _).mono ?_; rintro e w' ⟨rfl, rfl⟩) | (go_at_call 75; refine (HTB.out _).mono ?_; rintro e w' ⟨rfl, rfl⟩))
  go_loopw [10, 11, 12] (fun v10 v11 v12 w' => ∃ (i : Nat) (y : Bool) (v : Value), i ≤ l.length ∧ v10 = .bool y ∧ v11 = v ∧ v12 = .int .i64 i ∧ Aside0 (lsDs l kd i = y) ∧ Aside0 (y = true → w'.ownsRow w.heap.size 2 1 v i (nums .i64 (lsL l kd i))) ∧ Aside0 (Below w.heap.size w w')) (fun _ _ v12 _ => l.length - (intOf v12).toNat)
  case atStart => exact ⟨0, true, _, by omega, rfl, rfl, rfl, ⟨rfl⟩, ⟨fun _ => HV0.out⟩, HW0⟩
  case round =>
    clear HV0 HW0 HIN HTB
    obtain ⟨i, y, v, hi, rfl, rfl, rfl, HY, HVV, HW⟩ := hrel
    obtain ⟨wo, rfl⟩ : ∃ wo : World, wo = wr := ⟨_, rfl⟩
    have hi9 : IntKind.i64.wrap ((i : Int) + 1) = (i : Int) + 1 := IntWalk.i64_in _ ⟨by omega, by omega⟩
    have hwo := Below.size HW.out
    by_cases hlt : i < l.length
    · have hii : (i : Int) < (l.length : Int) := by omega
      cases y
      · have HE := Aside0.mk (HRES.out.1 (lsDs_false HY.out (by omega)))
        go_wp2
        go_ret2
        exact ⟨by rw [HE.out.1, HE.out.2]; rfl, HW.out⟩
      · have HV := Aside0.mk (HVV.out rfl)
        have HS : Aside0 (lsDs l kd (i + 1) = lsD l kd i) := ⟨by rw [lsDs, HY.out]; rfl⟩
        have HLX : Aside0 (lsL l kd (i + 1) = lsL l kd i ++ [lsN l kd i]) := ⟨rfl⟩
        obtain ⟨gD, A', c', hA', cd, hcc, hND⟩ := (HDD.out.below HW.out).at hlt
        subst hA'
        have hle := HHL.out i
        have HDX : Aside0 (lsD l kd i = (decide (kd < (l.getD i []).length) && decide (0 ≤ lsN l kd i ∧ lsN l kd i ≤ 500))) := ⟨rfl⟩
        have HNX : Aside0 ((l.getD i []).getD kd 0 = lsN l kd i) := ⟨rfl⟩
        clear HVV HY
        generalize (l.getD i []).length = mi at *
        by_cases hkl : kd < mi
        · have hki : (kd : Int) < (mi : Int) := by omega
          obtain ⟨gN, hgN, hNd⟩ := hND (by omega)
          subst hgN
          have cn := hNd.at (k := kd) (j := kd) hkl rfl
          rw [HNX.out] at cn
          rw [decide_eq_true hkl, Bool.true_and] at HDX
          clear hNd hND HNX
          have HCK := Aside0.mk (HCT.out (lsN l kd i))
          obtain ⟨t, ht9'⟩ : ∃ t, decide (0 ≤ lsN l kd i ∧ lsN l kd i ≤ 500) = t := ⟨_, rfl⟩
          rw [ht9'] at HCK HDX
          clear ht9'
          generalize lsN l kd i = x at *
          cases t
          · have HY2 : Aside0 (lsDs l kd (i + 1) = false) := ⟨by rw [HS.out, HDX.out]⟩
            clear HV
            go_wp2_with (go_at_call 76; refine (HCK.out _).mono ?_; rintro e w' ⟨rfl, rfl⟩)
            go_roundw
            case rel => exact ⟨i + 1, false, _, by omega, rfl, rfl, by go_num, HY2, ⟨fun h => by cases h⟩, HW⟩
            case measure => simp [intOf] <;> omega
          · have HY2 : Aside0 (lsDs l kd (i + 1) = true) := ⟨by rw [HS.out, HDX.out]⟩
            go_wp2_with (first | (go_at_call 76; refine (HCK.out _).mono ?_; rintro e w' ⟨rfl, rfl⟩) | (refine wpList_append_lies _ (by rfl) _ _ 45 (by rfl) w.heap.size 2 i0 _ 1 8 Try.underlying45 HI.out.1 HI.out.2.1 HI.out.2.2.1 HI.out.2.2.2 (by rfl) (by decide) _ i (nums .i64 (lsL l kd i)) (by rfl) (pw_own_below HV.out (below_alloc (Below.refl _ _) _)) ⟨wo.heap.size, 0, none⟩ 1 1 [.int .i64 x] (by rfl) (by rfl) (by intro j u hj; match j, hj with | 0, hj => (injection hj with hj; subst hj; exact (Blk.new wo _ [.int .i64 x]).cell 0 rfl) | (j + 1), hj => (simp at hj)) (by intro u hu; simp at hu; subst hu; rfl) (by decide) (by unfold maxLen; omega) (by omega) (by simp; omega) _ rfl ?_; intro g' cap' w3 hown hgrow hat hlt'; have HV3 : Aside0 (w3.ownsRow w.heap.size 2 1 (.slice (some ⟨g', 0, none⟩) (i + 1) cap') (i + 1) (nums .i64 (lsL l kd (i + 1)))) := ⟨by rw [HLX.out, ← nums_snoc]; exact hown⟩; have HW3 : Aside0 (Below w.heap.size w w3) := ⟨pw_below_grown (below_alloc HW.out _) _ (by simp; omega) hgrow (fun k_ e_ => own_base HV.out k_ e_)⟩; clear hown hgrow hat hlt' HV HW))
            go_roundw
            case rel => exact ⟨i + 1, true, _, by omega, rfl, rfl, by go_num, HY2, ⟨fun _ => HV3.out⟩, HW3⟩
            case measure => simp [intOf] <;> omega
        · have hki : ¬ (kd : Int) < (mi : Int) := by omega
          have HY2 : Aside0 (lsDs l kd (i + 1) = false) := ⟨by rw [HS.out, HDX.out, decide_eq_false hkl]; rfl⟩
          clear HV hND HNX
          go_wp2
          go_roundw
          case rel => exact ⟨i + 1, false, _, by omega, rfl, rfl, by go_num, HY2, ⟨fun h => by cases h⟩, HW⟩
          case measure => simp [intOf] <;> omega
    · have ek : i = l.length := by omega
      subst ek
      cases y
      · have HE := Aside0.mk (HRES.out.1 HY.out)
        go_wp2
        go_ret2
        exact ⟨by rw [HE.out.1, HE.out.2]; rfl, HW.out⟩
      · by_cases h6 : l.length ≤ 60
        · have hl6 : ¬ (60 : Int) < (l.length : Int) := by omega
          have HLP := Aside0.mk (HRES.out.2.2 HY.out h6)
          have HNN := Aside0.mk (lsD_range HY.out)
          have HIr : Ir wo w.heap.size u11 (lsL l kd l.length) := by unfold Ir; rw [lsL_len]; exact HVV.out rfl
          obtain ⟨A2, c2, hu, hc2, _⟩ := Kd.R_reads HIr.row
          rw [lsL_len] at hu
          subst hu
          have HN2 : Aside0 (NdA wo A2 l.length (lsN l kd)) := ⟨fun hp => by
            have h_ := HIr.nda
            rw [lsL_len] at h_
            obtain ⟨b, e1, e2⟩ := h_ hp
            exact ⟨b, e1, e2.1, fun k hk => by rw [e2.2 k hk]; congr 2; exact lsL_get l kd l.length k hk⟩⟩
          clear HIr HVV hlt
          obtain ⟨wq, hwq⟩ : ∃ wq : World, wq = wo := ⟨_, rfl⟩
          rw [← hwq] at HN2 HW ⊢
          clear hwq hwo
          go_wp2_with fail
          go_loopw [13] (fun v13 w' => ∃ p : Nat, p ≤ 501 ∧ v13 = .int .i64 p ∧ Aside0 (∀ q, q < p → ¬ lsP l kd tub every q) ∧ Aside0 (NdA w' A2 l.length (lsN l kd)) ∧ Aside0 (Below w.heap.size w w')) (fun v13 _ => 501 - (intOf v13).toNat)
          case atStart => exact ⟨0, by omega, rfl, ⟨fun q hq => by omega⟩, HN2, HW⟩
          case round =>
            clear HN2 HW
            obtain ⟨p, hp, rfl, HP, HN2, HW⟩ := hrel
            obtain ⟨wz, rfl⟩ : ∃ wz : World, wz = wr := ⟨_, rfl⟩
            have hp9 : IntKind.i64.wrap ((p : Int) + 1) = (p : Int) + 1 := IntWalk.i64_in _ ⟨by omega, by omega⟩
            by_cases hlp : p < 501
            · have hpi : (p : Int) ≤ 500 := by omega
              obtain ⟨R, hR⟩ := FI_ex (lsS p tub every (lsN l kd)) l.length
              have hR0 := hR
              rcases hR with ⟨k, hk1, hk2, hk3, hk4⟩ | ⟨hall, hk4⟩
              · have HCL := Aside0.mk (fun W h => l05Lasts_calls (p : Int) tub every (lsN l kd) l.length 0 c2 (k : Int) ⟨by omega, hpi⟩ ht9 hv9 h6 HNN.out A2 (fun i hi => by rw [← hk4]; exact FI_one hR0 hi) (fun hi => by have := FI_one hR0 hi; omega) W h)
                have hkb : ((k : Int) == (l.length : Int)) = false := by simp; omega
                have HP2 : Aside0 (∀ q, q < p + 1 → ¬ lsP l kd tub every q) := ⟨fun q hq => by rcases Nat.lt_or_ge q p with h_ | h_; exact HP.out q h_; (have : q = p := by omega); subst this; exact fun h => by have := h k hk1; omega⟩
                clear hk2 hk3 hk4 hR0
                go_wp2_with fail
                refine (HCL.out _ HN2.out).mono ?_
                rintro e w5 ⟨rfl, hb_⟩
                replace HN2 := Aside0.mk (HN2.out.below hb_)
                replace HW : Aside0 (Below w.heap.size w w5) := ⟨below_step HW.out hb_⟩
                clear hb_ HCL
                go_wp2
                go_roundw
                case rel => exact ⟨p + 1, by omega, by go_num, HP2, HN2, HW⟩
                case measure => simp [intOf] <;> omega
              · have HCL := Aside0.mk (fun W h => l05Lasts_calls (p : Int) tub every (lsN l kd) l.length 0 c2 (l.length : Int) ⟨by omega, hpi⟩ ht9 hv9 h6 HNN.out A2 (fun i hi => by have := FI_one hR0 hi; omega) (fun hi => rfl) W h)
                have HE := Aside0.mk (HLP.out.found hlp hall HP.out)
                clear hall hk4 hR0
                go_wp2_with fail
                refine (HCL.out _ HN2.out).mono ?_
                rintro e w5 ⟨rfl, hb_⟩
                replace HW : Aside0 (Below w.heap.size w w5) := ⟨below_step HW.out hb_⟩
                clear hb_ HCL
                go_wp2
                go_ret2
                exact ⟨by rw [HE.out.1, HE.out.2]; rfl, HW.out⟩
            · have ep : p = 501 := by omega
              subst ep
              have HE := Aside0.mk (HLP.out.none HP.out)
              go_wp2
              go_ret2
              exact ⟨by rw [HE.out.1, HE.out.2]; rfl, HW.out⟩
        · have hl6 : (60 : Int) < (l.length : Int) := by omega
          have HE := Aside0.mk (HRES.out.2.1 HY.out h6)
          go_wp2
          go_ret2
          exact ⟨by rw [HE.out.1, HE.out.2]; rfl, HW.out⟩
set_option maxHeartbeats 8000000 in
set_option maxRecDepth 100000 in
theorem clo1_calls (kd kb mi c' : Nat) (N : Nat → Int) (A' : Option Addr) (hm : mi ≤ 1048576) (hkd : kd ≤ 3) (t : Bool) (ht : (decide (kd < mi) && decide (0 ≤ N kd ∧ N kd ≤ 500)) = t) (w : World) (hK : w.cell? ⟨kb, 0, none⟩ = some (.int .i64 kd)) (hA : NdA w A' mi N) :
    Calls Try.prog 91 #[.slice A' mi c', .pointer (some ⟨kb, 0, none⟩)] w fun e w' => e = .returned (.bool (!t)) ∧ Below w.heap.size w w' := by
  have HS := Aside0.mk (fun W => sizeN_q A' mi c' W)
  by_cases hkl : kd < mi
  · have hki : (kd : Int) < (mi : Int) := by omega
    have hkj : ¬ mi ≤ kd := by omega
    have hkn : decide (mi ≤ kd) = false := decide_eq_false hkj
    obtain ⟨gN, rfl, hNd⟩ := hA (by omega)
    have cn := hNd.at (k := kd) (j := kd) hkl rfl
    have HP := Aside0.mk (fun W => isPieces_q (N kd) W)
    rw [decide_eq_true hkl, Bool.true_and] at ht
    rw [ht] at HP
    clear hA hNd ht
    generalize N kd = x at *
    go_enter Try.func91, Try.ntmps91
    go_wp2
    go_quiet ((first | (go_at_call 78; exact Calls.quiet_of_same (HS.out _)) | (go_at_call 85; exact Calls.quiet_of_same (HP.out _))))
    go_wp2
    go_ret
    exact ⟨rfl, pw_below_drewN (Below.refl _ _) _⟩
  · have hki : ¬ (kd : Int) < (mi : Int) := by omega
    have hkj : mi ≤ kd := by omega
    have hkn : decide (mi ≤ kd) = true := decide_eq_true hkj
    have HT : Aside0 (t = false) := ⟨by rw [← ht, decide_eq_false hkl]; rfl⟩
    rw [HT.out]
    clear hA ht HT
    go_enter Try.func91, Try.ntmps91
    go_wp2
    go_quiet ((first | (go_at_call 78; exact Calls.quiet_of_same (HS.out _))))
    go_wp2
    go_ret
    exact ⟨rfl, pw_below_drewN (Below.refl _ _) _⟩
set_option maxHeartbeats 8000000 in
set_option maxRecDepth 100000 in
theorem clo2_calls (kd kb mi c' g1 hb gN : Nat) (f N : Nat → Int) (tub every today : Int) (hmc : mi ≤ c') (hkl : kd < mi) (hm : mi ≤ 1048576) (hG : Fine f 1) (hN : 0 ≤ N kd ∧ N kd ≤ 500) (ht : 0 ≤ tub ∧ tub ≤ 1000) (hv : 1 ≤ every ∧ every ≤ 7) (hd : 0 ≤ today ∧ today < 60) (e1 : gN ≠ g1) (e2 : gN ≠ hb) (e3 : hb ≠ g1) (w : World) (hK : w.cell? ⟨kb, 0, none⟩ = some (.int .i64 kd)) (hNd : Nd w gN mi N) (hH : Blk w hb 40 (hcells (some ⟨g1, 0, none⟩) 1 1 tub every today)) (hB : Rw w g1 1 f) :
    Calls Try.prog 92 #[.slice (some ⟨gN, 0, none⟩) mi c', .pointer (some ⟨hb, 0, none⟩), .pointer (some ⟨kb, 0, none⟩)] w fun e w' => e = .returned (.bool (decide (0 < shF f (fun _ => N kd) 0))) ∧ Rw w' g1 1 (dayF f (fun _ => N kd) 1 tub every today) ∧ Blk w' hb 40 (hcells (some ⟨g1, 0, none⟩) 1 1 tub every (today + 1)) ∧ KpG w w' (fun k => k = g1 ∨ k = hb) := by
  have HDY := Aside0.mk (fun W hH hB hNd => day_okO f (fun _ => N kd) 1 1 g1 hb gN kd (c' - kd) tub every today ⟨by decide, by decide⟩ hG (fun k hk => hN) ht hv hd e1 e2 e3 W hH hB hNd)
  have HO : Aside0 (NdO w gN kd 1 (fun _ => N kd)) := ⟨⟨hNd.1, fun k hk => by obtain rfl : k = 0 := (by omega); exact hNd.2 kd hkl⟩⟩
  have HH := Aside0.mk hH
  have HB := Aside0.mk hB
  have HSX : Aside0 (shL f (fun _ => N kd) 1 = [shF f (fun _ => N kd) 0]) := ⟨rfl⟩
  have k9 : IntKind.i64.wrap ((kd : Int) + 1) = (kd : Int) + 1 := IntWalk.i64_in _ ⟨by omega, by omega⟩
  have k1 : (kd : Int) + 1 ≤ (c' : Int) := by omega
  have k2 : kd + 1 ≤ c' := by omega
  have k3 : (kd : Int) + 1 ≤ (mi : Int) := by omega
  clear hNd hH hB hG hN ht hv hd
  go_enter Try.func92, Try.ntmps92
  go_wp2_with fail
  refine (HDY.out _ HH.out HB.out HO.out).mono ?_
  rintro e w5 ⟨v, rfl, hv_, hR_, hH_, hk_⟩
  have hI : Ir w5 w.heap.size v (shL f (fun _ => N kd) 1) := hv_
  obtain ⟨gv, cv, e9, hq⟩ := hI.nd (by exact Nat.zero_lt_one)
  rw [show (shL f (fun _ => N kd) 1).length = 1 from rfl] at e9 hq
  have c0 := hq.at (k := 0) (j := 0) (by decide) rfl
  rw [show ((shL f (fun _ => N kd) 1).getD 0 0) = shF f (fun _ => N kd) 0 from rfl] at c0
  subst e9
  have HP : Aside0 (Rw w5 g1 1 (dayF f (fun _ => N kd) 1 tub every today) ∧ Blk w5 hb 40 (hcells (some ⟨g1, 0, none⟩) 1 1 tub every (today + 1)) ∧ KpG w w5 (fun k => k = g1 ∨ k = hb)) := ⟨⟨hR_, hH_, hk_⟩⟩
  clear hv_ hI hq hR_ hH_ hk_ HDY HSX
  obtain ⟨s, hs⟩ : ∃ s, shF f (fun _ => N kd) 0 = s := ⟨_, rfl⟩
  rw [hs] at c0
  have HSS := Aside0.mk hs
  clear hs
  go_wp2
  go_ret
  exact ⟨by rw [HSS.out]; rfl, HP.out⟩
def IdxPost (w0 : World) (b : Bool) (e : Ending) (w' : World) : Prop := ∃ R : Int, e = .returned (.int .i64 R) ∧ decide (0 ≤ R) = b ∧ Below w0.heap.size w0 w'
set_option maxHeartbeats 8000000 in
set_option maxRecDepth 100000 in
theorem idx1_calls (l : List (List Int)) (kd kb cD : Nat) (A : Option Addr) (hkd : kd ≤ 3) (hl : l.length ≤ 1048576) (hlm : ∀ i, (l.getD i []).length ≤ 1048576) (w w0 : World) (hwb : Below w0.heap.size w0 w) (hK : w0.cell? ⟨kb, 0, none⟩ = some (.int .i64 kd)) (hD : Dy w0 (.slice A l.length cD) l) :
    Calls Try.prog 115 #[.slice A l.length cD, .func (.func 91) #[] #[.pointer (some ⟨kb, 0, none⟩)]] w fun e w' => IdxPost w0 (!lsDs l kd l.length) e w' := by
  have HIN : Aside0 (∀ i, i < l.length → ∃ (gD : Nat) (A' : Option Addr) (c' : Nat), A = some ⟨gD, 0, none⟩ ∧ w0.cell? ⟨gD, i, none⟩ = some (.slice A' (l.getD i []).length c') ∧ (l.getD i []).length ≤ c' ∧ NdA w0 A' (l.getD i []).length (fun k => (l.getD i []).getD k 0)) := ⟨fun i hi => hD.at hi⟩
  have HCL := Aside0.mk (fun mi c' N A' hm t ht W h1 h2 => clo1_calls kd kb mi c' N A' hm hkd t ht W h1 h2)
  have HK := Aside0.mk hK
  have HLM := Aside0.mk hlm
  have HW := Aside0.mk hwb
  clear hwb hK hD hlm hkd
  go_enter Try.func115, Try.ntmps115
  go_wp2
  go_loopw [8] (fun v8 w' => ∃ k : Nat, k ≤ l.length ∧ v8 = .int .i64 k ∧ Aside0 (lsDs l kd k = true) ∧ Aside0 (Below w0.heap.size w0 w')) (fun v8 _ => l.length - (intOf v8).toNat)
  case atStart => exact ⟨0, by omega, rfl, ⟨rfl⟩, HW⟩
  case round =>
    clear HW
    obtain ⟨k, hk, rfl, HY, HW⟩ := hrel
    obtain ⟨wo, rfl⟩ : ∃ wo : World, wo = wr := ⟨_, rfl⟩
    have hk9 : IntKind.i64.wrap ((k : Int) + 1) = (k : Int) + 1 := IntWalk.i64_in _ ⟨by omega, by omega⟩
    by_cases hlt : k < l.length
    · have hki : (k : Int) < (l.length : Int) := by omega
      obtain ⟨gD, A', c', hA', cd0, hcc, hND⟩ := HIN.out k hlt
      subst hA'
      have cd := pw_cell_below HW.out cd0
      have HS : Aside0 (lsDs l kd (k + 1) = lsD l kd k) := ⟨by rw [lsDs, HY.out]; rfl⟩
      obtain ⟨t, ht⟩ : ∃ t, lsD l kd k = t := ⟨_, rfl⟩
      rw [ht] at HS
      have HC := Aside0.mk (HCL.out (l.getD k []).length c' (fun j => (l.getD k []).getD j 0) A' (HLM.out k) t ht wo (pw_cell_below HW.out HK.out) (hND.below HW.out))
      clear cd0 hND ht
      generalize (l.getD k []).length = mi at *
      cases t
      · have HF : Aside0 (lsDs l kd l.length = false) := ⟨lsDs_false HS.out (by omega)⟩
        go_wp2_with (go_at_call 91; refine HC.out.mono ?_; rintro e w5 ⟨rfl, hb_⟩; have HW5 : Aside0 (Below w0.heap.size w0 w5) := ⟨below_step HW.out hb_⟩; clear hb_)
        go_ret
        exact ⟨(k : Int), rfl, by rw [HF.out, decide_eq_true (by omega)]; rfl, HW5.out⟩
      · go_wp2_with (go_at_call 91; refine HC.out.mono ?_; rintro e w5 ⟨rfl, hb_⟩; have HW5 : Aside0 (Below w0.heap.size w0 w5) := ⟨below_step HW.out hb_⟩; clear hb_)
        go_roundw
        case rel => exact ⟨k + 1, by omega, by go_num, HS, HW5⟩
        case measure => simp [intOf] <;> omega
    · have ek : k = l.length := by omega
      subst ek
      go_wp2
      go_ret
      exact ⟨-1, rfl, by rw [HY.out]; rfl, HW.out⟩
set_option maxHeartbeats 8000000 in
set_option maxRecDepth 100000 in
theorem has1_calls (l : List (List Int)) (kd kb cD : Nat) (A : Option Addr) (hkd : kd ≤ 3) (hl : l.length ≤ 1048576) (hlm : ∀ i, (l.getD i []).length ≤ 1048576) (w w0 : World) (hwb : Below w0.heap.size w0 w) (hK : w0.cell? ⟨kb, 0, none⟩ = some (.int .i64 kd)) (hD : Dy w0 (.slice A l.length cD) l) :
    Calls Try.prog 90 #[.slice A l.length cD, .func (.func 91) #[] #[.pointer (some ⟨kb, 0, none⟩)]] w fun e w' => e = .returned (.bool (!lsDs l kd l.length)) ∧ Below w0.heap.size w0 w' := by
  have HC := Aside0.mk (idx1_calls l kd kb cD A hkd hl hlm w w0 hwb hK hD)
  clear hwb hK hD hlm
  generalize (!lsDs l kd l.length) = b at *
  go_enter Try.func90, Try.ntmps90
  go_wp2_with fail
  refine HC.out.mono ?_
  rintro e w5 ⟨R, rfl, hR, hb_⟩
  have HW := Aside0.mk hb_
  have HR := Aside0.mk hR
  clear hb_ HC hR
  go_wp2
  go_ret
  exact ⟨by first | (rw [← HR.out]; rfl) | rw [← HR.out], HW.out⟩
set_option maxHeartbeats 8000000 in
set_option maxRecDepth 100000 in
theorem idx2_calls (l : List (List Int)) (kd kb cD g1 hb : Nat) (A : Option Addr) (p tub every : Int) (hp : 0 ≤ p ∧ p ≤ 500) (ht : 0 ≤ tub ∧ tub ≤ 1000) (hv : 1 ≤ every ∧ every ≤ 7) (hl : l.length ≤ 60) (hlm : ∀ i, (l.getD i []).length ≤ 1048576) (hN : lsDs l kd l.length = true) (R : Int) (hR : FI (lsS p tub every (lsN l kd)) l.length R) (e3 : hb ≠ g1) (w w0 : World) (hwb : Below w0.heap.size w0 w) (hg1 : w0.heap.size ≤ g1) (hhb : w0.heap.size ≤ hb) (hK : w0.cell? ⟨kb, 0, none⟩ = some (.int .i64 kd)) (hD : Dy w0 (.slice A l.length cD) l) (hB : Rw w g1 1 (lsF p tub every (lsN l kd) 0)) (hH : Blk w hb 40 (hcells (some ⟨g1, 0, none⟩) 1 1 tub every ((0 : Nat) : Int))) :
    Calls Try.prog 115 #[.slice A l.length cD, .func (.func 92) #[] #[.pointer (some ⟨hb, 0, none⟩), .pointer (some ⟨kb, 0, none⟩)]] w fun e w' => e = .returned (.int .i64 R) ∧ Below w0.heap.size w0 w' := by
  have HIN : Aside0 (∀ i, i < l.length → ∃ (gD : Nat) (A' : Option Addr) (c' : Nat), A = some ⟨gD, 0, none⟩ ∧ w0.cell? ⟨gD, i, none⟩ = some (.slice A' (l.getD i []).length c') ∧ (l.getD i []).length ≤ c' ∧ NdA w0 A' (l.getD i []).length (fun k => (l.getD i []).getD k 0)) := ⟨fun i hi => hD.at hi⟩
  have HCL := Aside0.mk (fun (i : Nat) (hi : i < l.length) mi c' gN hmc hkl hm e1 e2 W hK hNd hH hB => clo2_calls kd kb mi c' g1 hb gN (lsF p tub every (lsN l kd) i) (fun k => (l.getD i []).getD k 0) tub every (i : Int) hmc hkl hm (lsF_fine (m := l.length) hp ht.1 (fun j hj => (lsD_range hN j hj).1) i (by omega)) (lsD_range hN i hi) ht hv ⟨by omega, by omega⟩ e1 e2 e3 W hK hNd hH hB)
  have HK := Aside0.mk hK
  have HLM := Aside0.mk hlm
  have HW := Aside0.mk hwb
  have HB := Aside0.mk hB
  have HH := Aside0.mk hH
  have HR := Aside0.mk hR
  have HNN := Aside0.mk ((lsDs_iff l kd l.length).1 hN)
  clear hwb hK hD hlm hB hH hR hN hp ht hv
  go_enter Try.func115, Try.ntmps115
  go_wp2
  go_loopw [8] (fun v8 w' => ∃ k : Nat, k ≤ l.length ∧ v8 = .int .i64 k ∧ Aside0 (∀ j, j < k → lsS p tub every (lsN l kd) j ≤ 0) ∧ Aside0 (Rw w' g1 1 (lsF p tub every (lsN l kd) k)) ∧ Aside0 (Blk w' hb 40 (hcells (some ⟨g1, 0, none⟩) 1 1 tub every (k : Int))) ∧ Aside0 (Below w0.heap.size w0 w')) (fun v8 _ => l.length - (intOf v8).toNat)
  case atStart => exact ⟨0, by omega, rfl, ⟨fun j hj => by omega⟩, HB, HH, HW⟩
  case round =>
    clear HW HB HH
    obtain ⟨k, hk, rfl, HP, HB, HH, HW⟩ := hrel
    obtain ⟨wo, rfl⟩ : ∃ wo : World, wo = wr := ⟨_, rfl⟩
    have hk9 : IntKind.i64.wrap ((k : Int) + 1) = (k : Int) + 1 := IntWalk.i64_in _ ⟨by omega, by omega⟩
    by_cases hlt : k < l.length
    · have hki : (k : Int) < (l.length : Int) := by omega
      obtain ⟨gD, A', c', hA', cd0, hcc, hND⟩ := HIN.out k hlt
      subst hA'
      have cd := pw_cell_below HW.out cd0
      have hDD := HNN.out k hlt
      unfold lsD at hDD
      rw [Bool.and_eq_true, decide_eq_true_eq] at hDD
      have hkl := hDD.1
      have hle := HLM.out k
      obtain ⟨gN, hgN, hNd⟩ := hND (by omega)
      subst hgN
      have hgl := hNd.1
      have HC := Aside0.mk (HCL.out k hlt (l.getD k []).length c' gN hcc hkl hle (by omega) (by omega) wo (pw_cell_below HW.out HK.out) (hNd.below HW.out) HH.out HB.out)
      have HF : Aside0 (lsF p tub every (lsN l kd) (k + 1) = dayF (lsF p tub every (lsN l kd) k) (fun _ => (l.getD k []).getD kd 0) 1 tub every (k : Int)) := ⟨rfl⟩
      have HS0 : Aside0 (shF (lsF p tub every (lsN l kd) k) (fun _ => (l.getD k []).getD kd 0) 0 = lsS p tub every (lsN l kd) k) := ⟨rfl⟩
      rw [← HF.out, HS0.out] at HC
      have HE2 : Aside0 (0 < lsS p tub every (lsN l kd) k → R = (k : Int)) := ⟨fun h => FI_one HR.out (.inl ⟨k, hlt, h, HP.out, rfl⟩)⟩
      have HP2 : Aside0 (lsS p tub every (lsN l kd) k ≤ 0 → ∀ j, j < k + 1 → lsS p tub every (lsN l kd) j ≤ 0) := ⟨fun h j hj => by rcases Nat.lt_or_ge j k with h_ | h_; exact HP.out j h_; (have : j = k := by omega); subst this; exact h⟩
      clear cd0 hND hNd HF HS0 hDD hkl hle
      generalize lsS p tub every (lsN l kd) k = s at *
      generalize (l.getD k []).length = mi at *
      by_cases hs : 0 < s
      · have HE3 := Aside0.mk (HE2.out hs)
        rw [decide_eq_true hs] at HC
        go_wp2_with (go_at_call 92; refine HC.out.mono ?_; rintro e w5 ⟨rfl, hR_, hH_, hk_⟩; have HW5 : Aside0 (Below w0.heap.size w0 w5) := ⟨below_kept HW.out hk_ (by rintro k_ (rfl | rfl) <;> omega)⟩; clear hR_ hH_ hk_)
        go_ret
        exact ⟨by rw [HE3.out]; rfl, HW5.out⟩
      · have HP3 := Aside0.mk (HP2.out (by omega))
        rw [decide_eq_false hs] at HC
        go_wp2_with (go_at_call 92; refine HC.out.mono ?_; rintro e w5 ⟨rfl, hR_, hH_, hk_⟩; have HW5 : Aside0 (Below w0.heap.size w0 w5) := ⟨below_kept HW.out hk_ (by rintro k_ (rfl | rfl) <;> omega)⟩; have HR5 := Aside0.mk hR_; have HH5 : Aside0 (Blk w5 hb 40 (hcells (some ⟨g1, 0, none⟩) 1 1 tub every ((k + 1 : Nat) : Int))) := ⟨by rw [show ((k + 1 : Nat) : Int) = (k : Int) + 1 by omega]; exact hH_⟩; clear hR_ hH_ hk_)
        go_roundw
        case rel => exact ⟨k + 1, by omega, by go_num, HP3, HR5, HH5, HW5⟩
        case measure => simp [intOf] <;> omega
    · have ek : k = l.length := by omega
      subst ek
      have HE : Aside0 (R = -1) := ⟨FI_one HR.out (.inr ⟨HP.out, rfl⟩)⟩
      go_wp2
      go_ret
      exact ⟨by rw [HE.out]; rfl, HW.out⟩
set_option maxHeartbeats 8000000 in
set_option maxRecDepth 100000 in
theorem has2_calls (l : List (List Int)) (kd kb cD g1 hb : Nat) (A : Option Addr) (p tub every : Int) (hp : 0 ≤ p ∧ p ≤ 500) (ht : 0 ≤ tub ∧ tub ≤ 1000) (hv : 1 ≤ every ∧ every ≤ 7) (hl : l.length ≤ 60) (hlm : ∀ i, (l.getD i []).length ≤ 1048576) (hN : lsDs l kd l.length = true) (R : Int) (hR : FI (lsS p tub every (lsN l kd)) l.length R) (e3 : hb ≠ g1) (w w0 : World) (hwb : Below w0.heap.size w0 w) (hg1 : w0.heap.size ≤ g1) (hhb : w0.heap.size ≤ hb) (hK : w0.cell? ⟨kb, 0, none⟩ = some (.int .i64 kd)) (hD : Dy w0 (.slice A l.length cD) l) (hB : Rw w g1 1 (lsF p tub every (lsN l kd) 0)) (hH : Blk w hb 40 (hcells (some ⟨g1, 0, none⟩) 1 1 tub every ((0 : Nat) : Int))) :
    Calls Try.prog 90 #[.slice A l.length cD, .func (.func 92) #[] #[.pointer (some ⟨hb, 0, none⟩), .pointer (some ⟨kb, 0, none⟩)]] w fun e w' => e = .returned (.bool (decide (0 ≤ R))) ∧ Below w0.heap.size w0 w' := by
  have HC := Aside0.mk (idx2_calls l kd kb cD g1 hb A p tub every hp ht hv hl hlm hN R hR e3 w w0 hwb hg1 hhb hK hD hB hH)
  clear hwb hK hD hlm hB hH hR hN hp ht hv
  go_enter Try.func90, Try.ntmps90
  go_wp2_with fail
  refine HC.out.mono ?_
  rintro e w5 ⟨rfl, hb_⟩
  have HW := Aside0.mk hb_
  clear hb_ HC
  go_wp2
  go_ret
  exact ⟨rfl, HW.out⟩
theorem below_old {B : Nat} {w w0 w1 : World} (h : Below B w w0) (h1 : Below w0.heap.size w0 w1) (hs : B ≤ w0.heap.size := by first | exact Below.size h | omega) : Below B w w1 :=
  ⟨h1.os.trans h.os, h1.tape.trans h.tape, h1.output.trans h.output, Nat.le_trans h.size h1.size, fun b hb => (h1.block b (Nat.lt_of_lt_of_le hb hs)).trans (h.block b hb)⟩
set_option maxHeartbeats 8000000 in
set_option maxRecDepth 100000 in
theorem implLS_no0 (l : List (List Int)) (A : Option Addr) (cD : Nat) (tub every : Int) (hl : l.length ≤ 1048576) (hlm : ∀ i, (l.getD i []).length ≤ 1048576) (kind : Int) (h1 : decide (0 ≤ kind ∧ kind ≤ 3) = false) (w : World) (hD : Dy w (.slice A l.length cD) l) :
    Calls Try.prog 42 #[.int .i64 kind, .int .i64 tub, .int .i64 every, .slice A l.length cD] w fun e w' => e = .returned (.tuple #[.int .i64 0, .int .i64 2]) ∧ Below w.heap.size w w' := by
  have HW1 := Aside0.mk (fun W => keep_q (within_q kind 0 3 W))
  rw [h1] at HW1
  clear hD hlm h1
  go_enter Try.func42, Try.ntmps42
  go_wp2_with fail
  refine (HW1.out _).mono ?_
  rintro e w' ⟨rfl, rfl⟩
  go_wp2
  go_ret2
  exact ⟨rfl, by repeat (first | exact Below.refl _ _ | refine below_alloc ?_ _)⟩
set_option maxHeartbeats 8000000 in
set_option maxRecDepth 100000 in
theorem implLS_no1 (l : List (List Int)) (A : Option Addr) (cD : Nat) (tub every : Int) (hl : l.length ≤ 1048576) (hlm : ∀ i, (l.getD i []).length ≤ 1048576) (kind : Int) (h1 : decide (0 ≤ kind ∧ kind ≤ 3) = true) (h2 : decide (0 ≤ tub ∧ tub ≤ 1000) = false) (w : World) (hD : Dy w (.slice A l.length cD) l) :
    Calls Try.prog 42 #[.int .i64 kind, .int .i64 tub, .int .i64 every, .slice A l.length cD] w fun e w' => e = .returned (.tuple #[.int .i64 0, .int .i64 2]) ∧ Below w.heap.size w w' := by
  have HW1 := Aside0.mk (fun W => keep_q (within_q kind 0 3 W))
  rw [h1] at HW1
  have HW2 := Aside0.mk (fun W => keep_q (within_q tub 0 1000 W))
  rw [h2] at HW2
  clear hD hlm h1 h2
  go_enter Try.func42, Try.ntmps42
  go_wp2_with fail
  refine (HW1.out _).mono ?_
  rintro e w' ⟨rfl, rfl⟩
  go_wp2_with fail
  refine (HW2.out _).mono ?_
  rintro e w' ⟨rfl, rfl⟩
  go_wp2
  go_ret2
  exact ⟨rfl, by repeat (first | exact Below.refl _ _ | refine below_alloc ?_ _)⟩
set_option maxHeartbeats 8000000 in
set_option maxRecDepth 100000 in
theorem implLS_no2 (l : List (List Int)) (A : Option Addr) (cD : Nat) (tub every : Int) (hl : l.length ≤ 1048576) (hlm : ∀ i, (l.getD i []).length ≤ 1048576) (kind : Int) (h1 : decide (0 ≤ kind ∧ kind ≤ 3) = true) (h2 : decide (0 ≤ tub ∧ tub ≤ 1000) = true) (h3 : decide (1 ≤ every ∧ every ≤ 7) = false) (w : World) (hD : Dy w (.slice A l.length cD) l) :
    Calls Try.prog 42 #[.int .i64 kind, .int .i64 tub, .int .i64 every, .slice A l.length cD] w fun e w' => e = .returned (.tuple #[.int .i64 0, .int .i64 2]) ∧ Below w.heap.size w w' := by
  have HW1 := Aside0.mk (fun W => keep_q (within_q kind 0 3 W))
  rw [h1] at HW1
  have HW2 := Aside0.mk (fun W => keep_q (within_q tub 0 1000 W))
  rw [h2] at HW2
  have HW3 := Aside0.mk (fun W => keep_q (within_q every 1 7 W))
  rw [h3] at HW3
  clear hD hlm h1 h2 h3
  go_enter Try.func42, Try.ntmps42
  go_wp2_with fail
  refine (HW1.out _).mono ?_
  rintro e w' ⟨rfl, rfl⟩
  go_wp2_with fail
  refine (HW2.out _).mono ?_
  rintro e w' ⟨rfl, rfl⟩
  go_wp2_with fail
  refine (HW3.out _).mono ?_
  rintro e w' ⟨rfl, rfl⟩
  go_wp2
  go_ret2
  exact ⟨rfl, by repeat (first | exact Below.refl _ _ | refine below_alloc ?_ _)⟩
set_option maxHeartbeats 8000000 in
set_option maxRecDepth 100000 in
theorem implLS_go (l : List (List Int)) (A : Option Addr) (cD : Nat) (tub every : Int) (hl : l.length ≤ 1048576) (hlm : ∀ i, (l.getD i []).length ≤ 1048576) (kd : Nat) (hkd : kd ≤ 3) (ht : 0 ≤ tub ∧ tub ≤ 1000) (hv : 1 ≤ every ∧ every ≤ 7) (a code : Int) (hres : LSres l kd tub every a code) (w : World) (hD : Dy w (.slice A l.length cD) l) :
    Calls Try.prog 42 #[.int .i64 (kd : Int), .int .i64 tub, .int .i64 every, .slice A l.length cD] w fun e w' => e = .returned (.tuple #[.int .i64 a, .int .i64 code]) ∧ Below w.heap.size w w' := by
  have HW1 := Aside0.mk (fun W => keep_q (within_q (kd : Int) 0 3 W))
  have HW2 := Aside0.mk (fun W => keep_q (within_q tub 0 1000 W))
  have HW3 := Aside0.mk (fun W => keep_q (within_q every 1 7 W))
  rw [decide_eq_true (show 0 ≤ (kd : Int) ∧ (kd : Int) ≤ 3 by omega)] at HW1
  rw [decide_eq_true ht] at HW2
  rw [decide_eq_true hv] at HW3
  have h16 : IntKind.i16.wrap tub = tub := IntWalk.i16_in _ ⟨by omega, by omega⟩
  have h8 : IntKind.i8.wrap every = every := IntWalk.i8_in _ ⟨by omega, by omega⟩
  have HRES := Aside0.mk hres
  have HD0 : Aside0 (Dy (w.alloc (.cells #[.int .i64 kd] 2)) (.slice A l.length cD) l) := ⟨hD.alloc _⟩
  have HK0 : Aside0 ((w.alloc (.cells #[.int .i64 kd] 2)).cell? ⟨w.heap.size, 0, none⟩ = some (.int .i64 kd)) := ⟨(Blk.new w _ [.int .i64 kd]).cell 0 (v := .int .i64 kd) rfl⟩
  have HB0 : Aside0 (Below w.heap.size w (w.alloc (.cells #[.int .i64 kd] 2))) := ⟨below_alloc (Below.refl _ _) _⟩
  have HHM := Aside0.mk hlm
  have HKD := Aside0.mk hkd
  have HTV := Aside0.mk (And.intro ht hv)
  clear ht hv hD hres hlm hkd
  go_enter Try.func42, Try.ntmps42
  go_wp2_with fail
  refine (HW1.out _).mono ?_
  rintro e w' ⟨rfl, rfl⟩
  go_wp2_with fail
  refine (HW2.out _).mono ?_
  rintro e w' ⟨rfl, rfl⟩
  go_wp2_with fail
  refine (HW3.out _).mono ?_
  rintro e w' ⟨rfl, rfl⟩
  go_wp2_with fail
  obtain ⟨w0, hw0⟩ : ∃ w0, w0 = (w.alloc (.cells #[.int .i64 kd] 2)) := ⟨_, rfl⟩
  rw [← hw0] at HD0 HK0 HB0 ⊢
  have hz0 : w0.heap.size = w.heap.size + 1 := by rw [hw0]; simp
  clear hw0 HW1 HW2 HW3
  obtain ⟨kb, hkb⟩ : ∃ kb, w.heap.size = kb := ⟨_, rfl⟩
  rw [hkb] at HK0 ⊢
  have HC1 := Aside0.mk (has1_calls l kd kb cD A HKD.out hl HHM.out w0 w0 (Below.refl _ _) HK0.out HD0.out)
  refine HC1.out.mono ?_
  rintro e w1 ⟨rfl, hb1⟩
  have HW := Aside0.mk hb1
  have hz1 := hb1.size
  clear hb1 HC1
  cases hds : lsDs l kd l.length
  · have HE := Aside0.mk (HRES.out.1 hds)
    go_wp2
    go_ret2
    exact ⟨by rw [HE.out.1, HE.out.2]; rfl, by rw [← hkb] at *; exact below_old HB0.out HW.out⟩
  · by_cases h6 : l.length ≤ 60
    · have hl6 : ¬ (60 : Int) < (l.length : Int) := by omega
      have HLP := Aside0.mk (HRES.out.2.2 hds h6)
      have HDS := Aside0.mk hds
      clear hds
      go_wp2_with fail
      go_loopw [33] (fun v33 w' => ∃ p : Nat, p ≤ 501 ∧ v33 = .int .i64 p ∧ Aside0 (∀ q, q < p → ¬ lsP l kd tub every q) ∧ Aside0 (Below w0.heap.size w0 w')) (fun v33 _ => 501 - (intOf v33).toNat)
      case atStart => exact ⟨0, by omega, rfl, ⟨fun q hq => by omega⟩, HW⟩
      case round =>
        clear HW
        obtain ⟨p, hp, rfl, HP, HW⟩ := hrel
        obtain ⟨wz, rfl⟩ : ∃ wz : World, wz = wr := ⟨_, rfl⟩
        have hp9 : IntKind.i64.wrap ((p : Int) + 1) = (p : Int) + 1 := IntWalk.i64_in _ ⟨by omega, by omega⟩
        have hwz := Below.size HW.out
        by_cases hlp : p < 501
        · have hpi : (p : Int) < 501 := by omega
          have hpr : 0 ≤ (p : Int) ∧ (p : Int) ≤ 500 := by omega
          have HNS := Aside0.mk (fun W => newStock_lit (p : Int) hpr W)
          go_wp2_with fail
          refine (HNS.out _).mono ?_
          rintro e w2 ⟨rfl, hb2⟩
          replace HW : Aside0 (Below w0.heap.size w0 w2) := ⟨below_step HW.out hb2⟩
          have hz2 := hb2.size
          clear hb2 HNS
          go_wp2_with fail
          obtain ⟨g1, hg1⟩ : ∃ g1, w2.heap.size = g1 := ⟨_, rfl⟩
          obtain ⟨R, hR⟩ := FI_ex (lsS p tub every (lsN l kd)) l.length
          have HRW : Aside0 (Rw ((w2.alloc (.cells #[.int .i16 0, .int .i16 0, .int .i16 0, .int .i16 0, .int .i16 0, .int .i16 0, .int .i16 0, .int .i16 ((p : Int)), .int .i16 0, .int .i16 0, .int .i16 0, .int .i16 0, .int .i16 0, .int .i16 0, .int .i16 0, .int .i16 0, .int .i16 0, .int .i16 0, .int .i16 0, .int .i16 0, .int .i16 0, .int .i16 0, .int .i16 0, .int .i16 0, .int .i32 0] 27)).alloc (.cells #[.slice (some ⟨g1, 0, none⟩) 1 1, .int .i16 tub, .int .i8 every, .int .i16 0] 40)) g1 1 (lsF p tub every (lsN l kd) 0)) := ⟨by subst hg1; exact Rw.alloc (Rw.of_blk (f := newF fun _ => (p : Int)) (Blk.new w2 _ _)) _⟩
          have HX : Aside0 (Blk ((w2.alloc (.cells #[.int .i16 0, .int .i16 0, .int .i16 0, .int .i16 0, .int .i16 0, .int .i16 0, .int .i16 0, .int .i16 ((p : Int)), .int .i16 0, .int .i16 0, .int .i16 0, .int .i16 0, .int .i16 0, .int .i16 0, .int .i16 0, .int .i16 0, .int .i16 0, .int .i16 0, .int .i16 0, .int .i16 0, .int .i16 0, .int .i16 0, .int .i16 0, .int .i16 0, .int .i32 0] 27)).alloc (.cells #[.slice (some ⟨g1, 0, none⟩) 1 1, .int .i16 tub, .int .i8 every, .int .i16 0] 40)) (g1 + 1) 40 (hcells (some ⟨g1, 0, none⟩) 1 1 tub every ((0 : Nat) : Int))) := ⟨Blk.at_ (by simp; omega) rfl⟩
          have HC2 := Aside0.mk (has2_calls l kd kb cD g1 (g1 + 1) A (p : Int) tub every hpr HTV.out.1 HTV.out.2 h6 HHM.out HDS.out R hR (by omega) _ w0 (below_alloc (below_alloc HW.out _) _) (by omega) (by omega) HK0.out HD0.out HRW.out HX.out)
          rw [hg1]
          refine HC2.out.mono ?_
          rintro e w3 ⟨rfl, hb3⟩
          replace HW : Aside0 (Below w0.heap.size w0 w3) := ⟨hb3⟩
          clear hb3 HC2 HRW HX hg1
          rcases hR with ⟨k, hk1, hk2, hk3, hk4⟩ | ⟨hall, hk4⟩
          · subst hk4
            have HP2 : Aside0 (∀ q, q < p + 1 → ¬ lsP l kd tub every q) := ⟨fun q hq => by rcases Nat.lt_or_ge q p with h_ | h_; exact HP.out q h_; (have : q = p := by omega); subst this; exact fun h => by have := h k hk1; omega⟩
            have hkk : (0 : Int) ≤ (k : Int) := by omega
            clear hk2 hk3
            rw [decide_eq_true hkk]
            go_wp2
            go_roundw
            case rel => exact ⟨p + 1, by omega, by go_num, HP2, HW⟩
            case measure => simp [intOf] <;> omega
          · subst hk4
            have HE := Aside0.mk (HLP.out.found hlp hall HP.out)
            clear hall
            go_wp2
            go_ret2
            exact ⟨by rw [HE.out.1, HE.out.2]; rfl, by rw [← hkb] at *; exact below_old HB0.out HW.out⟩
        · have ep : p = 501 := by omega
          subst ep
          have HE := Aside0.mk (HLP.out.none HP.out)
          go_wp2
          go_ret2
          exact ⟨by rw [HE.out.1, HE.out.2]; rfl, by rw [← hkb] at *; exact below_old HB0.out HW.out⟩
    · have hl6 : (60 : Int) < (l.length : Int) := by omega
      have HE := Aside0.mk (HRES.out.2.1 hds h6)
      clear hds
      go_wp2
      go_ret2
      exact ⟨by rw [HE.out.1, HE.out.2]; rfl, by rw [← hkb] at *; exact below_old HB0.out HW.out⟩
set_option maxHeartbeats 8000000 in
set_option maxRecDepth 100000 in
theorem lawLS (A1 : Option Addr) (c1 : Nat) (l : List (List Int)) (kind tub every : Int) (a code r : Int) (hr : 0 ≤ r) (hl : l.length ≤ 1048576 ∧ l.flatten.length ≤ 1048576) (hc1 : l.length ≤ c1) (hsz : ∀ W : World, (Kd.slice 2 (Kd.int .i64)).C W A1 l.length l → Calls Try.prog 39 #[.slice A1 l.length c1, .int .i64 1048576] W fun e w' => e = .returned (.int .i64 r) ∧ Below W.heap.size W w') (hsp : (∀ (A : Option Addr) (cD : Nat) (W : World), l.length ≤ cD → Dy W (.slice A l.length cD) l → Calls Try.prog 40 #[.int .i64 kind, .int .i64 tub, .int .i64 every, .slice A l.length cD] W fun e w' => e = .returned (.tuple #[.int .i64 a, .int .i64 code]) ∧ Below W.heap.size W w')) (him : (∀ (A : Option Addr) (cD : Nat) (W : World), l.length ≤ cD → Dy W (.slice A l.length cD) l → Calls Try.prog 42 #[.int .i64 kind, .int .i64 tub, .int .i64 every, .slice A l.length cD] W fun e w' => e = .returned (.tuple #[.int .i64 a, .int .i64 code]) ∧ Below W.heap.size W w')) (w : World) (hL : (Kd.slice 2 (Kd.int .i64)).C w A1 l.length l) :
    Calls Try.prog 9 #[.int .i64 kind, .int .i64 tub, .int .i64 every, .slice A1 l.length c1] w fun e w' => e = .returned (.bool true) ∧ Below w.heap.size w w' := by
  have HSR := Aside0.mk hsz
  have HL := Aside0.mk hL
  have HW : Aside0 (Below w.heap.size w w) := ⟨Below.refl _ _⟩
  have HTS := Aside0.mk (fun W h => toSS_calls A1 c1 l hl hc1 W h)
  have HES := Aside0.mk (fun v v' W h h' => eqSS_calls v v' l hl W h h')
  have HSP := Aside0.mk hsp
  have HIM := Aside0.mk him
  clear hL hsp him hsz
  go_enter Try.func9, Try.ntmps9
  go_wp2_with (fail)
  refine (HSR.out _ (Kd.C_below HL.out (by with_reducible repeat (first | exact HW.out | refine Blk.alloc ?_ _ | refine Rw.alloc ?_ _ | refine Arg.alloc ?_ _ | apply below_alloc | refine Blk.drew ?_ | refine Rw.drew ?_ | refine Arg.drew ?_ | apply below_drew | refine Blk.drewN ?_ _ | refine Rw.drewN ?_ _ | refine Arg.drewN ?_ _ | apply pw_below_drewN)))).mono ?_
  rintro e w1 ⟨rfl, hb⟩
  have hs_w1 := Below.size hb
  (try simp at hs_w1)
  replace HW : Aside0 (Below w.heap.size w w1) := ⟨below_step (by with_reducible repeat (first | exact HW.out | refine Blk.alloc ?_ _ | refine Rw.alloc ?_ _ | refine Arg.alloc ?_ _ | apply below_alloc | refine Blk.drew ?_ | refine Rw.drew ?_ | refine Arg.drew ?_ | apply below_drew | refine Blk.drewN ?_ _ | refine Rw.drewN ?_ _ | refine Arg.drewN ?_ _ | apply pw_below_drewN)) hb⟩
  clear hb
  go_wp2_with (fail)
  refine (HTS.out _ (Kd.C_below HL.out (by with_reducible repeat (first | exact HW.out | refine Blk.alloc ?_ _ | refine Rw.alloc ?_ _ | refine Arg.alloc ?_ _ | apply below_alloc | refine Blk.drew ?_ | refine Rw.drew ?_ | refine Arg.drew ?_ | apply below_drew | refine Blk.drewN ?_ _ | refine Rw.drewN ?_ _ | refine Arg.drewN ?_ _ | apply pw_below_drewN)))).mono ?_
  rintro e w2 ⟨A2, cN1, rfl, hc_HY1, hY_, hb⟩
  have hs_w2 := Below.size hb
  (try simp at hs_w2)
  replace HW : Aside0 (Below w.heap.size w w2) := ⟨below_step (by with_reducible repeat (first | exact HW.out | refine Blk.alloc ?_ _ | refine Rw.alloc ?_ _ | refine Arg.alloc ?_ _ | apply below_alloc | refine Blk.drew ?_ | refine Rw.drew ?_ | refine Arg.drew ?_ | apply below_drew | refine Blk.drewN ?_ _ | refine Rw.drewN ?_ _ | refine Arg.drewN ?_ _ | apply pw_below_drewN)) hb⟩
  clear hb
  have HY1 : Aside0 (Dy w2 (.slice A2 l.length cN1) l) := ⟨hY_⟩
  clear hY_
  go_wp2_with (fail)
  refine (HSP.out _ _ _ hc_HY1 (by with_reducible repeat (first | exact HY1.out | refine Dy.alloc ?_ _ | refine Dy.drew ?_))).mono ?_
  rintro e w3 ⟨rfl, hb⟩
  have hs_w3 := Below.size hb
  (try simp at hs_w3)
  replace HY1 : Aside0 (Dy w3 (.slice A2 l.length cN1) l) := ⟨Dy.below (by with_reducible repeat (first | exact HY1.out | refine Dy.alloc ?_ _ | refine Dy.drew ?_)) hb⟩
  replace HW : Aside0 (Below w.heap.size w w3) := ⟨below_step (by with_reducible repeat (first | exact HW.out | refine Blk.alloc ?_ _ | refine Rw.alloc ?_ _ | refine Arg.alloc ?_ _ | apply below_alloc | refine Blk.drew ?_ | refine Rw.drew ?_ | refine Arg.drew ?_ | apply below_drew | refine Blk.drewN ?_ _ | refine Rw.drewN ?_ _ | refine Arg.drewN ?_ _ | apply pw_below_drewN)) hb⟩
  clear hb
  go_wp2_with (fail)
  refine (HTS.out _ (Kd.C_below HL.out (by with_reducible repeat (first | exact HW.out | refine Blk.alloc ?_ _ | refine Rw.alloc ?_ _ | refine Arg.alloc ?_ _ | apply below_alloc | refine Blk.drew ?_ | refine Rw.drew ?_ | refine Arg.drew ?_ | apply below_drew | refine Blk.drewN ?_ _ | refine Rw.drewN ?_ _ | refine Arg.drewN ?_ _ | apply pw_below_drewN)))).mono ?_
  rintro e w4 ⟨A4, cN3, rfl, hc_HY3, hY_, hb⟩
  have hs_w4 := Below.size hb
  (try simp at hs_w4)
  replace HY1 : Aside0 (Dy w4 (.slice A2 l.length cN1) l) := ⟨Dy.below (by with_reducible repeat (first | exact HY1.out | refine Dy.alloc ?_ _ | refine Dy.drew ?_)) hb⟩
  replace HW : Aside0 (Below w.heap.size w w4) := ⟨below_step (by with_reducible repeat (first | exact HW.out | refine Blk.alloc ?_ _ | refine Rw.alloc ?_ _ | refine Arg.alloc ?_ _ | apply below_alloc | refine Blk.drew ?_ | refine Rw.drew ?_ | refine Arg.drew ?_ | apply below_drew | refine Blk.drewN ?_ _ | refine Rw.drewN ?_ _ | refine Arg.drewN ?_ _ | apply pw_below_drewN)) hb⟩
  clear hb
  have HY3 : Aside0 (Dy w4 (.slice A4 l.length cN3) l) := ⟨hY_⟩
  clear hY_
  go_wp2_with (fail)
  refine (HIM.out _ _ _ hc_HY3 (by with_reducible repeat (first | exact HY3.out | refine Dy.alloc ?_ _ | refine Dy.drew ?_))).mono ?_
  rintro e w5 ⟨rfl, hb⟩
  have hs_w5 := Below.size hb
  (try simp at hs_w5)
  replace HY1 : Aside0 (Dy w5 (.slice A2 l.length cN1) l) := ⟨Dy.below (by with_reducible repeat (first | exact HY1.out | refine Dy.alloc ?_ _ | refine Dy.drew ?_)) hb⟩
  replace HY3 : Aside0 (Dy w5 (.slice A4 l.length cN3) l) := ⟨Dy.below (by with_reducible repeat (first | exact HY3.out | refine Dy.alloc ?_ _ | refine Dy.drew ?_)) hb⟩
  replace HW : Aside0 (Below w.heap.size w w5) := ⟨below_step (by with_reducible repeat (first | exact HW.out | refine Blk.alloc ?_ _ | refine Rw.alloc ?_ _ | refine Arg.alloc ?_ _ | apply below_alloc | refine Blk.drew ?_ | refine Rw.drew ?_ | refine Arg.drew ?_ | apply below_drew | refine Blk.drewN ?_ _ | refine Rw.drewN ?_ _ | refine Arg.drewN ?_ _ | apply pw_below_drewN)) hb⟩
  clear hb
  go_wp2_with (fail)
  refine (HTS.out _ (Kd.C_below HL.out (by with_reducible repeat (first | exact HW.out | refine Blk.alloc ?_ _ | refine Rw.alloc ?_ _ | refine Arg.alloc ?_ _ | apply below_alloc | refine Blk.drew ?_ | refine Rw.drew ?_ | refine Arg.drew ?_ | apply below_drew | refine Blk.drewN ?_ _ | refine Rw.drewN ?_ _ | refine Arg.drewN ?_ _ | apply pw_below_drewN)))).mono ?_
  rintro e w6 ⟨A5, cN5, rfl, hc_HY5, hY_, hb⟩
  have hs_w6 := Below.size hb
  (try simp at hs_w6)
  replace HY1 : Aside0 (Dy w6 (.slice A2 l.length cN1) l) := ⟨Dy.below (by with_reducible repeat (first | exact HY1.out | refine Dy.alloc ?_ _ | refine Dy.drew ?_)) hb⟩
  replace HY3 : Aside0 (Dy w6 (.slice A4 l.length cN3) l) := ⟨Dy.below (by with_reducible repeat (first | exact HY3.out | refine Dy.alloc ?_ _ | refine Dy.drew ?_)) hb⟩
  replace HW : Aside0 (Below w.heap.size w w6) := ⟨below_step (by with_reducible repeat (first | exact HW.out | refine Blk.alloc ?_ _ | refine Rw.alloc ?_ _ | refine Arg.alloc ?_ _ | apply below_alloc | refine Blk.drew ?_ | refine Rw.drew ?_ | refine Arg.drew ?_ | apply below_drew | refine Blk.drewN ?_ _ | refine Rw.drewN ?_ _ | refine Arg.drewN ?_ _ | apply pw_below_drewN)) hb⟩
  clear hb
  have HY5 : Aside0 (Dy w6 (.slice A5 l.length cN5) l) := ⟨hY_⟩
  clear hY_
  go_wp2_with (fail)
  refine (HES.out _ _ _ (by with_reducible repeat (first | exact HY3.out | refine Dy.alloc ?_ _ | refine Dy.drew ?_)) (by with_reducible repeat (first | exact HY5.out | refine Dy.alloc ?_ _ | refine Dy.drew ?_))).mono ?_
  rintro e w7 ⟨rfl, hb⟩
  have hs_w7 := Below.size hb
  (try simp at hs_w7)
  replace HY1 : Aside0 (Dy w7 (.slice A2 l.length cN1) l) := ⟨Dy.below (by with_reducible repeat (first | exact HY1.out | refine Dy.alloc ?_ _ | refine Dy.drew ?_)) hb⟩
  replace HY3 : Aside0 (Dy w7 (.slice A4 l.length cN3) l) := ⟨Dy.below (by with_reducible repeat (first | exact HY3.out | refine Dy.alloc ?_ _ | refine Dy.drew ?_)) hb⟩
  replace HY5 : Aside0 (Dy w7 (.slice A5 l.length cN5) l) := ⟨Dy.below (by with_reducible repeat (first | exact HY5.out | refine Dy.alloc ?_ _ | refine Dy.drew ?_)) hb⟩
  replace HW : Aside0 (Below w.heap.size w w7) := ⟨below_step (by with_reducible repeat (first | exact HW.out | refine Blk.alloc ?_ _ | refine Rw.alloc ?_ _ | refine Arg.alloc ?_ _ | apply below_alloc | refine Blk.drew ?_ | refine Rw.drew ?_ | refine Arg.drew ?_ | apply below_drew | refine Blk.drewN ?_ _ | refine Rw.drewN ?_ _ | refine Arg.drewN ?_ _ | apply pw_below_drewN)) hb⟩
  clear hb
  go_wp2
  go_ret
  exact ⟨rfl, HW.out⟩
set_option maxHeartbeats 8000000 in
set_option maxRecDepth 100000 in
theorem lawLS_calls (A1 : Option Addr) (c1 : Nat) (l : List (List Int)) (kind tub every : Int) (hc1 : l.length ≤ c1) (w : World) (hL : (Kd.slice 2 (Kd.int .i64)).C w A1 l.length l) :
    Calls Try.prog 9 #[.int .i64 kind, .int .i64 tub, .int .i64 every, .slice A1 l.length c1] w fun e w' => e = .returned (.bool true) ∧ Below w.heap.size w w' := by
  obtain ⟨r, hrl, hsz⟩ := szSS_calls A1 c1 l 1048576 (by omega) (by omega) hc1 w hL
  by_cases hr : 0 ≤ r
  · have hl := hrl hr
    have hlm : ∀ i, (l.getD i []).length ≤ 1048576 := by
      intro i
      rw [List.getD_eq_getElem?_getD]
      rcases Nat.lt_or_ge i l.length with hi | hi
      · rw [List.getElem?_eq_getElem hi]
        have := row_le (List.getElem_mem hi)
        show l[i].length ≤ _
        omega
      · rw [List.getElem?_eq_none hi]; simp
    cases h1 : decide (0 ≤ kind ∧ kind ≤ 3)
    · exact lawLS A1 c1 l kind tub every 0 2 r hr hl hc1 hsz (fun A cD W hc h => specLS_no l A cD tub every hl.1 hlm kind _ _ rfl rfl (by rw [h1]; first | rfl | simp) W h) (fun A cD W hc h => implLS_no0 l A cD tub every hl.1 hlm kind h1 W h) w hL
    · cases h2 : decide (0 ≤ tub ∧ tub ≤ 1000)
      · exact lawLS A1 c1 l kind tub every 0 2 r hr hl hc1 hsz (fun A cD W hc h => specLS_no l A cD tub every hl.1 hlm kind _ _ rfl rfl (by rw [h1, h2]; first | rfl | simp) W h) (fun A cD W hc h => implLS_no1 l A cD tub every hl.1 hlm kind h1 h2 W h) w hL
      · cases h3 : decide (1 ≤ every ∧ every ≤ 7)
        · exact lawLS A1 c1 l kind tub every 0 2 r hr hl hc1 hsz (fun A cD W hc h => specLS_no l A cD tub every hl.1 hlm kind _ _ rfl rfl (by rw [h1, h2, h3]; first | rfl | simp) W h) (fun A cD W hc h => implLS_no2 l A cD tub every hl.1 hlm kind h1 h2 h3 W h) w hL
        · have e1 := of_decide_eq_true h1
          have e2 := of_decide_eq_true h2
          have e3 := of_decide_eq_true h3
          obtain ⟨kd, rfl⟩ : ∃ kd : Nat, kind = (kd : Int) := ⟨kind.toNat, by omega⟩
          have hkd : kd ≤ 3 := by omega
          obtain ⟨a, code, hres⟩ := LSres_ex l kd tub every
          exact lawLS A1 c1 l (kd : Int) tub every a code r hr hl hc1 hsz (fun A cD W hc h => specLS_go l A cD tub every hl.1 hlm kd hkd e2 e3 a code hres W h) (fun A cD W hc h => implLS_go l A cD tub every hl.1 hlm kd hkd e2 e3 a code hres W h) w hL
  · have HSR := Aside0.mk hsz
    have hr1 : r < 0 := by omega
    have HL := Aside0.mk hL
    have HW : Aside0 (Below w.heap.size w w) := ⟨Below.refl _ _⟩
    clear hL hsz hrl hr
    go_enter Try.func9, Try.ntmps9
    go_wp2_with (fail)
    refine (HSR.out _ (Kd.C_below HL.out (by with_reducible repeat (first | exact HW.out | refine Blk.alloc ?_ _ | refine Rw.alloc ?_ _ | refine Arg.alloc ?_ _ | apply below_alloc | refine Blk.drew ?_ | refine Rw.drew ?_ | refine Arg.drew ?_ | apply below_drew | refine Blk.drewN ?_ _ | refine Rw.drewN ?_ _ | refine Arg.drewN ?_ _ | apply pw_below_drewN)))).mono ?_
    rintro e w1 ⟨rfl, hb⟩
    have hs_w1 := Below.size hb
    (try simp at hs_w1)
    replace HW : Aside0 (Below w.heap.size w w1) := ⟨below_step (by with_reducible repeat (first | exact HW.out | refine Blk.alloc ?_ _ | refine Rw.alloc ?_ _ | refine Arg.alloc ?_ _ | apply below_alloc | refine Blk.drew ?_ | refine Rw.drew ?_ | refine Arg.drew ?_ | apply below_drew | refine Blk.drewN ?_ _ | refine Rw.drewN ?_ _ | refine Arg.drewN ?_ _ | apply pw_below_drewN)) hb⟩
    clear hb
    go_wp2
    go_ret
    exact ⟨rfl, HW.out⟩
end Go.Proofs.Ytjmnbikaijphlaa.X
