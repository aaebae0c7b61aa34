/- Contracts of functions, and plain facts: what each call answers, and what it leaves as it was. -/
import Derived.Test.YtdepnieanfjhjaaDoorIwg
import Derived.Test.YtdepnieanfjhjaaDoorSws
set_option linter.unusedVariables false
set_option linter.unusedSimpArgs false
namespace Go.Proofs.YtdepnieanfjhjaaDoor.X
open Go.RowKit Go.Proofs.YtdepnieanfjhjaaDoorW.PrintWords Go.Proofs.YtdepnieanfjhjaaDoorW.PrintLast Go.Proofs.YtdepnieanfjhjaaDoorW.PrintMore
attribute [local go_sem] max2_int min2_int max_two min_two max_three min_three max_four min_four
theorem wg_spec (L : List Int) (ws : List S52) (h t1 places : Int) : wgCode L ws h t1 places = if askedF L ws (((inR h 0 24 && inR t1 0 24) && decide (h ≤ t1)) && inR places 0 6) = 0 then (if ws.length ≤ 6 then 0 else 3) else askedF L ws (((inR h 0 24 && inR t1 0 24) && decide (h ≤ t1)) && inR places 0 6) := by
  unfold wgCode
  rw [code_eq]
  unfold askedF
  generalize inR h 0 24 = b0
  generalize inR t1 0 24 = b1
  generalize decide (h ≤ t1) = b2
  generalize inR places 0 6 = b3
  cases dayOk L <;> cases (ws.all fun x => washOk x.f0 x.f1) <;> cases b0 <;> cases b1 <;> cases b2 <;> cases b3 <;> simp
set_option maxHeartbeats 8000000 in
set_option maxRecDepth 100000 in
theorem specWG_bad (L : List Int) (hL : L.length = 72) (h8 : i8All L) (ws : List S52) (hws : ∀ x ∈ ws, wshR x) (h t1 places : Int) (A : Option Addr) (c : Nat) (code : Int) (hcode : code = wgCode L ws h t1 places) (hcn : code ≠ 0) (w : World) (hC : Kd.C k52 w A ws.length ws) :
    Calls Tryd.prog 5 #[(.agg (nums .i8 L).toArray), .slice A ws.length c, .int .i64 h, .int .i64 t1, .int .i64 places] w fun e w' => ∃ v, e = .returned (.tuple #[v, .int .i64 0, .int .i64 code]) ∧ Ir w' w.heap.size v [] ∧ Below w.heap.size w w' := by
  rw [wg_spec] at hcode
  have HAS := Aside0.mk (fun W h1 h2 => l03Asked_calls L hL h8 ws hws (((inR h 0 24 && inR t1 0 24) && decide (h ≤ t1)) && inR places 0 6) w.heap.size A c W h1 h2)
  have HF0 := Aside0.mk (fun W => spec_l03From.calls h _ W (from_f h))
  have HF1 := Aside0.mk (fun W => spec_l03From.calls t1 _ W (from_f t1))
  have HF2 := Aside0.mk (fun W => spec_l00In.calls places 0 6 _ W (l00In_f places 0 6))
  have HHC := Aside0.mk hC
  have HCD := Aside0.mk hcode
  clear hcode h8 hws hL hC
  generalize askedF L ws (((inR h 0 24 && inR t1 0 24) && decide (h ≤ t1)) && inR places 0 6) = ca at HAS HCD
  have p1 : Blk (w.alloc (.cells (nums .i8 L).toArray 33)) w.heap.size 33 (nums .i8 L) := Blk.new w _ (nums .i8 L)
  have p4 : Below w.heap.size w (w.alloc (.cells (nums .i8 L).toArray 33)) := below_alloc (Below.refl _ _) _
  have HP1 := Aside0.mk p1
  have HP4 := Aside0.mk p4
  clear p1 p4
  generalize inR h 0 24 = b0 at *
  generalize inR t1 0 24 = b1 at *
  generalize inR places 0 6 = b3 at *
  cases b0
  · simp only [Bool.false_and] at HAS
    go_enter Tryd.func5, Tryd.ntmps5
    go_wp2_with fail
    refine (HF0.out _).mono ?_
    rintro e w1 ⟨rfl, hd1⟩
    have HB1 := Aside0.mk (hd1.below)
    clear hd1
    go_wp2_with fail
    refine (HAS.out _ (HP1.out.below HB1.out) (Kd.C_below HHC.out (below_step HP4.out HB1.out))).mono ?_
    rintro e w9 ⟨rfl, hb9⟩
    have HB9 := Aside0.mk (below_step HB1.out hb9)
    have HW9 := Aside0.mk (below_step HP4.out HB9.out)
    clear hb9 HB1
    by_cases hca : ca = 0
    · subst hca
      have hl7 : (6 : Int) < (ws.length : Int) := by
        have h_ := HCD.out
        rw [if_pos rfl] at h_
        by_cases h6 : ws.length ≤ 6
        · rw [if_pos h6] at h_; exact absurd h_ hcn
        · omega
      have hc3 : code = 3 := by
        have h_ := HCD.out
        rw [if_pos rfl, if_neg (by omega)] at h_
        exact h_
      subst hc3
      go_wp2
      go_ret3
      exact ⟨_, rfl, ir_nil _ (Below.size HW9.out), below_alloc HW9.out _⟩
    · have hc1 : code = ca := by
        have h_ := HCD.out
        rw [if_neg hca] at h_
        exact h_
      subst hc1
      have hcb : (code != 0) = true := by simpa using hca
      have hcb2 : (code == 0) = false := by simpa using hca
      go_wp2
      go_ret3
      exact ⟨_, rfl, ir_nil _ (Below.size HW9.out), below_alloc HW9.out _⟩
  · cases b1
    · simp only [Bool.false_and, Bool.and_false] at HAS
      go_enter Tryd.func5, Tryd.ntmps5
      go_wp2_with fail
      refine (HF0.out _).mono ?_
      rintro e w1 ⟨rfl, hd1⟩
      have HB1 := Aside0.mk (hd1.below)
      clear hd1
      go_wp2_with fail
      refine (HF1.out _).mono ?_
      rintro e w2 ⟨rfl, hd2⟩
      have HB2 := Aside0.mk (below_step HB1.out hd2.below)
      clear hd2
      go_wp2_with fail
      refine (HAS.out _ (HP1.out.below HB2.out) (Kd.C_below HHC.out (below_step HP4.out HB2.out))).mono ?_
      rintro e w9 ⟨rfl, hb9⟩
      have HB9 := Aside0.mk (below_step HB2.out hb9)
      have HW9 := Aside0.mk (below_step HP4.out HB9.out)
      clear hb9 HB2
      by_cases hca : ca = 0
      · subst hca
        have hl7 : (6 : Int) < (ws.length : Int) := by
          have h_ := HCD.out
          rw [if_pos rfl] at h_
          by_cases h6 : ws.length ≤ 6
          · rw [if_pos h6] at h_; exact absurd h_ hcn
          · omega
        have hc3 : code = 3 := by
          have h_ := HCD.out
          rw [if_pos rfl, if_neg (by omega)] at h_
          exact h_
        subst hc3
        go_wp2
        go_ret3
        exact ⟨_, rfl, ir_nil _ (Below.size HW9.out), below_alloc HW9.out _⟩
      · have hc1 : code = ca := by
          have h_ := HCD.out
          rw [if_neg hca] at h_
          exact h_
        subst hc1
        have hcb : (code != 0) = true := by simpa using hca
        have hcb2 : (code == 0) = false := by simpa using hca
        go_wp2
        go_ret3
        exact ⟨_, rfl, ir_nil _ (Below.size HW9.out), below_alloc HW9.out _⟩
    · by_cases hle : h ≤ t1
      · rw [decide_eq_true hle] at HAS
        simp only [Bool.true_and] at HAS
        go_enter Tryd.func5, Tryd.ntmps5
        go_wp2_with fail
        refine (HF0.out _).mono ?_
        rintro e w1 ⟨rfl, hd1⟩
        have HB1 := Aside0.mk (hd1.below)
        clear hd1
        go_wp2_with fail
        refine (HF1.out _).mono ?_
        rintro e w2 ⟨rfl, hd2⟩
        have HB2 := Aside0.mk (below_step HB1.out hd2.below)
        clear hd2
        go_wp2_with fail
        refine (HF2.out _).mono ?_
        rintro e w3 ⟨rfl, hd3⟩
        have HB3 := Aside0.mk (below_step HB2.out hd3.below)
        clear hd3
        go_wp2_with fail
        refine (HAS.out _ (HP1.out.below HB3.out) (Kd.C_below HHC.out (below_step HP4.out HB3.out))).mono ?_
        rintro e w9 ⟨rfl, hb9⟩
        have HB9 := Aside0.mk (below_step HB3.out hb9)
        have HW9 := Aside0.mk (below_step HP4.out HB9.out)
        clear hb9 HB3
        by_cases hca : ca = 0
        · subst hca
          have hl7 : (6 : Int) < (ws.length : Int) := by
            have h_ := HCD.out
            rw [if_pos rfl] at h_
            by_cases h6 : ws.length ≤ 6
            · rw [if_pos h6] at h_; exact absurd h_ hcn
            · omega
          have hc3 : code = 3 := by
            have h_ := HCD.out
            rw [if_pos rfl, if_neg (by omega)] at h_
            exact h_
          subst hc3
          go_wp2
          go_ret3
          exact ⟨_, rfl, ir_nil _ (Below.size HW9.out), below_alloc HW9.out _⟩
        · have hc1 : code = ca := by
            have h_ := HCD.out
            rw [if_neg hca] at h_
            exact h_
          subst hc1
          have hcb : (code != 0) = true := by simpa using hca
          have hcb2 : (code == 0) = false := by simpa using hca
          go_wp2
          go_ret3
          exact ⟨_, rfl, ir_nil _ (Below.size HW9.out), below_alloc HW9.out _⟩
      · rw [decide_eq_false hle] at HAS
        simp only [Bool.and_false, Bool.false_and] at HAS
        go_enter Tryd.func5, Tryd.ntmps5
        go_wp2_with fail
        refine (HF0.out _).mono ?_
        rintro e w1 ⟨rfl, hd1⟩
        have HB1 := Aside0.mk (hd1.below)
        clear hd1
        go_wp2_with fail
        refine (HF1.out _).mono ?_
        rintro e w2 ⟨rfl, hd2⟩
        have HB2 := Aside0.mk (below_step HB1.out hd2.below)
        clear hd2
        go_wp2_with fail
        refine (HAS.out _ (HP1.out.below HB2.out) (Kd.C_below HHC.out (below_step HP4.out HB2.out))).mono ?_
        rintro e w9 ⟨rfl, hb9⟩
        have HB9 := Aside0.mk (below_step HB2.out hb9)
        have HW9 := Aside0.mk (below_step HP4.out HB9.out)
        clear hb9 HB2
        by_cases hca : ca = 0
        · subst hca
          have hl7 : (6 : Int) < (ws.length : Int) := by
            have h_ := HCD.out
            rw [if_pos rfl] at h_
            by_cases h6 : ws.length ≤ 6
            · rw [if_pos h6] at h_; exact absurd h_ hcn
            · omega
          have hc3 : code = 3 := by
            have h_ := HCD.out
            rw [if_pos rfl, if_neg (by omega)] at h_
            exact h_
          subst hc3
          go_wp2
          go_ret3
          exact ⟨_, rfl, ir_nil _ (Below.size HW9.out), below_alloc HW9.out _⟩
        · have hc1 : code = ca := by
            have h_ := HCD.out
            rw [if_neg hca] at h_
            exact h_
          subst hc1
          have hcb : (code != 0) = true := by simpa using hca
          have hcb2 : (code == 0) = false := by simpa using hca
          go_wp2
          go_ret3
          exact ⟨_, rfl, ir_nil _ (Below.size HW9.out), below_alloc HW9.out _⟩
theorem specWG_calls (L : List Int) (hL : L.length = 72) (h8 : i8All L) (ws : List S52) (hws : ∀ x ∈ ws, wshR x) (h t1 places : Int) (A : Option Addr) (c : Nat) (b : List Int) (l code : Int) (hF : WgF L ws h t1 places b l code) (w : World) (hC : Kd.C k52 w A ws.length ws) :
    Calls Tryd.prog 5 #[(.agg (nums .i8 L).toArray), .slice A ws.length c, .int .i64 h, .int .i64 t1, .int .i64 places] w fun e w' => ∃ v, e = .returned (.tuple #[v, .int .i64 l, .int .i64 code]) ∧ Ir w' w.heap.size v b ∧ Below w.heap.size w w' := by
  obtain ⟨hcode, hbad, hgood⟩ := hF
  by_cases h0 : code = 0
  · subst h0
    obtain ⟨o1, o2, ⟨o3, o4, o5⟩, o6, o7⟩ := wg_ok hcode.symm
    obtain ⟨a, rfl⟩ := Int.eq_ofNat_of_zero_le o3
    have hg := hgood rfl
    rw [Int.toNat_natCast] at hg
    exact specWS_ok L hL o1 h8 ws o2 hws a (t1 - (a : Int)).toNat (by omega) t1 (by omega) places o6 ws.length rfl o7 A c b l (by rw [ws_scan _ _ _ o7 o6.1]; exact hg) w hC
  · obtain ⟨rfl, rfl⟩ := hbad h0
    exact specWG_bad L hL h8 ws hws h t1 places A c code hcode h0 w hC
end Go.Proofs.YtdepnieanfjhjaaDoor.X
