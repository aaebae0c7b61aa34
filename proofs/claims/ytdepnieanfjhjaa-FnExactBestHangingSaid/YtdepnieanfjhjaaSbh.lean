/- Contracts of functions, and plain facts: what each call answers, and what it leaves as it was. -/
import Derived.Test.YtdepnieanfjhjaaIbh
set_option linter.unusedVariables false
set_option linter.unusedSimpArgs false
namespace Go.Proofs.Ytdepnieanfjhjaa.X
open Go.RowKit Go.Proofs.YtdepnieanfjhjaaW.PrintWords Go.Proofs.YtdepnieanfjhjaaW.PrintLast Go.Proofs.YtdepnieanfjhjaaW.PrintMore
attribute [local go_sem] max2_int min2_int max_two min_two max_three min_three max_four min_four
theorem ir_nil (W : World) {base : Nat} (hb : base ≤ W.heap.size) : Ir (W.alloc (.cells #[] 2)) base (.slice (some ⟨W.heap.size, 0, none⟩) 0 0) [] := by
  have h2_ := World.ownsRow_made W (base := base) (e := 2) (size := 1) #[] 0 hb (by decide) (by rfl)
  simpa [Ir, nums] using h2_
theorem from_f (h : Int) : spec_l03From.f h = some (inR h 0 24) := by
  unfold spec_l03From.f spec_l00In.f inR
  by_cases h1 : 0 ≤ h <;> simp [h1]
set_option maxHeartbeats 8000000 in
set_option maxRecDepth 100000 in
theorem specBH_calls (L : List Int) (hL : L.length = 72) (h8 : i8All L) (ws : List S52) (hws : ∀ x ∈ ws, wshR x) (h : Int) (A : Option Addr) (c : Nat) (b : List Int) (l code : Int) (hF : BhF L ws h b l code) (w : World) (hC : Kd.C k52 w A ws.length ws) :
    Calls Try.prog 5 #[(.agg (nums .i8 L).toArray), .slice A ws.length c, .int .i64 h] w fun e w' => ∃ v, e = .returned (.tuple #[v, .int .i64 l, .int .i64 code]) ∧ Ir w' w.heap.size v b ∧ Below w.heap.size w w' := by
  obtain ⟨hcode, hbad, hgood⟩ := hF
  have HAS := Aside0.mk (fun W g h1 h2 => l03Asked_calls L hL h8 ws hws (inR h 0 24) g A c W h1 h2)
  have HFR := Aside0.mk (fun W => spec_l03From.calls h _ W (from_f h))
  have HOK : Aside0 (code = 0 → ∀ gs W vo, gs < W.heap.size → w.heap.size < gs → Below w.heap.size w W → HgS w.heap.size gs w.heap.size A ws.length c h W none → Blk W w.heap.size 33 (nums .i8 L) → Ir W (gs + 1) vo [] → Calls Try.prog 16 #[.pointer (some ⟨gs, 0, none⟩), vo, .int .i64 0] W fun e w' => e = .returned (.tuple #[]) ∧ HgS w.heap.size gs w.heap.size A ws.length c h w' (some (b, l)) ∧ KpG W w' (fun k => k = gs)) := ⟨fun h0 gs W vo p0 p1 p2 p3 p4 p5 => by
    obtain ⟨o1, o2, ⟨o3, o3'⟩, o4⟩ := bh_ok (h0 ▸ hcode).symm
    obtain ⟨m, rfl⟩ := Int.eq_ofNat_of_zero_le o3
    have hg := hgood h0
    rw [Int.toNat_natCast] at hg
    have := hangFrom_calls L hL o1 ws o2 m (by omega) w.heap.size gs ws.length c w.heap.size (by omega) rfl o4 A ws.length [] 0 none (gs + 1) vo W (by simp) rfl p5 (p5.ne (by omega)) p0 (by have := p2.size; omega) p3 p4 (Kd.C_kept_came (Kd.heap_iso _ (Kd.heap_pair (Kd.heap_int _) (Kd.heap_int _))) hC p2 (fun k hk => by omega))
    rw [hg] at this
    exact this⟩
  have HN : Aside0 ((nums .i8 L).length = 72) := ⟨by rw [nums_len]; exact hL⟩
  have HHC := Aside0.mk hC
  have HBAD := Aside0.mk hbad
  have HCD := Aside0.mk hcode
  unfold bhCode at HCD
  clear hcode hgood hbad h8 hws hL hC
  generalize askedF L ws (inR h 0 24) = ca at HAS HCD
  generalize inR h 0 24 = fine at HAS HFR
  have p1 : Blk (w.alloc (.cells (nums .i8 L).toArray 33)) w.heap.size 33 (nums .i8 L) := Blk.new w _ (nums .i8 L)
  have p4 : Below w.heap.size w (w.alloc (.cells (nums .i8 L).toArray 33)) := below_alloc (Below.refl _ _) _
  have HP1 := Aside0.mk p1
  have HP4 := Aside0.mk p4
  clear p1 p4
  by_cases hca : ca = 0
  · subst hca
    rw [if_pos rfl] at HCD
    by_cases hl6 : ws.length ≤ 6
    · rw [if_pos hl6] at HCD
      have hc0 : code = 0 := HCD.out
      subst hc0
      have HBO := Aside0.mk (HOK.out rfl)
      have hl7 : ¬ (6 : Int) < (ws.length : Int) := by omega
      clear HOK HCD HBAD
      go_enter Try.func5, Try.ntmps5
      go_wp2_with fail
      refine (HFR.out _).mono ?_
      rintro e w1 ⟨rfl, hd1⟩
      have HB1 := Aside0.mk hd1.below
      clear hd1
      go_wp2_with fail
      refine (HAS.out _ _ (HP1.out.below HB1.out) (Kd.C_below HHC.out (below_step HP4.out HB1.out))).mono ?_
      rintro e w2 ⟨rfl, hb2⟩
      have HB2 := Aside0.mk (below_step HB1.out hb2)
      clear hb2 HB1
      go_wp2_with fail
      have HW2 := Aside0.mk (below_step HP4.out HB2.out)
      have hsz := Below.size HW2.out
      have hsz2 := Below.size HB2.out
      simp only [World.size_alloc] at hsz2
      have r1 : Blk ((w2.alloc (.cells #[.pointer (some ⟨w.heap.size, 0, none⟩), .slice A ws.length c, .int .i64 h, .slice none 0 0, .int .i64 0, .bool false] 47)).alloc (.cells #[] 2)) w2.heap.size 47 [.pointer (some ⟨w.heap.size, 0, none⟩), .slice A ws.length c, .int .i64 h, .slice none 0 0, .int .i64 0, .bool false] := (Blk.new w2 _ _).alloc _
      have r2 : Below w2.heap.size w2 ((w2.alloc (.cells #[.pointer (some ⟨w.heap.size, 0, none⟩), .slice A ws.length c, .int .i64 h, .slice none 0 0, .int .i64 0, .bool false] 47)).alloc (.cells #[] 2)) := below_alloc (below_alloc (Below.refl _ _) _) _
      have r3 : Ir ((w2.alloc (.cells #[.pointer (some ⟨w.heap.size, 0, none⟩), .slice A ws.length c, .int .i64 h, .slice none 0 0, .int .i64 0, .bool false] 47)).alloc (.cells #[] 2)) (w2.heap.size + 1) (.slice (some ⟨w2.heap.size + 1, 0, none⟩) 0 0) [] := by
        have := ir_nil (w2.alloc (.cells #[.pointer (some ⟨w.heap.size, 0, none⟩), .slice A ws.length c, .int .i64 h, .slice none 0 0, .int .i64 0, .bool false] 47)) (base := w2.heap.size + 1) (by simp)
        simpa using this
      have r4 : ((w2.alloc (.cells #[.pointer (some ⟨w.heap.size, 0, none⟩), .slice A ws.length c, .int .i64 h, .slice none 0 0, .int .i64 0, .bool false] 47)).alloc (.cells #[] 2)).heap.size = w2.heap.size + 1 + 1 := by simp
      generalize ((w2.alloc (.cells #[.pointer (some ⟨w.heap.size, 0, none⟩), .slice A ws.length c, .int .i64 h, .slice none 0 0, .int .i64 0, .bool false] 47)).alloc (.cells #[] 2)) = W5 at r1 r2 r3 r4 ⊢
      have HW5 := Aside0.mk (below_step HW2.out r2)
      refine (HBO.out w2.heap.size W5 _ (by omega) (by omega) HW5.out ⟨_, _, _, r1, .inl ⟨rfl, rfl, rfl, rfl⟩⟩ ((HP1.out.below HB2.out).below r2) r3).mono ?_
      rintro e w3 ⟨rfl, hS, hK⟩
      obtain ⟨v, least, found, hB, hM⟩ := hS
      obtain ⟨rfl, hI⟩ : least = l ∧ Ir w3 w.heap.size v b := by
        rcases hM with ⟨hM, _⟩ | ⟨b', hM, _, hI, _⟩
        · cases hM
        · injection hM with hM
          injection hM with h1 h2
          subst h1 h2
          exact ⟨rfl, hI⟩
      have c3 := hB.cell 3 (v := v) rfl
      have c4 := hB.cell 4 (v := .int .i64 least) rfl
      have HII := Aside0.mk hI
      have HBW : Aside0 (Below w.heap.size w w3) := ⟨HW5.out.trans (hK.to_below (fun k hk => by omega) (by omega))⟩
      clear hM hI hK r1 r2 r3 hB HBO HFR HAS
      go_wp2_with fail
      refine seq_all (by kernel_rfl) (by kernel_rfl) (fun w7 hw7 => ?_)
      have HI7 : Aside0 (Ir w7 w.heap.size v b) := ⟨by rw [hw7]; exact HII.out.drew⟩
      have HB7 : Aside0 (Below w.heap.size w w7) := ⟨by rw [hw7]; exact below_drew HBW.out⟩
      replace c3 : w7.cell? ⟨w2.heap.size, 3, none⟩ = some v := by rw [hw7]; exact c3
      replace c4 : w7.cell? ⟨w2.heap.size, 4, none⟩ = some (.int .i64 least) := by rw [hw7]; exact c4
      clear hw7 HII HBW
      repeat still_step
      try refine wpStill_nil ?_
      go_wp2
      go_ret3
      exact ⟨v, rfl, HI7.out, HB7.out⟩
    · rw [if_neg hl6] at HCD
      have hc3 : code = 3 := HCD.out
      subst hc3
      have hcn : (3 : Int) ≠ 0 := by decide
      have hl7 : (6 : Int) < (ws.length : Int) := by omega
      clear HOK HCD hl6
      go_enter Try.func5, Try.ntmps5
      go_wp2_with fail
      refine (HFR.out _).mono ?_
      rintro e w1 ⟨rfl, hd1⟩
      have HB1 := Aside0.mk hd1.below
      clear hd1
      go_wp2_with fail
      refine (HAS.out _ _ (HP1.out.below HB1.out) (Kd.C_below HHC.out (below_step HP4.out HB1.out))).mono ?_
      rintro e w2 ⟨rfl, hb2⟩
      have HB2 := Aside0.mk (below_step HB1.out hb2)
      clear hb2 HB1
      have HW2 := Aside0.mk (below_step HP4.out HB2.out)
      obtain ⟨rfl, rfl⟩ := HBAD.out hcn
      go_wp2
      go_ret3
      exact ⟨_, rfl, (ir_nil _ (Below.size HW2.out)), below_alloc HW2.out _⟩
  · rw [if_neg hca] at HCD
    have hc1 : code = ca := HCD.out
    subst hc1
    have hcn : code ≠ 0 := hca
    have hcb : (code != 0) = true := by simpa using hca
    have hcb2 : (code == 0) = false := by simpa using hca
    clear HOK HCD
    go_enter Try.func5, Try.ntmps5
    go_wp2_with fail
    refine (HFR.out _).mono ?_
    rintro e w1 ⟨rfl, hd1⟩
    have HB1 := Aside0.mk hd1.below
    clear hd1
    go_wp2_with fail
    refine (HAS.out _ _ (HP1.out.below HB1.out) (Kd.C_below HHC.out (below_step HP4.out HB1.out))).mono ?_
    rintro e w2 ⟨rfl, hb2⟩
    have HB2 := Aside0.mk (below_step HB1.out hb2)
    clear hb2 HB1
    have HW2 := Aside0.mk (below_step HP4.out HB2.out)
    obtain ⟨rfl, rfl⟩ := HBAD.out hcn
    go_wp2
    go_ret3
    exact ⟨_, rfl, (ir_nil _ (Below.size HW2.out)), below_alloc HW2.out _⟩
end Go.Proofs.Ytdepnieanfjhjaa.X
