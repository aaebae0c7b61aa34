/- Contracts of functions, and plain facts: what each call answers, and what it leaves as it was. -/
import Derived.Test.YtjegcpagdpjidaaUn
import Derived.Test.YtjegcpagdpjidaaHSeq
import Derived.Test.YtjegcpagdpjidaaX5
import Derived.Test.YtjegcpagdpjidaaX8
import Derived.Test.YtjegcpagdpjidaaX10
import Derived.Test.YtjegcpagdpjidaaX11
set_option linter.unusedVariables false
set_option linter.unusedSimpArgs false
namespace Go.Proofs.Ytjegcpagdpjidaa.X
open Go.RowKit Go.Proofs.YtjegcpagdpjidaaW.PrintWords Go.Proofs.YtjegcpagdpjidaaW.PrintLast Go.Proofs.YtjegcpagdpjidaaW.PrintMore
attribute [local go_sem] max2_int min2_int max_two min_two max_three min_three max_four min_four
/-- the better of two sheets, for so many layers at the most -/
def smStep (lay : Int) (b t : S26 × List Int) : S26 × List Int := if t.1.f2 ≤ lay ∧ t.1.f0 * t.1.f1 < b.1.f0 * b.1.f1 then t else b
def smB (s : S26) (lay : Int) : S26 × List Int := (allS s).foldl (smStep lay) (s, [])
theorem made_R {w W : World} (hb : w.heap.size ≤ W.heap.size) : Kd.R (Kd.int .i64) 2 (W.alloc (.cells #[] 2)) w.heap.size (fun k => W.heap.size ≤ k) (.slice (some ⟨W.heap.size, 0, none⟩) 0 0) [] :=
  Kd.R_of_own (by
    have h2_ := World.ownsRow_made W (base := w.heap.size) (e := 2) (size := 1) #[] 0 hb (by decide) (by rfl)
    simpa [encs] using h2_) (fun k hk => by have : W.heap.size = k := by simpa [Value.ownBlock] using hk
                                            omega)
theorem allS_head {s : S26} (hs : ShS s) : (allS s)[0]? = some (s, []) := by
  obtain ⟨K, hA, _⟩ := allK_ex hs
  rw [hA]
  exact (bN_get mkS s (Nat.zero_le K) (Nat.zero_lt_succ 0)).trans rfl
set_option maxHeartbeats 8000000 in
set_option maxRecDepth 100000 in
theorem specSm_bad (s : S26) (ha : -32768 ≤ s.f0 ∧ s.f0 ≤ 32767) (hb : -32768 ≤ s.f1 ∧ s.f1 ≤ 32767) (hc : -32768 ≤ s.f2 ∧ s.f2 ≤ 32767) (lay : Int) (hs : ¬ ShS s) (w : World) :
    Calls Try.prog 7 #[.agg #[.int .i16 s.f0, .int .i16 s.f1, .int .i16 s.f2], .int .i64 lay] w fun e w' => ∃ v0_ : Value, e = .returned (.tuple #[v0_, .agg #[.int .i16 0, .int .i16 0, .int .i16 0], .int .i64 1]) ∧ Kd.R (Kd.int .i64) 2 w' w.heap.size (fun _ => True) v0_ [] ∧ Below w.heap.size w w' := by
  obtain ⟨wb, hwb⟩ : ∃ wb : World, wb = (w.alloc (.cells #[.int .i16 s.f0, .int .i16 s.f1, .int .i16 s.f2] 26)).alloc (.cells #[.int .i16 0, .int .i16 0, .int .i16 0] 26) := ⟨_, rfl⟩
  have hB : Below w.heap.size w wb := by rw [hwb]; exact below_alloc (below_alloc (Below.refl _ _) _) _
  have HB0 : Blk wb w.heap.size 26 [.int .i16 s.f0, .int .i16 s.f1, .int .i16 s.f2] := by rw [hwb]; exact (Blk.new w _ _).alloc _
  have HB5 : Aside0 (Blk wb (w.heap.size + 1) 26 [.int .i16 0, .int .i16 0, .int .i16 0]) := ⟨by rw [hwb]; exact Blk.at_ (by simp) rfl⟩
  have hu26 := Try.underlying26
  have HCE : Aside0 (∀ W, Below wb.heap.size wb W → W.cell? ⟨w.heap.size, 0, none⟩ = some (.int .i16 s.f0) ∧ W.cell? ⟨w.heap.size, 1, none⟩ = some (.int .i16 s.f1) ∧ W.cell? ⟨w.heap.size, 2, none⟩ = some (.int .i16 s.f2)) := ⟨fun W hb => ⟨pw_cell_below hb (HB0.cell 0 rfl), pw_cell_below hb (HB0.cell 1 rfl), pw_cell_below hb (HB0.cell 2 rfl)⟩⟩
  have HWB := Aside0.mk hB
  have hbs : w.heap.size + 1 < wb.heap.size := by rw [hwb]; simp
  have HOK := Aside0.mk (fun W => spec_l04Ok.calls s.f0 s.f1 s.f2 _ W (l04Ok_f ha hb hc))
  have HIN := Aside0.mk (fun W => spec_l00In.calls lay 1 144 _ W (l00In_f lay 1 144))
  have i2 : IntKind.i64.wrap s.f2 = s.f2 := IntWalk.i64_in _ ⟨by omega, by omega⟩
  obtain ⟨c0, c1, c2⟩ := HCE.out wb (Below.refl _ _)
  rw [show decide (Sh s.f0 s.f1 s.f2) = false from decide_eq_false hs] at HOK
  clear ha hb hc hs HB0 hB
  go_enter Try.func7, Try.ntmps7
  go_wp2_with fail
  rw [← hwb]
  refine (HOK.out _).mono ?_
  rintro e w1 ⟨rfl, hb⟩
  have HX1 := Aside0.mk hb
  clear c0 c1 c2 hb hwb
  have HRN := Aside0.mk (made_R (w := w) (W := w1) (Below.size (below_step HWB.out HX1.out)))
  have hsz := Below.size HX1.out
  go_wp2_with (refine wl_store (by rfl) 26 _ _ (by rfl) (w.heap.size + 1) 0 (by rfl) 26 3 [.int .i16 0, .int .i16 0, .int .i16 0] [.int .i16 0, .int .i16 0, .int .i16 0] (by rfl) ((HB5.out.below HX1.out).alloc _) (by rfl) (by decide) (by kernel_rfl) (by rfl) ?_; intro ws hBs hgs; have HRES : Aside0 (Blk ws (w.heap.size + 1) 26 [.int .i16 0, .int .i16 0, .int .i16 0]) := ⟨Blk.all hBs (by decide)⟩; have HRW := Aside0.mk (Kd.R_mono (ok' := fun _ => True) (Kd.R_grown HRN.out hgs (fun k_ hk e_ => by injection e_ with e_; omega)) (fun _ _ => trivial)); have HBW := Aside0.mk (pw_below_grown (below_alloc (below_step HWB.out HX1.out) (.cells #[] 2)) (some (w.heap.size + 1)) (by simp; omega) hgs (fun k_ e_ => by injection e_ with e_; omega)); clear hBs hgs)
  refine bodyPost_ret (results_list (rs := [.tmp 4, .cell 5 26, .tmp 6]) rfl (by simp) (.tmp (.cell (w.heap.size + 1) 26 #[.int .i16 0, .int .i16 0, .int .i16 0] (0, 0) _ rfl HRES.out Try.underlying26 rfl (by kernel_rfl) (.tmp .nil)))) rfl ?_
  exact ⟨_, rfl, HRW.out, HBW.out⟩
set_option maxHeartbeats 8000000 in
set_option maxRecDepth 100000 in
theorem specSm_far (s : S26) (ha : -32768 ≤ s.f0 ∧ s.f0 ≤ 32767) (hb : -32768 ≤ s.f1 ∧ s.f1 ≤ 32767) (hc : -32768 ≤ s.f2 ∧ s.f2 ≤ 32767) (lay : Int) (hs : ShS s) (hl : ¬ (1 ≤ lay ∧ lay ≤ 144)) (w : World) :
    Calls Try.prog 7 #[.agg #[.int .i16 s.f0, .int .i16 s.f1, .int .i16 s.f2], .int .i64 lay] w fun e w' => ∃ v0_ : Value, e = .returned (.tuple #[v0_, .agg #[.int .i16 0, .int .i16 0, .int .i16 0], .int .i64 2]) ∧ Kd.R (Kd.int .i64) 2 w' w.heap.size (fun _ => True) v0_ [] ∧ Below w.heap.size w w' := by
  obtain ⟨wb, hwb⟩ : ∃ wb : World, wb = (w.alloc (.cells #[.int .i16 s.f0, .int .i16 s.f1, .int .i16 s.f2] 26)).alloc (.cells #[.int .i16 0, .int .i16 0, .int .i16 0] 26) := ⟨_, rfl⟩
  have hB : Below w.heap.size w wb := by rw [hwb]; exact below_alloc (below_alloc (Below.refl _ _) _) _
  have HB0 : Blk wb w.heap.size 26 [.int .i16 s.f0, .int .i16 s.f1, .int .i16 s.f2] := by rw [hwb]; exact (Blk.new w _ _).alloc _
  have HB5 : Aside0 (Blk wb (w.heap.size + 1) 26 [.int .i16 0, .int .i16 0, .int .i16 0]) := ⟨by rw [hwb]; exact Blk.at_ (by simp) rfl⟩
  have hu26 := Try.underlying26
  have HCE : Aside0 (∀ W, Below wb.heap.size wb W → W.cell? ⟨w.heap.size, 0, none⟩ = some (.int .i16 s.f0) ∧ W.cell? ⟨w.heap.size, 1, none⟩ = some (.int .i16 s.f1) ∧ W.cell? ⟨w.heap.size, 2, none⟩ = some (.int .i16 s.f2)) := ⟨fun W hb => ⟨pw_cell_below hb (HB0.cell 0 rfl), pw_cell_below hb (HB0.cell 1 rfl), pw_cell_below hb (HB0.cell 2 rfl)⟩⟩
  have HWB := Aside0.mk hB
  have hbs : w.heap.size + 1 < wb.heap.size := by rw [hwb]; simp
  have HOK := Aside0.mk (fun W => spec_l04Ok.calls s.f0 s.f1 s.f2 _ W (l04Ok_f ha hb hc))
  have HIN := Aside0.mk (fun W => spec_l00In.calls lay 1 144 _ W (l00In_f lay 1 144))
  have i2 : IntKind.i64.wrap s.f2 = s.f2 := IntWalk.i64_in _ ⟨by omega, by omega⟩
  obtain ⟨c0, c1, c2⟩ := HCE.out wb (Below.refl _ _)
  rw [show decide (Sh s.f0 s.f1 s.f2) = true from decide_eq_true hs] at HOK
  rw [decide_eq_false hl] at HIN
  clear ha hb hc hs hl HB0 hB
  go_enter Try.func7, Try.ntmps7
  go_wp2_with fail
  rw [← hwb]
  refine (HOK.out _).mono ?_
  rintro e w1 ⟨rfl, hb⟩
  have HX1 := Aside0.mk hb
  clear c0 c1 c2 hb hwb
  go_wp2_with fail
  refine (HIN.out _).mono ?_
  rintro e w2 ⟨rfl, hd⟩
  have HX2 := Aside0.mk (below_step HX1.out hd.below)
  clear hd
  have HRN := Aside0.mk (made_R (w := w) (W := w2) (Below.size (below_step HWB.out HX2.out)))
  have hsz := Below.size HX2.out
  go_wp2_with (refine wl_store (by rfl) 26 _ _ (by rfl) (w.heap.size + 1) 0 (by rfl) 26 3 [.int .i16 0, .int .i16 0, .int .i16 0] [.int .i16 0, .int .i16 0, .int .i16 0] (by rfl) ((HB5.out.below HX2.out).alloc _) (by rfl) (by decide) (by kernel_rfl) (by rfl) ?_; intro ws hBs hgs; have HRES : Aside0 (Blk ws (w.heap.size + 1) 26 [.int .i16 0, .int .i16 0, .int .i16 0]) := ⟨Blk.all hBs (by decide)⟩; have HRW := Aside0.mk (Kd.R_mono (ok' := fun _ => True) (Kd.R_grown HRN.out hgs (fun k_ hk e_ => by injection e_ with e_; omega)) (fun _ _ => trivial)); have HBW := Aside0.mk (pw_below_grown (below_alloc (below_step HWB.out HX2.out) (.cells #[] 2)) (some (w.heap.size + 1)) (by simp; omega) hgs (fun k_ e_ => by injection e_ with e_; omega)); clear hBs hgs)
  refine bodyPost_ret (results_list (rs := [.tmp 4, .cell 5 26, .tmp 6]) rfl (by simp) (.tmp (.cell (w.heap.size + 1) 26 #[.int .i16 0, .int .i16 0, .int .i16 0] (0, 0) _ rfl HRES.out Try.underlying26 rfl (by kernel_rfl) (.tmp .nil)))) rfl ?_
  exact ⟨_, rfl, HRW.out, HBW.out⟩
set_option maxHeartbeats 8000000 in
set_option maxRecDepth 100000 in
theorem specSm_thick (s : S26) (ha : -32768 ≤ s.f0 ∧ s.f0 ≤ 32767) (hb : -32768 ≤ s.f1 ∧ s.f1 ≤ 32767) (hc : -32768 ≤ s.f2 ∧ s.f2 ≤ 32767) (lay : Int) (hs : ShS s) (hl : 1 ≤ lay ∧ lay ≤ 144) (h2 : lay < s.f2) (w : World) :
    Calls Try.prog 7 #[.agg #[.int .i16 s.f0, .int .i16 s.f1, .int .i16 s.f2], .int .i64 lay] w fun e w' => ∃ v0_ : Value, e = .returned (.tuple #[v0_, .agg #[.int .i16 0, .int .i16 0, .int .i16 0], .int .i64 6]) ∧ Kd.R (Kd.int .i64) 2 w' w.heap.size (fun _ => True) v0_ [] ∧ Below w.heap.size w w' := by
  obtain ⟨wb, hwb⟩ : ∃ wb : World, wb = (w.alloc (.cells #[.int .i16 s.f0, .int .i16 s.f1, .int .i16 s.f2] 26)).alloc (.cells #[.int .i16 0, .int .i16 0, .int .i16 0] 26) := ⟨_, rfl⟩
  have hB : Below w.heap.size w wb := by rw [hwb]; exact below_alloc (below_alloc (Below.refl _ _) _) _
  have HB0 : Blk wb w.heap.size 26 [.int .i16 s.f0, .int .i16 s.f1, .int .i16 s.f2] := by rw [hwb]; exact (Blk.new w _ _).alloc _
  have HB5 : Aside0 (Blk wb (w.heap.size + 1) 26 [.int .i16 0, .int .i16 0, .int .i16 0]) := ⟨by rw [hwb]; exact Blk.at_ (by simp) rfl⟩
  have hu26 := Try.underlying26
  have HCE : Aside0 (∀ W, Below wb.heap.size wb W → W.cell? ⟨w.heap.size, 0, none⟩ = some (.int .i16 s.f0) ∧ W.cell? ⟨w.heap.size, 1, none⟩ = some (.int .i16 s.f1) ∧ W.cell? ⟨w.heap.size, 2, none⟩ = some (.int .i16 s.f2)) := ⟨fun W hb => ⟨pw_cell_below hb (HB0.cell 0 rfl), pw_cell_below hb (HB0.cell 1 rfl), pw_cell_below hb (HB0.cell 2 rfl)⟩⟩
  have HWB := Aside0.mk hB
  have hbs : w.heap.size + 1 < wb.heap.size := by rw [hwb]; simp
  have HOK := Aside0.mk (fun W => spec_l04Ok.calls s.f0 s.f1 s.f2 _ W (l04Ok_f ha hb hc))
  have HIN := Aside0.mk (fun W => spec_l00In.calls lay 1 144 _ W (l00In_f lay 1 144))
  have i2 : IntKind.i64.wrap s.f2 = s.f2 := IntWalk.i64_in _ ⟨by omega, by omega⟩
  obtain ⟨c0, c1, c2⟩ := HCE.out wb (Below.refl _ _)
  rw [show decide (Sh s.f0 s.f1 s.f2) = true from decide_eq_true hs] at HOK
  rw [decide_eq_true hl] at HIN
  clear ha hb hc hs hl HB0 hB
  go_enter Try.func7, Try.ntmps7
  go_wp2_with fail
  rw [← hwb]
  refine (HOK.out _).mono ?_
  rintro e w1 ⟨rfl, hb⟩
  have HX1 := Aside0.mk hb
  clear c0 c1 c2 hb hwb
  go_wp2_with fail
  refine (HIN.out _).mono ?_
  rintro e w2 ⟨rfl, hd⟩
  have HX2 := Aside0.mk (below_step HX1.out hd.below)
  clear hd
  obtain ⟨c0, c1, c2⟩ := HCE.out _ HX2.out
  have HRN := Aside0.mk (made_R (w := w) (W := w2) (Below.size (below_step HWB.out HX2.out)))
  have hsz := Below.size HX2.out
  go_wp2_with (refine wl_store (by rfl) 26 _ _ (by rfl) (w.heap.size + 1) 0 (by rfl) 26 3 [.int .i16 0, .int .i16 0, .int .i16 0] [.int .i16 0, .int .i16 0, .int .i16 0] (by rfl) ((HB5.out.below HX2.out).alloc _) (by rfl) (by decide) (by kernel_rfl) (by rfl) ?_; intro ws hBs hgs; have HRES : Aside0 (Blk ws (w.heap.size + 1) 26 [.int .i16 0, .int .i16 0, .int .i16 0]) := ⟨Blk.all hBs (by decide)⟩; have HRW := Aside0.mk (Kd.R_mono (ok' := fun _ => True) (Kd.R_grown HRN.out hgs (fun k_ hk e_ => by injection e_ with e_; omega)) (fun _ _ => trivial)); have HBW := Aside0.mk (pw_below_grown (below_alloc (below_step HWB.out HX2.out) (.cells #[] 2)) (some (w.heap.size + 1)) (by simp; omega) hgs (fun k_ e_ => by injection e_ with e_; omega)); clear hBs hgs)
  refine bodyPost_ret (results_list (rs := [.tmp 4, .cell 5 26, .tmp 6]) rfl (by simp) (.tmp (.cell (w.heap.size + 1) 26 #[.int .i16 0, .int .i16 0, .int .i16 0] (0, 0) _ rfl HRES.out Try.underlying26 rfl (by kernel_rfl) (.tmp .nil)))) rfl ?_
  exact ⟨_, rfl, HRW.out, HBW.out⟩
theorem nd_elem {W : World} {base go co : Nat} {L : List (S26 × List Int)} (h : Kd.R k63 63 W base (fun _ => True) (.slice (some ⟨go, 0, none⟩) L.length co) (L.map nd)) (i : Nat) (x : S26 × List Int) (hx : L[i]? = some x) :
    ∃ A3 c3, W.cell? ⟨go, i * 4, none⟩ = some (.int .i16 x.1.f0) ∧ W.cell? ⟨go, i * 4 + 1, none⟩ = some (.int .i16 x.1.f1) ∧ W.cell? ⟨go, i * 4 + 2, none⟩ = some (.int .i16 x.1.f2) ∧ W.cell? ⟨go, i * 4 + 3, none⟩ = some (.slice A3 x.2.length c3) ∧ Kd.R (Kd.int .i64) 2 W base (fun k => base ≤ k) (.slice A3 x.2.length c3) x.2 := by
  have hi : i < L.length := (List.getElem?_eq_some_iff.1 hx).1
  obtain ⟨c, hcl, hM, hcc, _⟩ := Kd.R_elem h (nd x) (i : Int) (by omega) (by omega)
  have et : (L.map nd).getD (i : Int).toNat (nd x) = nd x := by
    rw [show (i : Int).toNat = i from rfl, List.getD_eq_getElem?_getD, List.getElem?_map, hx]; rfl
  rw [et] at hM
  obtain ⟨v3, rfl, hR⟩ := k63_openM hM
  obtain ⟨A3, c3, rfl, _, _⟩ := Kd.R_reads hR
  exact ⟨A3, c3, hcc 0 _ rfl, hcc 1 _ rfl, hcc 2 _ rfl, hcc 3 _ rfl, Kd.R_mono (Kd.R_bound hR) (fun k hk => hk.2.1)⟩
theorem smB_ex (l : List (S26 × List Int)) (lay : Int) (i : Nat) (x b : S26 × List Int) (hx : l[i]? = some x) (b0 : S26 × List Int) (hb : (l.take i).foldl (smStep lay) b0 = b) : (l.take (i + 1)).foldl (smStep lay) b0 = smStep lay b x := by
  rw [List.take_add_one, hx, List.foldl_append, hb]; rfl
theorem mul_16 {a b : Int} (ha : 1 ≤ a ∧ a ≤ 1296) (hb : 1 ≤ b ∧ b ≤ 1296) : IntKind.i64.wrap (a * b) = a * b := by
  have h1 : 0 ≤ a * b := Int.mul_nonneg (by omega) (by omega)
  have h2 : a * b ≤ 1296 * 1296 := Int.mul_le_mul ha.2 hb.2 (by omega) (by omega)
  exact IntWalk.i64_in _ ⟨by omega, by omega⟩
set_option maxHeartbeats 8000000 in
set_option maxRecDepth 100000 in
theorem specSm_go (s : S26) (ha : -32768 ≤ s.f0 ∧ s.f0 ≤ 32767) (hb : -32768 ≤ s.f1 ∧ s.f1 ≤ 32767) (hc : -32768 ≤ s.f2 ∧ s.f2 ≤ 32767) (lay : Int) (hs : ShS s) (hl : 1 ≤ lay ∧ lay ≤ 144) (h2 : ¬ lay < s.f2) (w : World) :
    Calls Try.prog 7 #[.agg #[.int .i16 s.f0, .int .i16 s.f1, .int .i16 s.f2], .int .i64 lay] w fun e w' => ∃ v0_ : Value, e = .returned (.tuple #[v0_, .agg #[.int .i16 (smB s lay).1.f0, .int .i16 (smB s lay).1.f1, .int .i16 (smB s lay).1.f2], .int .i64 0]) ∧ Kd.R (Kd.int .i64) 2 w' w.heap.size (fun _ => True) v0_ (smB s lay).2 ∧ Below w.heap.size w w' := by
  obtain ⟨wb, hwb⟩ : ∃ wb : World, wb = (w.alloc (.cells #[.int .i16 s.f0, .int .i16 s.f1, .int .i16 s.f2] 26)).alloc (.cells #[.int .i16 0, .int .i16 0, .int .i16 0] 26) := ⟨_, rfl⟩
  have hB : Below w.heap.size w wb := by rw [hwb]; exact below_alloc (below_alloc (Below.refl _ _) _) _
  have HB0 : Blk wb w.heap.size 26 [.int .i16 s.f0, .int .i16 s.f1, .int .i16 s.f2] := by rw [hwb]; exact (Blk.new w _ _).alloc _
  have HB5 : Aside0 (Blk wb (w.heap.size + 1) 26 [.int .i16 0, .int .i16 0, .int .i16 0]) := ⟨by rw [hwb]; exact Blk.at_ (by simp) rfl⟩
  have hu26 := Try.underlying26
  have HCE : Aside0 (∀ W, Below wb.heap.size wb W → W.cell? ⟨w.heap.size, 0, none⟩ = some (.int .i16 s.f0) ∧ W.cell? ⟨w.heap.size, 1, none⟩ = some (.int .i16 s.f1) ∧ W.cell? ⟨w.heap.size, 2, none⟩ = some (.int .i16 s.f2)) := ⟨fun W hb => ⟨pw_cell_below hb (HB0.cell 0 rfl), pw_cell_below hb (HB0.cell 1 rfl), pw_cell_below hb (HB0.cell 2 rfl)⟩⟩
  have HWB := Aside0.mk hB
  have hbs : w.heap.size + 1 < wb.heap.size := by rw [hwb]; simp
  have HOK := Aside0.mk (fun W => spec_l04Ok.calls s.f0 s.f1 s.f2 _ W (l04Ok_f ha hb hc))
  have HIN := Aside0.mk (fun W => spec_l00In.calls lay 1 144 _ W (l00In_f lay 1 144))
  have i2 : IntKind.i64.wrap s.f2 = s.f2 := IntWalk.i64_in _ ⟨by omega, by omega⟩
  obtain ⟨c0, c1, c2⟩ := HCE.out wb (Below.refl _ _)
  rw [show decide (Sh s.f0 s.f1 s.f2) = true from decide_eq_true hs] at HOK
  rw [decide_eq_true hl] at HIN
  obtain ⟨K, hA, hKM, hKl, hKk⟩ := allK_ex hs
  have HAL := Aside0.mk (fun W => l04All_calls s hs W)
  have HSH : Aside0 (∀ t ∈ allS s, ShS t.1) := ⟨by rw [hA]; exact bN_sh hs K⟩
  have HSH0 := Aside0.mk hs
  have HLN : Aside0 ((allS s).length ≤ 241864704) := ⟨by rw [hKl]; exact hKM⟩
  have HNZ : Aside0 (0 < (allS s).length) := ⟨allS_pos hs⟩
  have HHD := Aside0.mk (allS_head hs)
  clear ha hb hc hs hl HB0 hB hA hKl hKk hKM
  obtain ⟨L, hL⟩ : ∃ L, allS s = L := ⟨_, rfl⟩
  have HL := Aside0.mk hL
  rw [hL] at HAL HSH HLN HNZ HHD
  clear hL
  have hll := HLN.out
  go_enter Try.func7, Try.ntmps7
  go_wp2_with fail
  rw [← hwb]
  refine (HOK.out _).mono ?_
  rintro e w1 ⟨rfl, hb⟩
  have HX1 := Aside0.mk hb
  clear c0 c1 c2 hb hwb
  go_wp2_with fail
  refine (HIN.out _).mono ?_
  rintro e w2 ⟨rfl, hd⟩
  have HX2 := Aside0.mk (below_step HX1.out hd.below)
  clear hd
  obtain ⟨c0, c1, c2⟩ := HCE.out _ HX2.out
  go_wp2_with fail
  refine (HAL.out _).mono ?_
  rintro e w3 ⟨v, rfl, hR, hb⟩
  have HX3 := Aside0.mk (below_step HX2.out hb)
  obtain ⟨go, co, rfl, _⟩ := Kd.R_form hR (by rw [List.length_map]; exact HNZ.out)
  rw [List.length_map] at hR ⊢
  have hg0 : go < w3.heap.size := Kd.R_lt hR go rfl
  have HZ2 := Aside0.mk (Below.size (below_step HWB.out HX2.out))
  have HEL := Aside0.mk (nd_elem hR)
  clear hb hR c0 c1 c2
  obtain ⟨Ab, cAb, c0, c1, c2, c3, hRb⟩ := HEL.out 0 _ HHD.out
  simp only [Nat.zero_mul, Nat.zero_add] at c0 c1 c2 c3
  have HRB := Aside0.mk hRb
  clear hRb
  have hln : (0 : Int) < (L.length : Int) := by have := HNZ.out; omega
  have hu63 := Try.underlying63
  go_wp2_with (refine wl_store (by rfl) 63 _ _ (by rfl) w3.heap.size 0 (by rfl) 63 4 [.int .i16 0, .int .i16 0, .int .i16 0, .slice none 0 0] [.int .i16 s.f0, .int .i16 s.f1, .int .i16 s.f2, .slice Ab ([] : List Int).length cAb] (by rfl) (Blk.new w3 63 [.int .i16 0, .int .i16 0, .int .i16 0, .slice none 0 0]) (by rfl) (by decide) (by kernel_rfl) (by rfl) ?_; intro ws hBs hgs; have HW3 := Aside0.mk (stored_below hgs); have HB8 : Aside0 (Blk ws w3.heap.size 63 [.int .i16 s.f0, .int .i16 s.f1, .int .i16 s.f2, .slice Ab ([] : List Int).length cAb]) := ⟨Blk.all hBs (by decide)⟩; clear hBs hgs c0 c1 c2 c3)
  go_loopw [9] (fun v9 w' => ∃ (i : Nat) (b : S26 × List Int) (A : Option Addr) (cA : Nat), 1 ≤ i ∧ i ≤ L.length ∧ v9 = .int .i64 i ∧ Aside0 ((L.take i).foldl (smStep lay) (s, []) = b) ∧ Aside0 (ShS b.1) ∧ Aside0 (Kd.R (Kd.int .i64) 2 w3 w2.heap.size (fun k => w2.heap.size ≤ k) (.slice A b.2.length cA) b.2) ∧ Aside0 (Below w3.heap.size w3 w') ∧ Aside0 (Blk w' w3.heap.size 63 [.int .i16 b.1.f0, .int .i16 b.1.f1, .int .i16 b.1.f2, .slice A b.2.length cA])) (fun v9 _ => L.length - (intOf v9).toNat)
  case atStart => exact ⟨1, (s, []), Ab, cAb, by omega, by have := HNZ.out; omega, rfl, ⟨by rw [smB_ex L lay 0 _ (s, []) HHD.out _ rfl]; unfold smStep; split <;> rfl⟩, HSH0, HRB, HW3, HB8⟩
  case round =>
    clear HW3 HB8 HRB
    obtain ⟨i, b, A, cA, hi1, hi, rfl, HY, HSB, HRB, HW3, HB8⟩ := hrel
    obtain ⟨wo, rfl⟩ : ∃ wo : World, wo = wr := ⟨_, rfl⟩
    have hi9 : IntKind.i64.wrap ((i : Int) + 1) = (i : Int) + 1 := IntWalk.i64_in _ ⟨by omega, by omega⟩
    have hbs := HSB.out
    unfold ShS Sh at hbs
    have hbm := mul_16 ⟨hbs.1, hbs.2.1⟩ ⟨hbs.2.2.1, hbs.2.2.2.1⟩
    have j0 : IntKind.i64.wrap b.1.f0 = b.1.f0 := IntWalk.i64_in _ ⟨by omega, by omega⟩
    have j1 : IntKind.i64.wrap b.1.f1 = b.1.f1 := IntWalk.i64_in _ ⟨by omega, by omega⟩
    by_cases hil : i < L.length
    · have hii : (i : Int) < (L.length : Int) := by omega
      have hi0 : (0 : Int) ≤ (i : Int) := by omega
      have HX : Aside0 (L[i]? = some L[i]) := ⟨List.getElem?_eq_getElem hil⟩
      have HSX := Aside0.mk (HSH.out L[i] (List.getElem_mem _))
      generalize L[i] = x at *
      have HST := Aside0.mk (smB_ex L lay i x b HX.out _ HY.out)
      have hxs := HSX.out
      unfold ShS Sh at hxs
      have hxm := mul_16 ⟨hxs.1, hxs.2.1⟩ ⟨hxs.2.2.1, hxs.2.2.2.1⟩
      have k0 : IntKind.i64.wrap x.1.f0 = x.1.f0 := IntWalk.i64_in _ ⟨by omega, by omega⟩
      have k1 : IntKind.i64.wrap x.1.f1 = x.1.f1 := IntWalk.i64_in _ ⟨by omega, by omega⟩
      have k2 : IntKind.i64.wrap x.1.f2 = x.1.f2 := IntWalk.i64_in _ ⟨by omega, by omega⟩
      obtain ⟨Ax, cAx, e0, e1, e2, e3, hRx⟩ := HEL.out i x HX.out
      have HRX := Aside0.mk hRx
      have HEW : Aside0 (∀ W, Below w3.heap.size w3 W → W.cell? ⟨go, i * 4, none⟩ = some (.int .i16 x.1.f0) ∧ W.cell? ⟨go, i * 4 + 1, none⟩ = some (.int .i16 x.1.f1) ∧ W.cell? ⟨go, i * 4 + 2, none⟩ = some (.int .i16 x.1.f2) ∧ W.cell? ⟨go, i * 4 + 3, none⟩ = some (.slice Ax x.2.length cAx)) := ⟨fun W hb => ⟨pw_cell_below hb e0, pw_cell_below hb e1, pw_cell_below hb e2, pw_cell_below hb e3⟩⟩
      clear e0 e1 e2 e3 hRx
      go_wp2_with fail
      refine seq_all (by kernel_rfl) (by kernel_rfl) (fun w4 hw4 => ?_)
      replace HW3 : Aside0 (Below w3.heap.size w3 w4) := ⟨by rw [hw4]; exact below_drew HW3.out⟩
      replace HB8 : Aside0 (Blk w4 w3.heap.size 63 [.int .i16 b.1.f0, .int .i16 b.1.f1, .int .i16 b.1.f2, .slice A b.2.length cA]) := ⟨by rw [hw4]; exact HB8.out.drew⟩
      clear hw4
      obtain ⟨e0, e1, e2, e3⟩ := HEW.out _ HW3.out
      have d0 := HB8.out.cell 0 (v := .int .i16 b.1.f0) rfl
      have d1 := HB8.out.cell 1 (v := .int .i16 b.1.f1) rfl
      repeat still_step
      refine wpStill_nil ?_
      by_cases hc2 : x.1.f2 ≤ lay
      · by_cases hc3 : x.1.f0 * x.1.f1 < b.1.f0 * b.1.f1
        · have HN : Aside0 (smStep lay b x = x) := ⟨if_pos ⟨hc2, hc3⟩⟩
          rw [HN.out] at HST
          go_wp2_with (refine wl_store (by rfl) 63 _ _ (by rfl) w3.heap.size 0 (by rfl) 63 4 [.int .i16 b.1.f0, .int .i16 b.1.f1, .int .i16 b.1.f2, .slice A b.2.length cA] [.int .i16 x.1.f0, .int .i16 x.1.f1, .int .i16 x.1.f2, .slice Ax x.2.length cAx] (by rfl) HB8.out (by rfl) (show 0 + 4 ≤ 4 from Nat.le_refl _) (by kernel_rfl) (by rfl) ?_; intro ws hBs hgs; have HW5 := Aside0.mk (pw_below_grown HW3.out (some w3.heap.size) (Below.size HW3.out) hgs (fun k_ e_ => by injection e_ with e_; omega)); have HB9 : Aside0 (Blk ws w3.heap.size 63 [.int .i16 x.1.f0, .int .i16 x.1.f1, .int .i16 x.1.f2, .slice Ax x.2.length cAx]) := ⟨Blk.all hBs (show 4 ≤ 4 from Nat.le_refl _)⟩; clear hBs hgs e0 e1 e2 e3 d0 d1)
          go_roundw
          case rel => exact ⟨i + 1, x, Ax, cAx, by omega, by omega, by go_num, HST, HSX, HRX, HW5, HB9⟩
          case measure => simp [intOf] <;> omega
        · have HN : Aside0 (smStep lay b x = b) := ⟨if_neg (fun h => hc3 h.2)⟩
          rw [HN.out] at HST
          go_wp2
          go_roundw
          case rel => exact ⟨i + 1, b, A, cA, by omega, by omega, by go_num, HST, HSB, HRB, HW3, HB8⟩
          case measure => simp [intOf] <;> omega
      · have HN : Aside0 (smStep lay b x = b) := ⟨if_neg (fun h => hc2 h.1)⟩
        rw [HN.out] at HST
        go_wp2
        go_roundw
        case rel => exact ⟨i + 1, b, A, cA, by omega, by omega, by go_num, HST, HSB, HRB, HW3, HB8⟩
        case measure => simp [intOf] <;> omega
    · have hie : i = L.length := by omega
      have hii : ¬ (i : Int) < (L.length : Int) := by omega
      have HBE : Aside0 (smB s lay = b) := ⟨by unfold smB; rw [HL.out, ← HY.out, hie, List.take_length]⟩
      go_wp2_with fail
      refine seq_region 5 (by kernel_rfl) (by kernel_rfl) (fun w4 hw4 => ?_)
      replace HW3 : Aside0 (Below w3.heap.size w3 w4) := ⟨by rw [hw4]; exact below_drew HW3.out⟩
      replace HB8 : Aside0 (Blk w4 w3.heap.size 63 [.int .i16 b.1.f0, .int .i16 b.1.f1, .int .i16 b.1.f2, .slice A b.2.length cA]) := ⟨by rw [hw4]; exact HB8.out.drew⟩
      clear hw4
      have d0 := HB8.out.cell 0 (v := .int .i16 b.1.f0) rfl
      have d1 := HB8.out.cell 1 (v := .int .i16 b.1.f1) rfl
      have d2 := HB8.out.cell 2 (v := .int .i16 b.1.f2) rfl
      have d3 := HB8.out.cell 3 (v := .slice A b.2.length cA) rfl
      have HX4 := Aside0.mk (below_step HX3.out HW3.out)
      have hsz := Below.size HX4.out
      simp only [List.take_succ_cons, List.take_zero, List.drop_succ_cons, List.drop_zero]
      repeat still_step
      try refine wpStill_nil ?_
      have hz2 := HZ2.out
      have hz3 := Below.size HX2.out
      go_wp2_with (refine wl_store (by rfl) 26 _ _ (by rfl) (w.heap.size + 1) 0 (by rfl) 26 3 [.int .i16 0, .int .i16 0, .int .i16 0] [.int .i16 b.1.f0, .int .i16 b.1.f1, .int .i16 b.1.f2] (by rfl) (HB5.out.below HX4.out) (by rfl) (by decide) (by kernel_rfl) (by rfl) ?_; intro ws hBs hgs; have HRES : Aside0 (Blk ws (w.heap.size + 1) 26 [.int .i16 b.1.f0, .int .i16 b.1.f1, .int .i16 b.1.f2]) := ⟨Blk.all hBs (by decide)⟩; have HRW := Aside0.mk (Kd.R_lower (Kd.R_mono (ok' := fun _ => True) (Kd.R_grown (Kd.R_below HRB.out HW3.out) hgs (fun k_ hk e_ => by injection e_ with e_; omega)) (fun _ _ => trivial)) HZ2.out); have HBW := Aside0.mk (pw_below_grown (below_step HWB.out HX4.out) (some (w.heap.size + 1)) (Below.size (below_step HWB.out HX4.out)) hgs (fun k_ e_ => by injection e_ with e_; omega)); clear hBs hgs d0 d1 d2 d3)
      refine bodyPost_ret (results_list (rs := [.tmp 4, .cell 5 26, .tmp 6]) rfl (by simp) (.tmp (.cell (w.heap.size + 1) 26 #[.int .i16 b.1.f0, .int .i16 b.1.f1, .int .i16 b.1.f2] (0, 0) _ rfl HRES.out Try.underlying26 rfl (by kernel_rfl) (.tmp .nil)))) rfl ?_
      rw [HBE.out]
      exact ⟨_, rfl, HRW.out, HBW.out⟩
instance (s : S26) : Decidable (ShS s) := by unfold ShS; infer_instance
/-- the smallest sheet for so many layers: folds, sheet, code -/
def smR_ (s : S26) (lay : Int) : List Int × Int × Int × Int × Int :=
  if ShS s then (if 1 ≤ lay ∧ lay ≤ 144 then (if lay < s.f2 then ([], 0, 0, 0, 6) else ((smB s lay).2, (smB s lay).1.f0, (smB s lay).1.f1, (smB s lay).1.f2, 0)) else ([], 0, 0, 0, 2)) else ([], 0, 0, 0, 1)
theorem specSm_calls (s : S26) (ha : -32768 ≤ s.f0 ∧ s.f0 ≤ 32767) (hb : -32768 ≤ s.f1 ∧ s.f1 ≤ 32767) (hc : -32768 ≤ s.f2 ∧ s.f2 ≤ 32767) (lay : Int) (w : World) :
    Calls Try.prog 7 #[.agg #[.int .i16 s.f0, .int .i16 s.f1, .int .i16 s.f2], .int .i64 lay] w fun e w' => ∃ v0_ : Value, e = .returned (.tuple #[v0_, .agg #[.int .i16 (smR_ s lay).2.1, .int .i16 (smR_ s lay).2.2.1, .int .i16 (smR_ s lay).2.2.2.1], .int .i64 (smR_ s lay).2.2.2.2]) ∧ Kd.R (Kd.int .i64) 2 w' w.heap.size (fun _ => True) v0_ (smR_ s lay).1 ∧ Below w.heap.size w w' := by
  unfold smR_
  by_cases hs : ShS s
  · rw [if_pos hs]
    by_cases hl : 1 ≤ lay ∧ lay ≤ 144
    · rw [if_pos hl]
      by_cases h2 : lay < s.f2
      · rw [if_pos h2]; exact specSm_thick s ha hb hc lay hs hl h2 w
      · rw [if_neg h2]; exact specSm_go s ha hb hc lay hs hl h2 w
    · rw [if_neg hl]; exact specSm_far s ha hb hc lay hs hl w
  · rw [if_neg hs]; exact specSm_bad s ha hb hc lay hs w
def spec_SmallestFor.f (a0_0 a0_1 a0_2 a1 : Int) : Option (List Int × Int × Int × Int × Int) := if I16 a0_0 ∧ I16 a0_1 ∧ I16 a0_2 then some (smR_ ⟨a0_0, a0_1, a0_2⟩ a1) else none
theorem spec_SmallestFor.calls (a0_0 a0_1 a0_2 a1 : Int) (r1 : List Int) (r2 r3 r4 r5 : Int) (w : World) (h : spec_SmallestFor.f a0_0 a0_1 a0_2 a1 = some (r1, r2, r3, r4, r5)) :
    Calls Try.prog 7 #[.agg #[.int .i16 a0_0, .int .i16 a0_1, .int .i16 a0_2], .int .i64 a1] w fun e w' => ∃ v0_ : Value, e = .returned (.tuple #[v0_, .agg #[.int .i16 r2, .int .i16 r3, .int .i16 r4], .int .i64 r5]) ∧ Kd.R (Kd.int .i64) 2 w' w.heap.size (fun _ => True) v0_ r1 ∧ Below w.heap.size w w' := by
  unfold spec_SmallestFor.f at h
  by_cases hs : I16 a0_0 ∧ I16 a0_1 ∧ I16 a0_2
  · rw [if_pos hs] at h
    have h2 := Option.some.inj h
    have h3 := specSm_calls ⟨a0_0, a0_1, a0_2⟩ hs.1 hs.2.1 hs.2.2 a1 w
    rw [h2] at h3
    exact h3
  · rw [if_neg hs] at h
    cases h
/-! ### impl_SmallestFor: function 9 -/
def impl_SmallestFor.l0 : Nat → Int → List (S26) → List (List Int) → Int → List (S26) → Int → Int → Option (List Int × Int × Int × Int × Int)
  | 0, _, _, _, _, _, _, _ => none
  | k + 1, x1, x7, x8, x9, x34, x35, x36 => if x36 < x35 then (if 0 ≤ x36 then (if x36 < (x34.length : Int) then (if (wrap64 ((rd_T26 x34 x36).f2)) ≤ x1 then (if 0 ≤ x9 then (if x9 < (x7.length : Int) then (if (wrap64 ((wrap64 ((rd_T26 x34 x36).f0)) * (wrap64 ((rd_T26 x34 x36).f1)))) < (wrap64 ((wrap64 ((rd_T26 x7 x9).f0)) * (wrap64 ((rd_T26 x7 x9).f1)))) then (impl_SmallestFor.l0 k x1 x7 x8 x36 x34 x35 (wrap64 (x36 + 1))) else (impl_SmallestFor.l0 k x1 x7 x8 x9 x34 x35 (wrap64 (x36 + 1)))) else (none)) else (none)) else (impl_SmallestFor.l0 k x1 x7 x8 x9 x34 x35 (wrap64 (x36 + 1)))) else (none)) else (none)) else (if 0 ≤ x9 then (if x9 < (x8.length : Int) then (if x9 < (x7.length : Int) then (some (rd_L3 x8 x9, (rd_T26 x7 x9).f0, (rd_T26 x7 x9).f1, (rd_T26 x7 x9).f2, 0)) else (none)) else (none)) else (none))
def impl_SmallestFor.f (k : Nat) (a0_0 : Int) (a0_1 : Int) (a0_2 : Int) (a1 : Int) : Option (List Int × Int × Int × Int × Int) := (impl_ValidSheet.f a0_0 a0_1 a0_2).bind fun t103 => (if t103 = true then ((impl_within.f a1 1 144).bind fun t104 => (if t104 = true then (if (wrap64 (a0_2)) > a1 then (some (([] : List Int), 0, 0, 0, 6)) else ((impl_foldings.f a0_0 a0_1 a0_2).bind fun bt105 => (impl_SmallestFor.l0 k a1 bt105.1 bt105.2 0 bt105.1 (bt105.1.length : Int) 0))) else (some (([] : List Int), 0, 0, 0, 2)))) else (some (([] : List Int), 0, 0, 0, 1)))
theorem impl_SmallestFor.mono_l : ∀ k, (∀ y0 y1 y2 y3 y4 y5 y6, LeO (impl_SmallestFor.l0 k y0 y1 y2 y3 y4 y5 y6) (impl_SmallestFor.l0 (k + 1) y0 y1 y2 y3 y4 y5 y6))
  | 0 => fun _ _ _ _ _ _ _ r h => by simp [impl_SmallestFor.l0] at h
  | k + 1 => by
    have ih0 := impl_SmallestFor.mono_l k
    · intro y0 y1 y2 y3 y4 y5 y6
      unfold impl_SmallestFor.l0
      repeat' first
      | (with_reducible exact ih0 _ _ _ _ _ _ _)
      | (with_reducible exact LeO.refl _)
      | (with_reducible exact LeO.none _)
      | (with_reducible refine LeO.ite ?_ ?_)
      | (with_reducible refine LeO.bind ?_ (fun _ => ?_))
      | exact ih0 _ _ _ _ _ _ _
      | exact LeO.none _
      | refine LeO.ite ?_ ?_
      | refine LeO.bind ?_ (fun _ => ?_)
theorem impl_SmallestFor.mono : ∀ a0 a1 a2 a3 k, LeO (impl_SmallestFor.f k a0 a1 a2 a3) (impl_SmallestFor.f (k + 1) a0 a1 a2 a3) := by
  intro a0 a1 a2 a3 k
  have ih0 := impl_SmallestFor.mono_l k
  unfold impl_SmallestFor.f
  repeat' first
      | (with_reducible exact ih0 _ _ _ _ _ _ _)
      | (with_reducible exact LeO.refl _)
      | (with_reducible exact LeO.none _)
      | (with_reducible refine LeO.ite ?_ ?_)
      | (with_reducible refine LeO.bind ?_ (fun _ => ?_))
      | exact ih0 _ _ _ _ _ _ _
      | exact LeO.none _
      | refine LeO.ite ?_ ?_
      | refine LeO.bind ?_ (fun _ => ?_)
def impl_SmallestFor.T12 : Bool × List (List Nat × List Nat) := (true, [([], []), ([0], [0]), ([1], [1]), ([], []), ([2, 3], [2, 3]), ([4], [4]), ([5], [5]), ([6, 5], [5, 6]), ([7, 5], [5, 7]), ([5], [5]), ([9, 5], [5, 9]), ([10, 5], [5, 10]), ([8, 11, 5], [5, 8, 11]), ([5], [5]), ([5], [5]), ([13, 14, 5], [5, 13, 14]), ([15, 5], [5, 15]), ([16, 5], [5, 16]), ([17, 5], [5, 17]), ([5], [5]), ([5], [5]), ([19, 20, 5], [5, 19, 20]), ([21, 5], [5, 21]), ([22, 5], [5, 22]), ([23, 5], [5, 23]), ([18, 24, 5], [5, 18, 24]), ([12, 25, 5], [5, 12, 25]), ([5, 26], [5, 26])])
def impl_SmallestFor.B12 : List Nat := [0, 1, 3, 0, 15, 31, 63, 127, 255, 63, 575, 1599, 4095, 63, 63, 24639, 57407, 122943, 254015, 63, 63, 1572927, 3670079, 7864383, 16252991, 33546303, 67108863, 134217727]
theorem impl_SmallestFor.tab12 : rtab .any (opsOf Try.f9 12) = impl_SmallestFor.T12 := by kernel_rfl
theorem impl_SmallestFor.bits12 : waitsOk impl_SmallestFor.T12.2 impl_SmallestFor.B12 = true := by kernel_rfl
def impl_SmallestFor.T15 : Bool × List (List Nat × List Nat) := (true, [([], []), ([], []), ([0, 1], [0, 1]), ([2], [2]), ([], []), ([], []), ([4, 5], [4, 5]), ([6], [6]), ([3, 0, 1, 2, 3], [3]), ([7, 8, 0, 1, 2, 3, 4, 5, 6, 7, 8], [7]), ([9, 0, 1, 2, 3, 4, 5, 6, 7, 8, 9], [])])
def impl_SmallestFor.B15 : List Nat := [0, 0, 3, 7, 0, 0, 48, 112, 15, 511, 1023]
theorem impl_SmallestFor.tab15 : rtab .any (opsOf Try.f9 15) = impl_SmallestFor.T15 := by kernel_rfl
theorem impl_SmallestFor.bits15 : waitsOk impl_SmallestFor.T15.2 impl_SmallestFor.B15 = true := by kernel_rfl
set_option maxHeartbeats 8000000 in
set_option maxRecDepth 100000 in
theorem impl_SmallestFor.calls (k : Nat) (a0_0 : Int) (a0_1 : Int) (a0_2 : Int) (a1 : Int) (r1 : List Int) (r2 : Int) (r3 : Int) (r4 : Int) (r5 : Int) (w : World) (h : impl_SmallestFor.f k a0_0 a0_1 a0_2 a1 = some (r1, r2, r3, r4, r5)) :
    Calls Try.prog 9 #[.agg #[.int .i16 a0_0, .int .i16 a0_1, .int .i16 a0_2], .int .i64 a1] w fun e w' => ∃ v0_ : Value, e = .returned (.tuple #[v0_, .agg #[.int .i16 r2, .int .i16 r3, .int .i16 r4], .int .i64 r5]) ∧ Kd.R (Kd.int .i64) 2 w' w.heap.size (fun _ => True) v0_ r1 ∧ Below w.heap.size w w' := by
  have hu26 := Try.underlying26
  have HB := Aside0.mk (Below.refl w.heap.size w)
  have H : ((impl_ValidSheet.f a0_0 a0_1 a0_2).bind fun t103 => (if t103 = true then ((impl_within.f a1 1 144).bind fun t104 => (if t104 = true then (if (wrap64 (a0_2)) > a1 then (some (([] : List Int), 0, 0, 0, 6)) else ((impl_foldings.f a0_0 a0_1 a0_2).bind fun bt105 => (impl_SmallestFor.l0 k a1 bt105.1 bt105.2 0 bt105.1 (bt105.1.length : Int) 0))) else (some (([] : List Int), 0, 0, 0, 2)))) else (some (([] : List Int), 0, 0, 0, 1)))) = some (r1, r2, r3, r4, r5) := h
  clear h
  replace H := Option.bind_eq_some_iff.mp H
  obtain ⟨t103, A30, H⟩ := H
  replace H : (if t103 = true then ((impl_within.f a1 1 144).bind fun t104 => (if t104 = true then (if (wrap64 (a0_2)) > a1 then (some (([] : List Int), 0, 0, 0, 6)) else ((impl_foldings.f a0_0 a0_1 a0_2).bind fun bt105 => (impl_SmallestFor.l0 k a1 bt105.1 bt105.2 0 bt105.1 (bt105.1.length : Int) 0))) else (some (([] : List Int), 0, 0, 0, 2)))) else (some (([] : List Int), 0, 0, 0, 1))) = some (r1, r2, r3, r4, r5) := H
  have A3 := Aside0.mk A30
  clear A30
  by_cases c4 : t103 = true
  · subst c4
    have H1 : ((impl_within.f a1 1 144).bind fun t104 => (if t104 = true then (if (wrap64 (a0_2)) > a1 then (some (([] : List Int), 0, 0, 0, 6)) else ((impl_foldings.f a0_0 a0_1 a0_2).bind fun bt105 => (impl_SmallestFor.l0 k a1 bt105.1 bt105.2 0 bt105.1 (bt105.1.length : Int) 0))) else (some (([] : List Int), 0, 0, 0, 2)))) = some (r1, r2, r3, r4, r5) := by rw [if_pos rfl] at H; exact H
    clear H
    have H := H1
    clear H1
    replace H := Option.bind_eq_some_iff.mp H
    obtain ⟨t104, A50, H⟩ := H
    replace H : (if t104 = true then (if (wrap64 (a0_2)) > a1 then (some (([] : List Int), 0, 0, 0, 6)) else ((impl_foldings.f a0_0 a0_1 a0_2).bind fun bt105 => (impl_SmallestFor.l0 k a1 bt105.1 bt105.2 0 bt105.1 (bt105.1.length : Int) 0))) else (some (([] : List Int), 0, 0, 0, 2))) = some (r1, r2, r3, r4, r5) := H
    have A5 := Aside0.mk A50
    clear A50
    by_cases c6 : t104 = true
    · subst c6
      have H1 : (if (wrap64 (a0_2)) > a1 then (some (([] : List Int), 0, 0, 0, 6)) else ((impl_foldings.f a0_0 a0_1 a0_2).bind fun bt105 => (impl_SmallestFor.l0 k a1 bt105.1 bt105.2 0 bt105.1 (bt105.1.length : Int) 0))) = some (r1, r2, r3, r4, r5) := by rw [if_pos rfl] at H; exact H
      clear H
      have H := H1
      clear H1
      by_cases c7 : (wrap64 (a0_2)) > a1
      · rw [if_pos c7] at H
        have c7b0 : decide (a1 < (wrap64 (a0_2))) = true := decide_eq_true c7
        clear c7
        simp only [Option.some.injEq, Prod.mk.injEq] at H
        obtain ⟨rfl, rfl, rfl, rfl, rfl⟩ := H
        go_enter Try.func9, Try.ntmps9
        go_wp2_with (first | ((with_reducible refine gate_dst (N := 2) rfl ?_); refine box_event ?hg (N := 2) ?hd (cs := #[.int .i16 a0_0, .int .i16 a0_1, .int .i16 a0_2]) (t := 26) ?hr ?_; (case hd => rfl); (case hg => rfl); (case hr => first | (go_simp; done) | (go_simp; rfl)); intro gb101 hg w8 hbox hb; have n0_ := Aside0.mk (below_step (by repeat (first | (with_reducible first | exact HB.out | apply below_alloc | apply pw_below_drewN | apply below_drew1) | exact HB.out)) hb); have n1_ := Aside0.mk (hbox); have n2_ := Aside0.mk ((by rw [hg]; exact (below_size (by repeat (first | (with_reducible first | exact HB.out | apply below_alloc | apply pw_below_drewN | apply below_drew1) | exact HB.out))) : w.heap.size ≤ gb101)); have n3_ := Aside0.mk ((by rw [hg]; exact (below_size (by repeat (first | (with_reducible first | exact HB.out | apply below_alloc | apply pw_below_drewN | apply below_drew1) | exact HB.out))) : w.heap.size ≤ gb101)); clear HB; have HB := n0_; have BK101 := n1_; have GW101 := n2_; have GE101 := n3_; clear n0_ n1_ n2_ n3_; clear hb hbox hg) | ((with_reducible refine gate_dst (N := 5) rfl ?_); refine box_event ?hg (N := 5) ?hd (cs := #[.int .i16 0, .int .i16 0, .int .i16 0]) (t := 26) ?hr ?_; (case hd => rfl); (case hg => rfl); (case hr => first | (go_simp; done) | (go_simp; rfl)); intro gb102 hg w9 hbox hb; have n0_ := Aside0.mk (blk_below (g := gb101) (o := .cells #[.int .i16 a0_0, .int .i16 a0_1, .int .i16 a0_2] 26 (0, 0)) (by (with_reducible repeat (first | refine blk_drewN ?_ _ | refine blk_drew ?_ | refine blk_alloc ?_ _)); exact BK101.out) hb); have n1_ := Aside0.mk (below_step (by repeat (first | (with_reducible first | exact HB.out | apply below_alloc | apply pw_below_drewN | apply below_drew1 | refine below_set ?_ GE101.out) | exact HB.out)) hb); have n2_ := Aside0.mk (hbox); have n3_ := Aside0.mk ((by rw [hg]; exact (below_size (by repeat (first | (with_reducible first | exact HB.out | apply below_alloc | apply pw_below_drewN | apply below_drew1 | refine below_set ?_ GE101.out) | exact HB.out))) : w.heap.size ≤ gb102)); have n4_ := Aside0.mk ((by rw [hg]; exact (below_size (by repeat (first | (with_reducible first | exact HB.out | apply below_alloc | apply pw_below_drewN | apply below_drew1 | refine below_set ?_ GE101.out) | exact HB.out))) : w.heap.size ≤ gb102)); have n5_ := Aside0.mk ((by rw [hg]; exact Nat.ne_of_lt (blk_lt (g := gb101) (o := .cells #[.int .i16 a0_0, .int .i16 a0_1, .int .i16 a0_2] 26 (0, 0)) (by (with_reducible repeat (first | refine blk_drewN ?_ _ | refine blk_drew ?_ | refine blk_alloc ?_ _)); exact BK101.out)) : gb101 ≠ gb102)); have n6_ := Aside0.mk ((by rw [hg]; exact Nat.ne_of_gt (blk_lt (g := gb101) (o := .cells #[.int .i16 a0_0, .int .i16 a0_1, .int .i16 a0_2] 26 (0, 0)) (by (with_reducible repeat (first | refine blk_drewN ?_ _ | refine blk_drew ?_ | refine blk_alloc ?_ _)); exact BK101.out)) : gb102 ≠ gb101)); clear BK101; clear HB; have BK101 := n0_; have HB := n1_; have BK102 := n2_; have GW102 := n3_; have GE102 := n4_; have NB101_102 := n5_; have NB102_101 := n6_; clear n0_ n1_ n2_ n3_ n4_ n5_ n6_; clear hb hbox hg; have hnb10 := NB101_102.out; have hnc10 := NB102_101.out; have hcz11_0 : w9.cell? ⟨gb101, 0, none⟩ = some (.int .i16 a0_0) := (blk_cell BK101.out 0).trans rfl; have hcz11_1 : w9.cell? ⟨gb101, 1, none⟩ = some (.int .i16 a0_1) := (blk_cell BK101.out 1).trans rfl; have hcz11_2 : w9.cell? ⟨gb101, 2, none⟩ = some (.int .i16 a0_2) := (blk_cell BK101.out 2).trans rfl; have hfz11_0 := blk_frozen BK101.out 0; have hfz11_1 := blk_frozen BK101.out 1; have hfz11_2 := blk_frozen BK101.out 2) | ((with_reducible refine gate_callee (f := 29) rfl ?_); refine goesL_ (some 14) rfl rfl Try.func29 (by kernel_rfl) rfl #[.agg #[.int .i16 a0_0, .int .i16 a0_1, .int .i16 a0_2]] rfl (by (try simp only [List.map_toArray, List.map_cons, List.map_nil]); first | done | rfl | (simp only [List.length_drop, List.length_take]; rfl)) ?_; (with_reducible refine (impl_ValidSheet.calls a0_0 a0_1 a0_2 true _ A3.out).mono ?_); rintro e w12 ⟨rfl, hb⟩; refine ⟨_, rfl, ?_⟩; have n0_ := Aside0.mk (blk_below (g := gb101) (o := .cells #[.int .i16 a0_0, .int .i16 a0_1, .int .i16 a0_2] 26 (0, 0)) (by (with_reducible repeat (first | refine blk_drewN ?_ _ | refine blk_drew ?_ | refine blk_alloc ?_ _)); exact BK101.out) hb); have n1_ := Aside0.mk (blk_below (g := gb102) (o := .cells #[.int .i16 0, .int .i16 0, .int .i16 0] 26 (0, 0)) (by (with_reducible repeat (first | refine blk_drewN ?_ _ | refine blk_drew ?_ | refine blk_alloc ?_ _)); exact BK102.out) hb); have n2_ := Aside0.mk (below_step (by repeat (first | (with_reducible first | exact HB.out | apply below_alloc | apply pw_below_drewN | apply below_drew1 | refine below_set ?_ GE101.out | refine below_set ?_ GE102.out) | exact HB.out)) hb); clear BK101; clear BK102; clear HB; have BK101 := n0_; have BK102 := n1_; have HB := n2_; clear n0_ n1_ n2_; (try clear hb); (try clear hb2); (try clear hk); (try clear hi)) | ((with_reducible refine gate_callee (f := 41) rfl ?_); refine goesL_ (some 19) rfl rfl Try.func41 (by kernel_rfl) rfl #[.int .i64 a1, .int .i64 1, .int .i64 144] rfl (by (try simp only [List.map_toArray, List.map_cons, List.map_nil]); first | done | rfl | (simp only [List.length_drop, List.length_take]; rfl)) ?_; (with_reducible refine (impl_within.calls a1 1 144 true _ A5.out).mono ?_); rintro e w' ⟨rfl, ⟨nd, rfl⟩⟩; refine ⟨_, rfl, ?_⟩; (try (rw [drewN_self w12]; generalize hq_ : World.drewN w12 _ = w12; have n0_ : Aside0 (w12.heap[gb101]? = some (.cells #[.int .i16 a0_0, .int .i16 a0_1, .int .i16 a0_2] 26 (0, 0))) := ⟨by rw [← hq_]; exact (by (with_reducible repeat (first | refine blk_drewN ?_ _ | refine blk_drew ?_ | refine blk_alloc ?_ _)); exact BK101.out)⟩; have n1_ : Aside0 (w12.heap[gb102]? = some (.cells #[.int .i16 0, .int .i16 0, .int .i16 0] 26 (0, 0))) := ⟨by rw [← hq_]; exact (by (with_reducible repeat (first | refine blk_drewN ?_ _ | refine blk_drew ?_ | refine blk_alloc ?_ _)); exact BK102.out)⟩; have n2_ : Aside0 (Below w.heap.size w w12) := ⟨by rw [← hq_]; exact (by repeat (first | (with_reducible first | exact HB.out | apply below_alloc | apply pw_below_drewN | apply below_drew1 | refine below_set ?_ GE101.out | refine below_set ?_ GE102.out) | exact HB.out))⟩; clear BK101 BK102 HB hq_; have BK101 := n0_; have BK102 := n1_; have HB := n2_; clear n0_ n1_ n2_)); have hcz13_0 : w12.cell? ⟨gb101, 0, none⟩ = some (.int .i16 a0_0) := (blk_cell BK101.out 0).trans rfl; have hcz13_1 : w12.cell? ⟨gb101, 1, none⟩ = some (.int .i16 a0_1) := (blk_cell BK101.out 1).trans rfl; have hcz13_2 : w12.cell? ⟨gb101, 2, none⟩ = some (.int .i16 a0_2) := (blk_cell BK101.out 2).trans rfl; have hfz13_0 := blk_frozen BK101.out 0; have hfz13_1 := blk_frozen BK101.out 1; have hfz13_2 := blk_frozen BK101.out 2; have hcz14_0 : w12.cell? ⟨gb102, 0, none⟩ = some (.int .i16 0) := (blk_cell BK102.out 0).trans rfl; have hcz14_1 : w12.cell? ⟨gb102, 1, none⟩ = some (.int .i16 0) := (blk_cell BK102.out 1).trans rfl; have hcz14_2 : w12.cell? ⟨gb102, 2, none⟩ = some (.int .i16 0) := (blk_cell BK102.out 2).trans rfl; have hfz14_0 := blk_frozen BK102.out 0; have hfz14_1 := blk_frozen BK102.out 1; have hfz14_2 := blk_frozen BK102.out 2))
        refine bodyPost_ret (results_list (rs := [.tmp 4, .cell 5 26, .tmp 6]) rfl (by simp) (.tmp (.cell gb102 26 #[.int .i16 0, .int .i16 0, .int .i16 0] (0, 0) _ rfl (by (with_reducible repeat (first | refine blk_drewN ?_ _ | refine blk_drew ?_ | refine blk_alloc ?_ _)); refine blk_put (cs := #[.int .i16 0, .int .i16 0, .int .i16 0]) ?_ 2 _ rfl; (with_reducible repeat (first | refine blk_drewN ?_ _ | refine blk_drew ?_ | refine blk_alloc ?_ _)); refine blk_put (cs := #[.int .i16 0, .int .i16 0, .int .i16 0]) ?_ 1 _ rfl; (with_reducible repeat (first | refine blk_drewN ?_ _ | refine blk_drew ?_ | refine blk_alloc ?_ _)); refine blk_put (cs := #[.int .i16 0, .int .i16 0, .int .i16 0]) ?_ 0 _ rfl; (with_reducible repeat (first | refine blk_drewN ?_ _ | refine blk_drew ?_ | refine blk_alloc ?_ _)); exact BK102.out) Try.underlying26 rfl (by kernel_rfl) (.tmp .nil)))) rfl ?_
        exact ⟨_, by first | rfl | (simp [errW_none, errW_some] <;> rfl) | (simp [*, errW_none, errW_some] <;> rfl), by first | exact Kd.R_nil _ _ _ _ _ | exact Kd.N_nil _ _ _ _ _ | exact Kd.V_nil _ _ _ _ _ | exact Kd.Q_nil _ _ _ _ _ | exact Kd.R_nil _ _ _ _ _, by repeat (first | (with_reducible first | exact HB.out | apply below_alloc | apply pw_below_drewN | apply below_drew1 | refine below_set ?_ GE101.out | refine below_set ?_ GE102.out) | exact HB.out)⟩
      · rw [if_neg c7] at H
        have c7b0 : decide (a1 < (wrap64 (a0_2))) = false := decide_eq_false c7
        clear c7
        replace H := Option.bind_eq_some_iff.mp H
        obtain ⟨⟨t105, t108⟩, A150, H⟩ := H
        replace H : (impl_SmallestFor.l0 k a1 t105 t108 0 t105 (t105.length : Int) 0) = some (r1, r2, r3, r4, r5) := H
        have A15 := Aside0.mk A150
        clear A150
        have H' := Aside0.mk H
        clear H
        go_enter Try.func9, Try.ntmps9
        go_wp2_with (first | ((with_reducible refine gate_dst (N := 2) rfl ?_); refine box_event ?hg (N := 2) ?hd (cs := #[.int .i16 a0_0, .int .i16 a0_1, .int .i16 a0_2]) (t := 26) ?hr ?_; (case hd => rfl); (case hg => rfl); (case hr => first | (go_simp; done) | (go_simp; rfl)); intro gb101 hg w16 hbox hb; have n0_ := Aside0.mk (below_step (by repeat (first | (with_reducible first | exact HB.out | apply below_alloc | apply pw_below_drewN | apply below_drew1) | exact HB.out)) hb); have n1_ := Aside0.mk (hbox); have n2_ := Aside0.mk ((by rw [hg]; exact (below_size (by repeat (first | (with_reducible first | exact HB.out | apply below_alloc | apply pw_below_drewN | apply below_drew1) | exact HB.out))) : w.heap.size ≤ gb101)); have n3_ := Aside0.mk ((by rw [hg]; exact (below_size (by repeat (first | (with_reducible first | exact HB.out | apply below_alloc | apply pw_below_drewN | apply below_drew1) | exact HB.out))) : w.heap.size ≤ gb101)); clear HB; have HB := n0_; have BK101 := n1_; have GW101 := n2_; have GE101 := n3_; clear n0_ n1_ n2_ n3_; clear hb hbox hg) | ((with_reducible refine gate_dst (N := 5) rfl ?_); refine box_event ?hg (N := 5) ?hd (cs := #[.int .i16 0, .int .i16 0, .int .i16 0]) (t := 26) ?hr ?_; (case hd => rfl); (case hg => rfl); (case hr => first | (go_simp; done) | (go_simp; rfl)); intro gb102 hg w17 hbox hb; have n0_ := Aside0.mk (blk_below (g := gb101) (o := .cells #[.int .i16 a0_0, .int .i16 a0_1, .int .i16 a0_2] 26 (0, 0)) (by (with_reducible repeat (first | refine blk_drewN ?_ _ | refine blk_drew ?_ | refine blk_alloc ?_ _)); exact BK101.out) hb); have n1_ := Aside0.mk (below_step (by repeat (first | (with_reducible first | exact HB.out | apply below_alloc | apply pw_below_drewN | apply below_drew1 | refine below_set ?_ GE101.out) | exact HB.out)) hb); have n2_ := Aside0.mk (hbox); have n3_ := Aside0.mk ((by rw [hg]; exact (below_size (by repeat (first | (with_reducible first | exact HB.out | apply below_alloc | apply pw_below_drewN | apply below_drew1 | refine below_set ?_ GE101.out) | exact HB.out))) : w.heap.size ≤ gb102)); have n4_ := Aside0.mk ((by rw [hg]; exact (below_size (by repeat (first | (with_reducible first | exact HB.out | apply below_alloc | apply pw_below_drewN | apply below_drew1 | refine below_set ?_ GE101.out) | exact HB.out))) : w.heap.size ≤ gb102)); have n5_ := Aside0.mk ((by rw [hg]; exact Nat.ne_of_lt (blk_lt (g := gb101) (o := .cells #[.int .i16 a0_0, .int .i16 a0_1, .int .i16 a0_2] 26 (0, 0)) (by (with_reducible repeat (first | refine blk_drewN ?_ _ | refine blk_drew ?_ | refine blk_alloc ?_ _)); exact BK101.out)) : gb101 ≠ gb102)); have n6_ := Aside0.mk ((by rw [hg]; exact Nat.ne_of_gt (blk_lt (g := gb101) (o := .cells #[.int .i16 a0_0, .int .i16 a0_1, .int .i16 a0_2] 26 (0, 0)) (by (with_reducible repeat (first | refine blk_drewN ?_ _ | refine blk_drew ?_ | refine blk_alloc ?_ _)); exact BK101.out)) : gb102 ≠ gb101)); clear BK101; clear HB; have BK101 := n0_; have HB := n1_; have BK102 := n2_; have GW102 := n3_; have GE102 := n4_; have NB101_102 := n5_; have NB102_101 := n6_; clear n0_ n1_ n2_ n3_ n4_ n5_ n6_; clear hb hbox hg; have hnb18 := NB101_102.out; have hnc18 := NB102_101.out; have hcz19_0 : w17.cell? ⟨gb101, 0, none⟩ = some (.int .i16 a0_0) := (blk_cell BK101.out 0).trans rfl; have hcz19_1 : w17.cell? ⟨gb101, 1, none⟩ = some (.int .i16 a0_1) := (blk_cell BK101.out 1).trans rfl; have hcz19_2 : w17.cell? ⟨gb101, 2, none⟩ = some (.int .i16 a0_2) := (blk_cell BK101.out 2).trans rfl; have hfz19_0 := blk_frozen BK101.out 0; have hfz19_1 := blk_frozen BK101.out 1; have hfz19_2 := blk_frozen BK101.out 2) | ((with_reducible refine gate_callee (f := 29) rfl ?_); refine goesL_ (some 14) rfl rfl Try.func29 (by kernel_rfl) rfl #[.agg #[.int .i16 a0_0, .int .i16 a0_1, .int .i16 a0_2]] rfl (by (try simp only [List.map_toArray, List.map_cons, List.map_nil]); first | done | rfl | (simp only [List.length_drop, List.length_take]; rfl)) ?_; (with_reducible refine (impl_ValidSheet.calls a0_0 a0_1 a0_2 true _ A3.out).mono ?_); rintro e w20 ⟨rfl, hb⟩; refine ⟨_, rfl, ?_⟩; have n0_ := Aside0.mk (blk_below (g := gb101) (o := .cells #[.int .i16 a0_0, .int .i16 a0_1, .int .i16 a0_2] 26 (0, 0)) (by (with_reducible repeat (first | refine blk_drewN ?_ _ | refine blk_drew ?_ | refine blk_alloc ?_ _)); exact BK101.out) hb); have n1_ := Aside0.mk (blk_below (g := gb102) (o := .cells #[.int .i16 0, .int .i16 0, .int .i16 0] 26 (0, 0)) (by (with_reducible repeat (first | refine blk_drewN ?_ _ | refine blk_drew ?_ | refine blk_alloc ?_ _)); exact BK102.out) hb); have n2_ := Aside0.mk (below_step (by repeat (first | (with_reducible first | exact HB.out | apply below_alloc | apply pw_below_drewN | apply below_drew1 | refine below_set ?_ GE101.out | refine below_set ?_ GE102.out) | exact HB.out)) hb); clear BK101; clear BK102; clear HB; have BK101 := n0_; have BK102 := n1_; have HB := n2_; clear n0_ n1_ n2_; (try clear hb); (try clear hb2); (try clear hk); (try clear hi)) | ((with_reducible refine gate_callee (f := 41) rfl ?_); refine goesL_ (some 19) rfl rfl Try.func41 (by kernel_rfl) rfl #[.int .i64 a1, .int .i64 1, .int .i64 144] rfl (by (try simp only [List.map_toArray, List.map_cons, List.map_nil]); first | done | rfl | (simp only [List.length_drop, List.length_take]; rfl)) ?_; (with_reducible refine (impl_within.calls a1 1 144 true _ A5.out).mono ?_); rintro e w' ⟨rfl, ⟨nd, rfl⟩⟩; refine ⟨_, rfl, ?_⟩; have hcz21_0 : w20.cell? ⟨gb101, 0, none⟩ = some (.int .i16 a0_0) := (blk_cell BK101.out 0).trans rfl; have hcz21_1 : w20.cell? ⟨gb101, 1, none⟩ = some (.int .i16 a0_1) := (blk_cell BK101.out 1).trans rfl; have hcz21_2 : w20.cell? ⟨gb101, 2, none⟩ = some (.int .i16 a0_2) := (blk_cell BK101.out 2).trans rfl; have hfz21_0 := blk_frozen BK101.out 0; have hfz21_1 := blk_frozen BK101.out 1; have hfz21_2 := blk_frozen BK101.out 2) | ((with_reducible refine gate_callee (f := 42) rfl ?_); refine goesL_ (some 31) rfl rfl Try.func42 (by kernel_rfl) rfl #[.agg #[.int .i16 a0_0, .int .i16 a0_1, .int .i16 a0_2]] rfl (by (try simp only [List.map_toArray, List.map_cons, List.map_nil]); first | done | rfl | (simp only [List.length_drop, List.length_take]; rfl)) ?_; (with_reducible refine (impl_foldings.calls a0_0 a0_1 a0_2 t105 t108 _ A15.out).mono ?_); rintro e w22 ⟨v106, v109, rfl, ho0, ho1, hb⟩; refine ⟨_, rfl, ?_⟩; have n0_ := Aside0.mk (Kd.R_lower (Kd.R_newB (Kd.R_newB ho0 (g := gb101) (o := .cells #[.int .i16 a0_0, .int .i16 a0_1, .int .i16 a0_2] 26 (0, 0)) (by (with_reducible repeat (first | refine blk_drewN ?_ _ | refine blk_drew ?_ | refine blk_alloc ?_ _)); exact BK101.out)) (g := gb102) (o := .cells #[.int .i16 0, .int .i16 0, .int .i16 0] 26 (0, 0)) (by (with_reducible repeat (first | refine blk_drewN ?_ _ | refine blk_drew ?_ | refine blk_alloc ?_ _)); exact BK102.out)) (below_size (by repeat (first | (with_reducible first | exact HB.out | apply below_alloc | apply pw_below_drewN | apply below_drew1 | refine below_set ?_ GE101.out | refine below_set ?_ GE102.out) | exact HB.out)))); have n1_ := Aside0.mk (Kd.R_lower ho1 (below_size (by repeat (first | (with_reducible first | exact HB.out | apply below_alloc | apply pw_below_drewN | apply below_drew1 | refine below_set ?_ GE101.out | refine below_set ?_ GE102.out) | exact HB.out)))); have n2_ := Aside0.mk (blk_below (g := gb101) (o := .cells #[.int .i16 a0_0, .int .i16 a0_1, .int .i16 a0_2] 26 (0, 0)) (by (with_reducible repeat (first | refine blk_drewN ?_ _ | refine blk_drew ?_ | refine blk_alloc ?_ _)); exact BK101.out) hb); have n3_ := Aside0.mk (blk_below (g := gb102) (o := .cells #[.int .i16 0, .int .i16 0, .int .i16 0] 26 (0, 0)) (by (with_reducible repeat (first | refine blk_drewN ?_ _ | refine blk_drew ?_ | refine blk_alloc ?_ _)); exact BK102.out) hb); have n4_ := Aside0.mk (below_step (by repeat (first | (with_reducible first | exact HB.out | apply below_alloc | apply pw_below_drewN | apply below_drew1 | refine below_set ?_ GE101.out | refine below_set ?_ GE102.out) | exact HB.out)) hb); clear BK101; clear BK102; clear HB; have HO107 := n0_; have HO110 := n1_; have BK101 := n2_; have BK102 := n3_; have HB := n4_; clear n0_ n1_ n2_ n3_ n4_; (try clear hb); (try clear hb2); (try clear hk); (try clear hi); (try clear ho0); (try clear ho1); obtain ⟨Ao23, co23, eo23⟩ := Kd.R_slice HO107.out; subst eo23))
        go_loopg [9, 36] k (fun kq v9 v36 w' => ∃ (x9_1 : Int) (x36_1 : Int), v9 = .int .i64 x9_1 ∧ v36 = .int .i64 x36_1 ∧ Aside0 (impl_SmallestFor.l0 kq a1 t105 t108 x9_1 t105 (t105.length : Int) x36_1 = some (r1, r2, r3, r4, r5)) ∧ Aside0 (kq ≤ k) ∧ Aside0 (Kd.R k26 26 w' w.heap.size (fun k_ => k_ ≠ gb101 ∧ k_ ≠ gb102) (.slice Ao23 t105.length co23) t105) ∧ Aside0 (Kd.R (Kd.slice 2 (Kd.int .i64)) 25 w' w.heap.size (fun _ => True) v109 t108) ∧ Aside0 (Kd.R k26 26 w' w.heap.size (fun k_ => k_ ≠ gb101 ∧ k_ ≠ gb102) (.slice Ao23 t105.length co23) t105) ∧ Aside0 (w'.heap[gb101]? = some (.cells #[.int .i16 a0_0, .int .i16 a0_1, .int .i16 a0_2] 26 (0, 0))) ∧ Aside0 (w'.heap[gb102]? = some (.cells #[.int .i16 0, .int .i16 0, .int .i16 0] 26 (0, 0))) ∧ Aside0 (Below w.heap.size w w'))
        case atStart => exact ⟨(0), (0), (by first | rfl | (simp; done) | (simp [*]; done)), (by first | rfl | (simp; done) | (simp [*]; done)), H', ⟨Nat.le_refl _⟩, ⟨by (with_reducible repeat (first | apply Kd.R_alloc | apply Kd.R_drewN | apply Kd.R_drew)); exact Kd.R_mono HO107.out (fun _ hk => ⟨hk.1.2, hk.2⟩)⟩, ⟨by (with_reducible repeat (first | apply Kd.R_alloc | apply Kd.R_drewN | apply Kd.R_drew)); exact HO110.out⟩, ⟨by (with_reducible repeat (first | apply Kd.R_alloc | apply Kd.R_drewN | apply Kd.R_drew)); exact Kd.R_mono HO107.out (fun _ hk => ⟨hk.1.2, hk.2⟩)⟩, ⟨by (with_reducible repeat (first | refine blk_drewN ?_ _ | refine blk_drew ?_ | refine blk_alloc ?_ _)); exact BK101.out⟩, ⟨by (with_reducible repeat (first | refine blk_drewN ?_ _ | refine blk_drew ?_ | refine blk_alloc ?_ _)); exact BK102.out⟩, ⟨by repeat (first | (with_reducible first | exact HB.out | apply below_alloc | apply pw_below_drewN | apply below_drew1 | refine below_set ?_ GE101.out | refine below_set ?_ GE102.out) | exact HB.out)⟩⟩
        case round =>
          clear H'
          try clear c1
          try clear c2
          try clear p2
          try clear c4
          try clear c6
          try clear p6
          try clear c7
          try clear c7b0
          try clear c9
          try clear c10
          try clear c18
          try clear hcz11_0
          try clear hcz11_1
          try clear hcz11_2
          try clear hcz13_0
          try clear hcz13_1
          try clear hcz13_2
          try clear hcz14_0
          try clear hcz14_1
          try clear hcz14_2
          try clear hcz19_0
          try clear hcz19_1
          try clear hcz19_2
          try clear hcz21_0
          try clear hcz21_1
          try clear hcz21_2
          try clear hfz11_0
          try clear hfz11_1
          try clear hfz11_2
          try clear hfz13_0
          try clear hfz13_1
          try clear hfz13_2
          try clear hfz14_0
          try clear hfz14_1
          try clear hfz14_2
          try clear hfz19_0
          try clear hfz19_1
          try clear hfz19_2
          try clear hfz21_0
          try clear hfz21_1
          try clear hfz21_2
          obtain ⟨x9_1, x36_1, rfl, rfl, HA, HK1, HO_7, HO_8, HO_34, BK101, BK102, HB⟩ := hrel
          cases gk with
          | zero => exact absurd HA.out (by simp [impl_SmallestFor.l0])
          | succ k1 =>
            have H := HA.out
            clear HA
            simp only [impl_SmallestFor.l0] at H
            by_cases c24 : x36_1 < (t105.length : Int)
            · rw [if_pos c24] at H
              have c24b0 : decide (x36_1 < (t105.length : Int)) = true := decide_eq_true c24
              clear c24
              by_cases c25 : 0 ≤ x36_1
              · rw [if_pos c25] at H
                have c25b0 : decide (0 ≤ x36_1) = true := decide_eq_true c25
                clear c25
                by_cases c26 : x36_1 < (t105.length : Int)
                · rw [if_pos c26] at H
                  have c26b0 : decide (x36_1 < (t105.length : Int)) = true := decide_eq_true c26
                  clear c26
                  by_cases c27 : (wrap64 ((rd_T26 t105 x36_1).f2)) ≤ a1
                  · rw [if_pos c27] at H
                    have c27b0 : decide ((wrap64 ((rd_T26 t105 x36_1).f2)) ≤ a1) = true := decide_eq_true c27
                    clear c27
                    by_cases c28 : 0 ≤ x9_1
                    · rw [if_pos c28] at H
                      have c28b0 : decide (0 ≤ x9_1) = true := decide_eq_true c28
                      clear c28
                      by_cases c29 : x9_1 < (t105.length : Int)
                      · rw [if_pos c29] at H
                        have c29b0 : decide (x9_1 < (t105.length : Int)) = true := decide_eq_true c29
                        clear c29
                        by_cases c30 : (wrap64 ((wrap64 ((rd_T26 t105 x36_1).f0)) * (wrap64 ((rd_T26 t105 x36_1).f1)))) < (wrap64 ((wrap64 ((rd_T26 t105 x9_1).f0)) * (wrap64 ((rd_T26 t105 x9_1).f1))))
                        · rw [if_pos c30] at H
                          have c30b0 : decide ((wrap64 ((wrap64 ((rd_T26 t105 x36_1).f0)) * (wrap64 ((rd_T26 t105 x36_1).f1)))) < (wrap64 ((wrap64 ((rd_T26 t105 x9_1).f0)) * (wrap64 ((rd_T26 t105 x9_1).f1))))) = true := decide_eq_true c30
                          clear c30
                          have H' := Aside0.mk H
                          clear H
                          have p111 : 0 ≤ (x36_1 : Int) := of_decide_eq_true (by first | (with_reducible assumption) | assumption)
                          have q111 : x36_1 < (t105.length : Int) := of_decide_eq_true (by first | (with_reducible assumption) | assumption)
                          obtain ⟨ad111, e111, hx111_0, hx111_1, hx111_2⟩ := at_T26 (Kd.R_reads' HO_34.out).2.2 x36_1 p111 q111
                          cases e111
                          replace p111 := eq_true p111
                          replace q111 := eq_true q111
                          try go_wp2_with (first | ((with_reducible refine gate_dst (N := 11) rfl ?_); refine box_event ?hg (N := 11) ?hd (cs := #[.int .i16 0, .int .i16 0, .int .i16 0]) (t := 26) ?hr ?_; (case hd => rfl); (case hg => rfl); (case hr => first | (go_simp; done) | (go_simp; rfl)); intro gb112 hg w31 hbox hb; have n0_ := Aside0.mk (Kd.R_below (Kd.R_elderB (by (with_reducible repeat (first | apply Kd.R_alloc | apply Kd.R_drewN | apply Kd.R_drew)); exact HO_7.out) gb112 (Nat.le_of_eq hg.symm)) hb); have n1_ := Aside0.mk (Kd.R_below (by (with_reducible repeat (first | apply Kd.R_alloc | apply Kd.R_drewN | apply Kd.R_drew)); exact HO_8.out) hb); have n2_ := Aside0.mk (Kd.R_below (Kd.R_elderB (by (with_reducible repeat (first | apply Kd.R_alloc | apply Kd.R_drewN | apply Kd.R_drew)); exact HO_34.out) gb112 (Nat.le_of_eq hg.symm)) hb); have n3_ := Aside0.mk (blk_below (g := gb101) (o := .cells #[.int .i16 a0_0, .int .i16 a0_1, .int .i16 a0_2] 26 (0, 0)) (by (with_reducible repeat (first | refine blk_drewN ?_ _ | refine blk_drew ?_ | refine blk_alloc ?_ _)); exact BK101.out) hb); have n4_ := Aside0.mk (blk_below (g := gb102) (o := .cells #[.int .i16 0, .int .i16 0, .int .i16 0] 26 (0, 0)) (by (with_reducible repeat (first | refine blk_drewN ?_ _ | refine blk_drew ?_ | refine blk_alloc ?_ _)); exact BK102.out) hb); have n5_ := Aside0.mk (below_step (by repeat (first | (with_reducible first | exact HB.out | apply below_alloc | apply pw_below_drewN | apply below_drew1 | refine below_set ?_ GE101.out | refine below_set ?_ GE102.out) | exact HB.out)) hb); have n6_ := Aside0.mk (hbox); have n7_ := Aside0.mk ((by rw [hg]; exact (below_size (by repeat (first | (with_reducible first | exact HB.out | apply below_alloc | apply pw_below_drewN | apply below_drew1 | refine below_set ?_ GE101.out | refine below_set ?_ GE102.out) | exact HB.out))) : w.heap.size ≤ gb112)); have n8_ := Aside0.mk ((by rw [hg]; exact (below_size (by repeat (first | (with_reducible first | exact HB.out | apply below_alloc | apply pw_below_drewN | apply below_drew1 | refine below_set ?_ GE101.out | refine below_set ?_ GE102.out) | exact HB.out))) : w.heap.size ≤ gb112)); have n9_ := Aside0.mk ((by rw [hg]; exact Nat.ne_of_lt (blk_lt (g := gb101) (o := .cells #[.int .i16 a0_0, .int .i16 a0_1, .int .i16 a0_2] 26 (0, 0)) (by (with_reducible repeat (first | refine blk_drewN ?_ _ | refine blk_drew ?_ | refine blk_alloc ?_ _)); exact BK101.out)) : gb101 ≠ gb112)); have n10_ := Aside0.mk ((by rw [hg]; exact Nat.ne_of_gt (blk_lt (g := gb101) (o := .cells #[.int .i16 a0_0, .int .i16 a0_1, .int .i16 a0_2] 26 (0, 0)) (by (with_reducible repeat (first | refine blk_drewN ?_ _ | refine blk_drew ?_ | refine blk_alloc ?_ _)); exact BK101.out)) : gb112 ≠ gb101)); have n11_ := Aside0.mk ((by rw [hg]; exact Nat.ne_of_lt (blk_lt (g := gb102) (o := .cells #[.int .i16 0, .int .i16 0, .int .i16 0] 26 (0, 0)) (by (with_reducible repeat (first | refine blk_drewN ?_ _ | refine blk_drew ?_ | refine blk_alloc ?_ _)); exact BK102.out)) : gb102 ≠ gb112)); have n12_ := Aside0.mk ((by rw [hg]; exact Nat.ne_of_gt (blk_lt (g := gb102) (o := .cells #[.int .i16 0, .int .i16 0, .int .i16 0] 26 (0, 0)) (by (with_reducible repeat (first | refine blk_drewN ?_ _ | refine blk_drew ?_ | refine blk_alloc ?_ _)); exact BK102.out)) : gb112 ≠ gb102)); clear HO_7; clear HO_8; clear HO_34; clear BK101; clear BK102; clear HB; have HO_7 := n0_; have HO_8 := n1_; have HO_34 := n2_; have BK101 := n3_; have BK102 := n4_; have HB := n5_; have BK112 := n6_; have GW112 := n7_; have GE112 := n8_; have NB101_112 := n9_; have NB112_101 := n10_; have NB102_112 := n11_; have NB112_102 := n12_; clear n0_ n1_ n2_ n3_ n4_ n5_ n6_ n7_ n8_ n9_ n10_ n11_ n12_; clear hb hbox hg; have hnb32 := NB112_101.out; have hnc32 := NB101_112.out; have hnb33 := NB112_102.out; have hnc33 := NB102_112.out; have hcz34_0 : w31.cell? ⟨gb112, 0, none⟩ = some (.int .i16 0) := (blk_cell BK112.out 0).trans rfl; have hcz34_1 : w31.cell? ⟨gb112, 1, none⟩ = some (.int .i16 0) := (blk_cell BK112.out 1).trans rfl; have hcz34_2 : w31.cell? ⟨gb112, 2, none⟩ = some (.int .i16 0) := (blk_cell BK112.out 2).trans rfl; have hfz34_0 := blk_frozen BK112.out 0; have hfz34_1 := blk_frozen BK112.out 1; have hfz34_2 := blk_frozen BK112.out 2))
                          have n0_ : Aside0 (Kd.R k26 26 (((w31.setCell ⟨gb112, 0, none⟩ (.int .i16 ((rd_T26 t105 x36_1).f0))).setCell ⟨gb112, 1, none⟩ (.int .i16 ((rd_T26 t105 x36_1).f1))).setCell ⟨gb112, 2, none⟩ (.int .i16 ((rd_T26 t105 x36_1).f2))) w.heap.size (fun k_ => k_ ≠ gb101 ∧ k_ ≠ gb102 ∧ k_ ≠ gb112) (.slice (some ad111) t105.length co23) t105) := ⟨by (with_reducible repeat (first | apply Kd.R_alloc | apply Kd.R_drewN | apply Kd.R_drew)); exact Kd.R_mono (Kd.R_far (p := ⟨gb112, 2, none⟩) (Kd.R_far (p := ⟨gb112, 1, none⟩) (Kd.R_far (p := ⟨gb112, 0, none⟩) (Kd.R_mono HO_7.out (fun k_ hk => (⟨hk, hk.2⟩ : _ ∧ k_ ≠ gb112))) (fun _ hk => hk.2) (.int .i16 ((rd_T26 t105 x36_1).f0))) (fun _ hk => hk.2) (.int .i16 ((rd_T26 t105 x36_1).f1))) (fun _ hk => hk.2) (.int .i16 ((rd_T26 t105 x36_1).f2))) (fun _ hk => ⟨hk.1.1.1, ⟨hk.1.1.2, hk.1.2⟩⟩)⟩
                          have n1_ : Aside0 (Kd.R (Kd.slice 2 (Kd.int .i64)) 25 (((w31.setCell ⟨gb112, 0, none⟩ (.int .i16 ((rd_T26 t105 x36_1).f0))).setCell ⟨gb112, 1, none⟩ (.int .i16 ((rd_T26 t105 x36_1).f1))).setCell ⟨gb112, 2, none⟩ (.int .i16 ((rd_T26 t105 x36_1).f2))) w.heap.size (fun _ => True) v109 t108) := ⟨by (with_reducible repeat (first | apply Kd.R_alloc | apply Kd.R_drewN | apply Kd.R_drew)); exact Kd.R_mono (Kd.R_far (p := ⟨gb112, 2, none⟩) (Kd.R_far (p := ⟨gb112, 1, none⟩) (Kd.R_far (p := ⟨gb112, 0, none⟩) (Kd.R_types HO_8.out BK112.out (by decide)) (fun _ hk => hk.2) (.int .i16 ((rd_T26 t105 x36_1).f0))) (fun _ hk => hk.2) (.int .i16 ((rd_T26 t105 x36_1).f1))) (fun _ hk => hk.2) (.int .i16 ((rd_T26 t105 x36_1).f2))) (fun _ hk => trivial)⟩
                          have n2_ : Aside0 (Kd.R k26 26 (((w31.setCell ⟨gb112, 0, none⟩ (.int .i16 ((rd_T26 t105 x36_1).f0))).setCell ⟨gb112, 1, none⟩ (.int .i16 ((rd_T26 t105 x36_1).f1))).setCell ⟨gb112, 2, none⟩ (.int .i16 ((rd_T26 t105 x36_1).f2))) w.heap.size (fun k_ => k_ ≠ gb101 ∧ k_ ≠ gb102 ∧ k_ ≠ gb112) (.slice (some ad111) t105.length co23) t105) := ⟨by (with_reducible repeat (first | apply Kd.R_alloc | apply Kd.R_drewN | apply Kd.R_drew)); exact Kd.R_mono (Kd.R_far (p := ⟨gb112, 2, none⟩) (Kd.R_far (p := ⟨gb112, 1, none⟩) (Kd.R_far (p := ⟨gb112, 0, none⟩) (Kd.R_mono HO_34.out (fun k_ hk => (⟨hk, hk.2⟩ : _ ∧ k_ ≠ gb112))) (fun _ hk => hk.2) (.int .i16 ((rd_T26 t105 x36_1).f0))) (fun _ hk => hk.2) (.int .i16 ((rd_T26 t105 x36_1).f1))) (fun _ hk => hk.2) (.int .i16 ((rd_T26 t105 x36_1).f2))) (fun _ hk => ⟨hk.1.1.1, ⟨hk.1.1.2, hk.1.2⟩⟩)⟩
                          have n3_ : Aside0 ((((w31.setCell ⟨gb112, 0, none⟩ (.int .i16 ((rd_T26 t105 x36_1).f0))).setCell ⟨gb112, 1, none⟩ (.int .i16 ((rd_T26 t105 x36_1).f1))).setCell ⟨gb112, 2, none⟩ (.int .i16 ((rd_T26 t105 x36_1).f2))).heap[gb101]? = some (.cells #[.int .i16 a0_0, .int .i16 a0_1, .int .i16 a0_2] 26 (0, 0))) := ⟨by (with_reducible repeat (first | refine blk_drewN ?_ _ | refine blk_drew ?_ | refine blk_alloc ?_ _)); refine blk_far ?_ NB101_112.out _; (with_reducible repeat (first | refine blk_drewN ?_ _ | refine blk_drew ?_ | refine blk_alloc ?_ _)); refine blk_far ?_ NB101_112.out _; (with_reducible repeat (first | refine blk_drewN ?_ _ | refine blk_drew ?_ | refine blk_alloc ?_ _)); refine blk_far ?_ NB101_112.out _; (with_reducible repeat (first | refine blk_drewN ?_ _ | refine blk_drew ?_ | refine blk_alloc ?_ _)); exact BK101.out⟩
                          have n4_ : Aside0 ((((w31.setCell ⟨gb112, 0, none⟩ (.int .i16 ((rd_T26 t105 x36_1).f0))).setCell ⟨gb112, 1, none⟩ (.int .i16 ((rd_T26 t105 x36_1).f1))).setCell ⟨gb112, 2, none⟩ (.int .i16 ((rd_T26 t105 x36_1).f2))).heap[gb102]? = some (.cells #[.int .i16 0, .int .i16 0, .int .i16 0] 26 (0, 0))) := ⟨by (with_reducible repeat (first | refine blk_drewN ?_ _ | refine blk_drew ?_ | refine blk_alloc ?_ _)); refine blk_far ?_ NB102_112.out _; (with_reducible repeat (first | refine blk_drewN ?_ _ | refine blk_drew ?_ | refine blk_alloc ?_ _)); refine blk_far ?_ NB102_112.out _; (with_reducible repeat (first | refine blk_drewN ?_ _ | refine blk_drew ?_ | refine blk_alloc ?_ _)); refine blk_far ?_ NB102_112.out _; (with_reducible repeat (first | refine blk_drewN ?_ _ | refine blk_drew ?_ | refine blk_alloc ?_ _)); exact BK102.out⟩
                          have n5_ : Aside0 ((((w31.setCell ⟨gb112, 0, none⟩ (.int .i16 ((rd_T26 t105 x36_1).f0))).setCell ⟨gb112, 1, none⟩ (.int .i16 ((rd_T26 t105 x36_1).f1))).setCell ⟨gb112, 2, none⟩ (.int .i16 ((rd_T26 t105 x36_1).f2))).heap[gb112]? = some (.cells #[.int .i16 ((rd_T26 t105 x36_1).f0), .int .i16 ((rd_T26 t105 x36_1).f1), .int .i16 ((rd_T26 t105 x36_1).f2)] 26 (0, 0))) := ⟨by (with_reducible repeat (first | refine blk_drewN ?_ _ | refine blk_drew ?_ | refine blk_alloc ?_ _)); refine blk_put (cs := #[.int .i16 ((rd_T26 t105 x36_1).f0), .int .i16 ((rd_T26 t105 x36_1).f1), .int .i16 0]) ?_ 2 _ rfl; (with_reducible repeat (first | refine blk_drewN ?_ _ | refine blk_drew ?_ | refine blk_alloc ?_ _)); refine blk_put (cs := #[.int .i16 ((rd_T26 t105 x36_1).f0), .int .i16 0, .int .i16 0]) ?_ 1 _ rfl; (with_reducible repeat (first | refine blk_drewN ?_ _ | refine blk_drew ?_ | refine blk_alloc ?_ _)); refine blk_put (cs := #[.int .i16 0, .int .i16 0, .int .i16 0]) ?_ 0 _ rfl; (with_reducible repeat (first | refine blk_drewN ?_ _ | refine blk_drew ?_ | refine blk_alloc ?_ _)); exact BK112.out⟩
                          have n6_ : Aside0 (Below w.heap.size w (((w31.setCell ⟨gb112, 0, none⟩ (.int .i16 ((rd_T26 t105 x36_1).f0))).setCell ⟨gb112, 1, none⟩ (.int .i16 ((rd_T26 t105 x36_1).f1))).setCell ⟨gb112, 2, none⟩ (.int .i16 ((rd_T26 t105 x36_1).f2)))) := ⟨by repeat (first | (with_reducible first | exact HB.out | apply below_alloc | apply pw_below_drewN | apply below_drew1 | refine below_set ?_ GE101.out | refine below_set ?_ GE102.out | refine below_set ?_ GE112.out) | exact HB.out)⟩
                          (try clear HO_7)
                          (try clear HO_8)
                          (try clear HO_34)
                          (try clear BK101)
                          (try clear BK102)
                          (try clear BK112)
                          (try clear HB)
                          generalize (((w31.setCell ⟨gb112, 0, none⟩ (.int .i16 ((rd_T26 t105 x36_1).f0))).setCell ⟨gb112, 1, none⟩ (.int .i16 ((rd_T26 t105 x36_1).f1))).setCell ⟨gb112, 2, none⟩ (.int .i16 ((rd_T26 t105 x36_1).f2))) = w35 at n0_ n1_ n2_ n3_ n4_ n5_ n6_ ⊢
                          have HO_7 := n0_
                          have HO_8 := n1_
                          have HO_34 := n2_
                          have BK101 := n3_
                          have BK102 := n4_
                          have BK112 := n5_
                          have HB := n6_
                          clear n0_ n1_ n2_ n3_ n4_ n5_ n6_
                          have n0_ := Aside0.mk (Kd.R_drew HO_7.out)
                          have n1_ := Aside0.mk (Kd.R_drew HO_8.out)
                          have n2_ := Aside0.mk (Kd.R_drew HO_34.out)
                          have n3_ := Aside0.mk (blk_drew BK101.out)
                          have n4_ := Aside0.mk (blk_drew BK102.out)
                          have n5_ := Aside0.mk (blk_drew BK112.out)
                          have n6_ := Aside0.mk (below_drew1 HB.out)
                          clear HO_7
                          clear HO_8
                          clear HO_34
                          clear BK101
                          clear BK102
                          clear BK112
                          clear HB
                          have HO_7 := n0_
                          have HO_8 := n1_
                          have HO_34 := n2_
                          have BK101 := n3_
                          have BK102 := n4_
                          have BK112 := n5_
                          have HB := n6_
                          clear n0_ n1_ n2_ n3_ n4_ n5_ n6_
                          have p113 : 0 ≤ (x9_1 : Int) := of_decide_eq_true (by first | (with_reducible assumption) | assumption)
                          have q113 : x9_1 < (t105.length : Int) := of_decide_eq_true (by first | (with_reducible assumption) | assumption)
                          obtain ⟨ad113, e113, hx113_0, hx113_1, hx113_2⟩ := at_T26 (Kd.R_reads' HO_7.out).2.2 x9_1 p113 q113
                          obtain rfl : ad111 = ad113 := (by injection e113)
                          replace p113 := eq_true p113
                          replace q113 := eq_true q113
                          have p114 : 0 ≤ (x9_1 : Int) := of_decide_eq_true (by first | (with_reducible assumption) | assumption)
                          have q114 : x9_1 < (t105.length : Int) := of_decide_eq_true (by first | (with_reducible assumption) | assumption)
                          obtain ⟨ad114, e114, hx114_0, hx114_1, hx114_2⟩ := at_T26 (Kd.R_reads' HO_7.out).2.2 x9_1 p114 q114
                          obtain rfl : ad111 = ad114 := (by injection e114)
                          replace p114 := eq_true p114
                          replace q114 := eq_true q114
                          refine start_ (n := 28) (S := fun w' => w'.cell? ⟨gb112, 0, none⟩ = some (.int .i16 ((rd_T26 t105 x36_1).f0)) ∧ w'.cell? ⟨gb112, 1, none⟩ = some (.int .i16 ((rd_T26 t105 x36_1).f1)) ∧ w'.cell? ⟨gb112, 2, none⟩ = some (.int .i16 ((rd_T26 t105 x36_1).f2)) ∧ w'.cell? (ad111.add ((x9_1).toNat * 3)) = some (.int .i16 ((rd_T26 t105 x9_1).f0)) ∧ w'.cell? ⟨(ad111.add ((x9_1).toNat * 3)).block, (ad111.add ((x9_1).toNat * 3)).off + 1, none⟩ = some (.int .i16 ((rd_T26 t105 x9_1).f1)) ∧ w'.cell? ⟨(ad111.add ((x9_1).toNat * 3)).block, (ad111.add ((x9_1).toNat * 3)).off + 2, none⟩ = some (.int .i16 ((rd_T26 t105 x9_1).f2)) ∧ w'.cell? (ad111.add ((x9_1).toNat * 3)) = some (.int .i16 ((rd_T26 t105 x9_1).f0)) ∧ w'.cell? ⟨(ad111.add ((x9_1).toNat * 3)).block, (ad111.add ((x9_1).toNat * 3)).off + 1, none⟩ = some (.int .i16 ((rd_T26 t105 x9_1).f1)) ∧ w'.cell? ⟨(ad111.add ((x9_1).toNat * 3)).block, (ad111.add ((x9_1).toNat * 3)).off + 2, none⟩ = some (.int .i16 ((rd_T26 t105 x9_1).f2))) (ds := []) #[false, false, false, false, false, false, false, false, false, false, false, false, false, false, false, false, false, false, false, false, false, false, false, false, false, false, false, false] (by kernel_rfl) rfl rfl ⟨(blk_cell BK112.out 0).trans rfl, (blk_cell BK112.out 1).trans rfl, (blk_cell BK112.out 2).trans rfl, hx113_0, hx113_1, hx113_2, hx114_0, hx114_1, hx114_2⟩ (fun hHeld => ?_); refine with_tabW impl_SmallestFor.tab12 impl_SmallestFor.bits12 (fun HT_ HW_ => ?_)
                          generalize w35.drew = w36 at HO_7 HO_8 HO_34 BK101 BK102 BK112 HB hx113_0 hx113_1 hx113_2 hx114_0 hx114_1 hx114_2 hHeld ⊢
                          refine pure_ (i := 0) (N := some 41) (v := ?_) (a' := ?_) #[true, false, false, false, false, false, false, false, false, false, false, false, false, false, false, false, false, false, false, false, false, false, false, false, false, false, false, false] rfl rfl (any_of HT_.out (by kernel_rfl)) (fun _ _ _ h => h) (Or.inl ⟨by rfl, ?_⟩) ?_ ?_
                          rotate_left
                          · intro w'
                            go_simp
                            with_reducible rfl
                          rotate_left
                          · simp only [Act.put, List.setIfInBounds_toArray, List.set_cons_zero, List.set_cons_succ, i64_w, i32_w]
                            rfl
                          refine pure_ (i := 3) (N := some 44) (v := ?_) (a' := ?_) #[true, false, false, true, false, false, false, false, false, false, false, false, false, false, false, false, false, false, false, false, false, false, false, false, false, false, false, false] rfl rfl (any_of HT_.out (by kernel_rfl)) (fun _ _ _ h => h) (Or.inl ⟨by rfl, ?_⟩) ?_ ?_
                          rotate_left
                          · intro w'
                            go_simp
                            with_reducible rfl
                          rotate_left
                          · simp only [Act.put, List.setIfInBounds_toArray, List.set_cons_zero, List.set_cons_succ, i64_w, i32_w]
                            rfl
                          refine take_ (i := 1) (N := some 42) (v := ?_) (a' := ?_) #[true, true, false, true, false, false, false, false, false, false, false, false, false, false, false, false, false, false, false, false, false, false, false, false, false, false, false, false] rfl rfl (take_ofW HT_.out HW_.out (by kernel_rfl)) (fun _ _ _ h => h) (Or.inl ⟨by rfl, ?_⟩) hHeld ?_ ?_
                          rotate_left
                          · rintro w' ⟨s0, s1, s2, s3, s4, s5, s6, s7, s8⟩
                            go_simp
                            with_reducible rfl
                          rotate_left
                          · simp only [Act.put, List.setIfInBounds_toArray, List.set_cons_zero, List.set_cons_succ, i64_w, i32_w]
                            rfl
                          refine pure_ (i := 2) (N := some 43) (v := ?_) (a' := ?_) #[true, true, true, true, false, false, false, false, false, false, false, false, false, false, false, false, false, false, false, false, false, false, false, false, false, false, false, false] rfl rfl (any_of HT_.out (by kernel_rfl)) (fun _ _ _ h => h) (Or.inl ⟨by rfl, ?_⟩) ?_ ?_
                          rotate_left
                          · intro w'
                            go_simp
                            with_reducible rfl
                          rotate_left
                          · simp only [Act.put, List.setIfInBounds_toArray, List.set_cons_zero, List.set_cons_succ, i64_w, i32_w]
                            rfl
                          refine pure_ (i := 4) (N := some 45) (v := ?_) (a' := ?_) #[true, true, true, true, true, false, false, false, false, false, false, false, false, false, false, false, false, false, false, false, false, false, false, false, false, false, false, false] rfl rfl (any_of HT_.out (by kernel_rfl)) (fun _ _ _ h => h) (Or.inl ⟨by rfl, ?_⟩) ?_ ?_
                          rotate_left
                          · intro w'
                            go_simp
                            with_reducible rfl
                          rotate_left
                          · simp only [Act.put, List.setIfInBounds_toArray, List.set_cons_zero, List.set_cons_succ, i64_w, i32_w]
                            rfl
                          refine pure_ (i := 5) (N := some 46) (v := ?_) (a' := ?_) #[true, true, true, true, true, true, false, false, false, false, false, false, false, false, false, false, false, false, false, false, false, false, false, false, false, false, false, false] rfl rfl (any_of HT_.out (by kernel_rfl)) (fun _ _ _ h => h) (Or.inl ⟨by rfl, ?_⟩) ?_ ?_
                          rotate_left
                          · intro w'
                            go_simp
                            with_reducible rfl
                          rotate_left
                          · simp only [Act.put, List.setIfInBounds_toArray, List.set_cons_zero, List.set_cons_succ, i64_w, i32_w]
                            rfl
                          refine pure_ (i := 6) (N := some 47) (v := ?_) (a' := ?_) #[true, true, true, true, true, true, true, false, false, false, false, false, false, false, false, false, false, false, false, false, false, false, false, false, false, false, false, false] rfl rfl (any_of HT_.out (by kernel_rfl)) (fun _ _ _ h => h) (Or.inl ⟨by rfl, ?_⟩) ?_ ?_
                          rotate_left
                          · intro w'
                            go_simp
                            with_reducible rfl
                          rotate_left
                          · simp only [Act.put, List.setIfInBounds_toArray, List.set_cons_zero, List.set_cons_succ, i64_w, i32_w]
                            rfl
                          refine pure_ (i := 9) (N := some 50) (v := ?_) (a' := ?_) #[true, true, true, true, true, true, true, false, false, true, false, false, false, false, false, false, false, false, false, false, false, false, false, false, false, false, false, false] rfl rfl (any_of HT_.out (by kernel_rfl)) (fun _ _ _ h => h) (Or.inl ⟨by rfl, ?_⟩) ?_ ?_
                          rotate_left
                          · intro w'
                            go_simp
                            with_reducible rfl
                          rotate_left
                          · simp only [Act.put, List.setIfInBounds_toArray, List.set_cons_zero, List.set_cons_succ, i64_w, i32_w]
                            rfl
                          refine pure_ (i := 13) (N := some 54) (v := ?_) (a' := ?_) #[true, true, true, true, true, true, true, false, false, true, false, false, false, true, false, false, false, false, false, false, false, false, false, false, false, false, false, false] rfl rfl (any_of HT_.out (by kernel_rfl)) (fun _ _ _ h => h) (Or.inl ⟨by rfl, ?_⟩) ?_ ?_
                          rotate_left
                          · intro w'
                            go_simp
                            with_reducible rfl
                          rotate_left
                          · simp only [Act.put, List.setIfInBounds_toArray, List.set_cons_zero, List.set_cons_succ, i64_w, i32_w]
                            rfl
                          refine pure_ (i := 14) (N := some 55) (v := ?_) (a' := ?_) #[true, true, true, true, true, true, true, false, false, true, false, false, false, true, true, false, false, false, false, false, false, false, false, false, false, false, false, false] rfl rfl (any_of HT_.out (by kernel_rfl)) (fun _ _ _ h => h) (Or.inl ⟨by rfl, ?_⟩) ?_ ?_
                          rotate_left
                          · intro w'
                            go_simp
                            with_reducible rfl
                          rotate_left
                          · simp only [Act.put, List.setIfInBounds_toArray, List.set_cons_zero, List.set_cons_succ, i64_w, i32_w]
                            rfl
                          refine pure_ (i := 15) (N := some 56) (v := ?_) (a' := ?_) #[true, true, true, true, true, true, true, false, false, true, false, false, false, true, true, true, false, false, false, false, false, false, false, false, false, false, false, false] rfl rfl (any_of HT_.out (by kernel_rfl)) (fun _ _ _ h => h) (Or.inl ⟨by rfl, ?_⟩) ?_ ?_
                          rotate_left
                          · intro w'
                            go_simp
                            with_reducible rfl
                          rotate_left
                          · simp only [Act.put, List.setIfInBounds_toArray, List.set_cons_zero, List.set_cons_succ, i64_w, i32_w]
                            rfl
                          refine pure_ (i := 16) (N := some 57) (v := ?_) (a' := ?_) #[true, true, true, true, true, true, true, false, false, true, false, false, false, true, true, true, true, false, false, false, false, false, false, false, false, false, false, false] rfl rfl (any_of HT_.out (by kernel_rfl)) (fun _ _ _ h => h) (Or.inl ⟨by rfl, ?_⟩) ?_ ?_
                          rotate_left
                          · intro w'
                            go_simp
                            with_reducible rfl
                          rotate_left
                          · simp only [Act.put, List.setIfInBounds_toArray, List.set_cons_zero, List.set_cons_succ, i64_w, i32_w]
                            rfl
                          refine pure_ (i := 19) (N := some 60) (v := ?_) (a' := ?_) #[true, true, true, true, true, true, true, false, false, true, false, false, false, true, true, true, true, false, false, true, false, false, false, false, false, false, false, false] rfl rfl (any_of HT_.out (by kernel_rfl)) (fun _ _ _ h => h) (Or.inl ⟨by rfl, ?_⟩) ?_ ?_
                          rotate_left
                          · intro w'
                            go_simp
                            with_reducible rfl
                          rotate_left
                          · simp only [Act.put, List.setIfInBounds_toArray, List.set_cons_zero, List.set_cons_succ, i64_w, i32_w]
                            rfl
                          refine pure_ (i := 20) (N := some 61) (v := ?_) (a' := ?_) #[true, true, true, true, true, true, true, false, false, true, false, false, false, true, true, true, true, false, false, true, true, false, false, false, false, false, false, false] rfl rfl (any_of HT_.out (by kernel_rfl)) (fun _ _ _ h => h) (Or.inl ⟨by rfl, ?_⟩) ?_ ?_
                          rotate_left
                          · intro w'
                            go_simp
                            with_reducible rfl
                          rotate_left
                          · simp only [Act.put, List.setIfInBounds_toArray, List.set_cons_zero, List.set_cons_succ, i64_w, i32_w]
                            rfl
                          refine pure_ (i := 21) (N := some 62) (v := ?_) (a' := ?_) #[true, true, true, true, true, true, true, false, false, true, false, false, false, true, true, true, true, false, false, true, true, true, false, false, false, false, false, false] rfl rfl (any_of HT_.out (by kernel_rfl)) (fun _ _ _ h => h) (Or.inl ⟨by rfl, ?_⟩) ?_ ?_
                          rotate_left
                          · intro w'
                            go_simp
                            with_reducible rfl
                          rotate_left
                          · simp only [Act.put, List.setIfInBounds_toArray, List.set_cons_zero, List.set_cons_succ, i64_w, i32_w]
                            rfl
                          refine pure_ (i := 22) (N := some 63) (v := ?_) (a' := ?_) #[true, true, true, true, true, true, true, false, false, true, false, false, false, true, true, true, true, false, false, true, true, true, true, false, false, false, false, false] rfl rfl (any_of HT_.out (by kernel_rfl)) (fun _ _ _ h => h) (Or.inl ⟨by rfl, ?_⟩) ?_ ?_
                          rotate_left
                          · intro w'
                            go_simp
                            with_reducible rfl
                          rotate_left
                          · simp only [Act.put, List.setIfInBounds_toArray, List.set_cons_zero, List.set_cons_succ, i64_w, i32_w]
                            rfl
                          refine take_ (i := 7) (N := some 48) (v := ?_) (a' := ?_) #[true, true, true, true, true, true, true, true, false, true, false, false, false, true, true, true, true, false, false, true, true, true, true, false, false, false, false, false] rfl rfl (take_ofW HT_.out HW_.out (by kernel_rfl)) (fun _ _ _ h => h) (Or.inl ⟨by rfl, ?_⟩) hHeld ?_ ?_
                          rotate_left
                          · rintro w' ⟨s0, s1, s2, s3, s4, s5, s6, s7, s8⟩
                            go_simp
                            with_reducible rfl
                          rotate_left
                          · simp only [Act.put, List.setIfInBounds_toArray, List.set_cons_zero, List.set_cons_succ, i64_w, i32_w]
                            rfl
                          refine pure_ (i := 8) (N := some 49) (v := ?_) (a' := ?_) #[true, true, true, true, true, true, true, true, true, true, false, false, false, true, true, true, true, false, false, true, true, true, true, false, false, false, false, false] rfl rfl (any_of HT_.out (by kernel_rfl)) (fun _ _ _ h => h) (Or.inl ⟨by rfl, ?_⟩) ?_ ?_
                          rotate_left
                          · intro w'
                            go_simp
                            with_reducible rfl
                          rotate_left
                          · simp only [Act.put, List.setIfInBounds_toArray, List.set_cons_zero, List.set_cons_succ, i64_w, i32_w]
                            rfl
                          refine take_ (i := 10) (N := some 51) (v := ?_) (a' := ?_) #[true, true, true, true, true, true, true, true, true, true, true, false, false, true, true, true, true, false, false, true, true, true, true, false, false, false, false, false] rfl rfl (take_ofW HT_.out HW_.out (by kernel_rfl)) (fun _ _ _ h => h) (Or.inl ⟨by rfl, ?_⟩) hHeld ?_ ?_
                          rotate_left
                          · rintro w' ⟨s0, s1, s2, s3, s4, s5, s6, s7, s8⟩
                            go_simp
                            with_reducible rfl
                          rotate_left
                          · simp only [Act.put, List.setIfInBounds_toArray, List.set_cons_zero, List.set_cons_succ, i64_w, i32_w]
                            rfl
                          refine pure_ (i := 11) (N := some 52) (v := ?_) (a' := ?_) #[true, true, true, true, true, true, true, true, true, true, true, true, false, true, true, true, true, false, false, true, true, true, true, false, false, false, false, false] rfl rfl (any_of HT_.out (by kernel_rfl)) (fun _ _ _ h => h) (Or.inl ⟨by rfl, ?_⟩) ?_ ?_
                          rotate_left
                          · intro w'
                            go_simp
                            with_reducible rfl
                          rotate_left
                          · simp only [Act.put, List.setIfInBounds_toArray, List.set_cons_zero, List.set_cons_succ, i64_w, i32_w]
                            rfl
                          refine pure_ (i := 12) (N := some 53) (v := ?_) (a' := ?_) #[true, true, true, true, true, true, true, true, true, true, true, true, true, true, true, true, true, false, false, true, true, true, true, false, false, false, false, false] rfl rfl (any_of HT_.out (by kernel_rfl)) (fun _ _ _ h => h) (Or.inl ⟨by rfl, ?_⟩) ?_ ?_
                          rotate_left
                          · intro w'
                            go_simp
                            with_reducible rfl
                          rotate_left
                          · simp only [Act.put, List.setIfInBounds_toArray, List.set_cons_zero, List.set_cons_succ, i64_w, i32_w]
                            rfl
                          refine take_ (i := 17) (N := some 58) (v := ?_) (a' := ?_) #[true, true, true, true, true, true, true, true, true, true, true, true, true, true, true, true, true, true, false, true, true, true, true, false, false, false, false, false] rfl rfl (take_ofW HT_.out HW_.out (by kernel_rfl)) (fun _ _ _ h => h) (Or.inl ⟨by rfl, ?_⟩) hHeld ?_ ?_
                          rotate_left
                          · rintro w' ⟨s0, s1, s2, s3, s4, s5, s6, s7, s8⟩
                            go_simp
                            with_reducible rfl
                          rotate_left
                          · simp only [Act.put, List.setIfInBounds_toArray, List.set_cons_zero, List.set_cons_succ, i64_w, i32_w]
                            rfl
                          refine pure_ (i := 18) (N := some 59) (v := ?_) (a' := ?_) #[true, true, true, true, true, true, true, true, true, true, true, true, true, true, true, true, true, true, true, true, true, true, true, false, false, false, false, false] rfl rfl (any_of HT_.out (by kernel_rfl)) (fun _ _ _ h => h) (Or.inl ⟨by rfl, ?_⟩) ?_ ?_
                          rotate_left
                          · intro w'
                            go_simp
                            with_reducible rfl
                          rotate_left
                          · simp only [Act.put, List.setIfInBounds_toArray, List.set_cons_zero, List.set_cons_succ, i64_w, i32_w]
                            rfl
                          refine take_ (i := 23) (N := some 64) (v := ?_) (a' := ?_) #[true, true, true, true, true, true, true, true, true, true, true, true, true, true, true, true, true, true, true, true, true, true, true, true, false, false, false, false] rfl rfl (take_ofW HT_.out HW_.out (by kernel_rfl)) (fun _ _ _ h => h) (Or.inl ⟨by rfl, ?_⟩) hHeld ?_ ?_
                          rotate_left
                          · rintro w' ⟨s0, s1, s2, s3, s4, s5, s6, s7, s8⟩
                            go_simp
                            with_reducible rfl
                          rotate_left
                          · simp only [Act.put, List.setIfInBounds_toArray, List.set_cons_zero, List.set_cons_succ, i64_w, i32_w]
                            rfl
                          refine pure_ (i := 24) (N := some 65) (v := ?_) (a' := ?_) #[true, true, true, true, true, true, true, true, true, true, true, true, true, true, true, true, true, true, true, true, true, true, true, true, true, false, false, false] rfl rfl (any_of HT_.out (by kernel_rfl)) (fun _ _ _ h => h) (Or.inl ⟨by rfl, ?_⟩) ?_ ?_
                          rotate_left
                          · intro w'
                            go_simp
                            with_reducible rfl
                          rotate_left
                          · simp only [Act.put, List.setIfInBounds_toArray, List.set_cons_zero, List.set_cons_succ, i64_w, i32_w]
                            rfl
                          refine pure_ (i := 25) (N := some 66) (v := ?_) (a' := ?_) #[true, true, true, true, true, true, true, true, true, true, true, true, true, true, true, true, true, true, true, true, true, true, true, true, true, true, false, false] rfl rfl (any_of HT_.out (by kernel_rfl)) (fun _ _ _ h => h) (Or.inl ⟨by rfl, ?_⟩) ?_ ?_
                          rotate_left
                          · intro w'
                            go_simp
                            with_reducible rfl
                          rotate_left
                          · simp only [Act.put, List.setIfInBounds_toArray, List.set_cons_zero, List.set_cons_succ, i64_w, i32_w]
                            rfl
                          refine pure_ (i := 26) (N := some 67) (v := ?_) (a' := ?_) #[true, true, true, true, true, true, true, true, true, true, true, true, true, true, true, true, true, true, true, true, true, true, true, true, true, true, true, false] rfl rfl (any_of HT_.out (by kernel_rfl)) (fun _ _ _ h => h) (Or.inl ⟨by rfl, ?_⟩) ?_ ?_
                          rotate_left
                          · intro w'
                            go_simp
                            with_reducible rfl
                          rotate_left
                          · simp only [Act.put, List.setIfInBounds_toArray, List.set_cons_zero, List.set_cons_succ, i64_w, i32_w]
                            rfl
                          refine pure_ (i := 27) (N := some 68) (v := ?_) (a' := ?_) #[true, true, true, true, true, true, true, true, true, true, true, true, true, true, true, true, true, true, true, true, true, true, true, true, true, true, true, true] rfl rfl (any_of HT_.out (by kernel_rfl)) (fun _ _ _ h => h) (Or.inl ⟨by rfl, ?_⟩) ?_ ?_
                          rotate_left
                          · intro w'
                            go_simp
                            with_reducible rfl
                          rotate_left
                          · simp only [Act.put, List.setIfInBounds_toArray, List.set_cons_zero, List.set_cons_succ, i64_w, i32_w]
                            rfl
                          refine done_ (done_of HT_.out (by kernel_rfl)) ?_
                          try go_wp2
                          go_roundg k1
                          case measure => have := HK1.out; omega
                          case rel => exact ⟨(x36_1), (wrap64 (x36_1 + 1)), (by first | rfl | (simp; done) | (simp [*]; done)), (by first | rfl | (simp; done) | (simp [*]; done)), H', ⟨by have := HK1.out; omega⟩, ⟨by (with_reducible repeat (first | apply Kd.R_alloc | apply Kd.R_drewN | apply Kd.R_drew)); exact Kd.R_mono HO_7.out (fun _ hk => ⟨hk.1, hk.2.1⟩)⟩, ⟨by (with_reducible repeat (first | apply Kd.R_alloc | apply Kd.R_drewN | apply Kd.R_drew)); exact HO_8.out⟩, ⟨by (with_reducible repeat (first | apply Kd.R_alloc | apply Kd.R_drewN | apply Kd.R_drew)); exact Kd.R_mono HO_34.out (fun _ hk => ⟨hk.1, hk.2.1⟩)⟩, ⟨by (with_reducible repeat (first | refine blk_drewN ?_ _ | refine blk_drew ?_ | refine blk_alloc ?_ _)); exact BK101.out⟩, ⟨by (with_reducible repeat (first | refine blk_drewN ?_ _ | refine blk_drew ?_ | refine blk_alloc ?_ _)); exact BK102.out⟩, ⟨by repeat (first | (with_reducible first | exact HB.out | apply below_alloc | apply pw_below_drewN | apply below_drew1 | refine below_set ?_ GE101.out | refine below_set ?_ GE102.out | refine below_set ?_ GE112.out) | exact HB.out)⟩⟩
                        · rw [if_neg c30] at H
                          have c30b0 : decide ((wrap64 ((wrap64 ((rd_T26 t105 x36_1).f0)) * (wrap64 ((rd_T26 t105 x36_1).f1)))) < (wrap64 ((wrap64 ((rd_T26 t105 x9_1).f0)) * (wrap64 ((rd_T26 t105 x9_1).f1))))) = false := decide_eq_false c30
                          clear c30
                          have H' := Aside0.mk H
                          clear H
                          have p111 : 0 ≤ (x36_1 : Int) := of_decide_eq_true (by first | (with_reducible assumption) | assumption)
                          have q111 : x36_1 < (t105.length : Int) := of_decide_eq_true (by first | (with_reducible assumption) | assumption)
                          obtain ⟨ad111, e111, hx111_0, hx111_1, hx111_2⟩ := at_T26 (Kd.R_reads' HO_34.out).2.2 x36_1 p111 q111
                          cases e111
                          replace p111 := eq_true p111
                          replace q111 := eq_true q111
                          try go_wp2_with (first | ((with_reducible refine gate_dst (N := 11) rfl ?_); refine box_event ?hg (N := 11) ?hd (cs := #[.int .i16 0, .int .i16 0, .int .i16 0]) (t := 26) ?hr ?_; (case hd => rfl); (case hg => rfl); (case hr => first | (go_simp; done) | (go_simp; rfl)); intro gb112 hg w37 hbox hb; have n0_ := Aside0.mk (Kd.R_below (Kd.R_elderB (by (with_reducible repeat (first | apply Kd.R_alloc | apply Kd.R_drewN | apply Kd.R_drew)); exact HO_7.out) gb112 (Nat.le_of_eq hg.symm)) hb); have n1_ := Aside0.mk (Kd.R_below (by (with_reducible repeat (first | apply Kd.R_alloc | apply Kd.R_drewN | apply Kd.R_drew)); exact HO_8.out) hb); have n2_ := Aside0.mk (Kd.R_below (Kd.R_elderB (by (with_reducible repeat (first | apply Kd.R_alloc | apply Kd.R_drewN | apply Kd.R_drew)); exact HO_34.out) gb112 (Nat.le_of_eq hg.symm)) hb); have n3_ := Aside0.mk (blk_below (g := gb101) (o := .cells #[.int .i16 a0_0, .int .i16 a0_1, .int .i16 a0_2] 26 (0, 0)) (by (with_reducible repeat (first | refine blk_drewN ?_ _ | refine blk_drew ?_ | refine blk_alloc ?_ _)); exact BK101.out) hb); have n4_ := Aside0.mk (blk_below (g := gb102) (o := .cells #[.int .i16 0, .int .i16 0, .int .i16 0] 26 (0, 0)) (by (with_reducible repeat (first | refine blk_drewN ?_ _ | refine blk_drew ?_ | refine blk_alloc ?_ _)); exact BK102.out) hb); have n5_ := Aside0.mk (below_step (by repeat (first | (with_reducible first | exact HB.out | apply below_alloc | apply pw_below_drewN | apply below_drew1 | refine below_set ?_ GE101.out | refine below_set ?_ GE102.out) | exact HB.out)) hb); have n6_ := Aside0.mk (hbox); have n7_ := Aside0.mk ((by rw [hg]; exact (below_size (by repeat (first | (with_reducible first | exact HB.out | apply below_alloc | apply pw_below_drewN | apply below_drew1 | refine below_set ?_ GE101.out | refine below_set ?_ GE102.out) | exact HB.out))) : w.heap.size ≤ gb112)); have n8_ := Aside0.mk ((by rw [hg]; exact (below_size (by repeat (first | (with_reducible first | exact HB.out | apply below_alloc | apply pw_below_drewN | apply below_drew1 | refine below_set ?_ GE101.out | refine below_set ?_ GE102.out) | exact HB.out))) : w.heap.size ≤ gb112)); have n9_ := Aside0.mk ((by rw [hg]; exact Nat.ne_of_lt (blk_lt (g := gb101) (o := .cells #[.int .i16 a0_0, .int .i16 a0_1, .int .i16 a0_2] 26 (0, 0)) (by (with_reducible repeat (first | refine blk_drewN ?_ _ | refine blk_drew ?_ | refine blk_alloc ?_ _)); exact BK101.out)) : gb101 ≠ gb112)); have n10_ := Aside0.mk ((by rw [hg]; exact Nat.ne_of_gt (blk_lt (g := gb101) (o := .cells #[.int .i16 a0_0, .int .i16 a0_1, .int .i16 a0_2] 26 (0, 0)) (by (with_reducible repeat (first | refine blk_drewN ?_ _ | refine blk_drew ?_ | refine blk_alloc ?_ _)); exact BK101.out)) : gb112 ≠ gb101)); have n11_ := Aside0.mk ((by rw [hg]; exact Nat.ne_of_lt (blk_lt (g := gb102) (o := .cells #[.int .i16 0, .int .i16 0, .int .i16 0] 26 (0, 0)) (by (with_reducible repeat (first | refine blk_drewN ?_ _ | refine blk_drew ?_ | refine blk_alloc ?_ _)); exact BK102.out)) : gb102 ≠ gb112)); have n12_ := Aside0.mk ((by rw [hg]; exact Nat.ne_of_gt (blk_lt (g := gb102) (o := .cells #[.int .i16 0, .int .i16 0, .int .i16 0] 26 (0, 0)) (by (with_reducible repeat (first | refine blk_drewN ?_ _ | refine blk_drew ?_ | refine blk_alloc ?_ _)); exact BK102.out)) : gb112 ≠ gb102)); clear HO_7; clear HO_8; clear HO_34; clear BK101; clear BK102; clear HB; have HO_7 := n0_; have HO_8 := n1_; have HO_34 := n2_; have BK101 := n3_; have BK102 := n4_; have HB := n5_; have BK112 := n6_; have GW112 := n7_; have GE112 := n8_; have NB101_112 := n9_; have NB112_101 := n10_; have NB102_112 := n11_; have NB112_102 := n12_; clear n0_ n1_ n2_ n3_ n4_ n5_ n6_ n7_ n8_ n9_ n10_ n11_ n12_; clear hb hbox hg; have hnb38 := NB112_101.out; have hnc38 := NB101_112.out; have hnb39 := NB112_102.out; have hnc39 := NB102_112.out; have hcz40_0 : w37.cell? ⟨gb112, 0, none⟩ = some (.int .i16 0) := (blk_cell BK112.out 0).trans rfl; have hcz40_1 : w37.cell? ⟨gb112, 1, none⟩ = some (.int .i16 0) := (blk_cell BK112.out 1).trans rfl; have hcz40_2 : w37.cell? ⟨gb112, 2, none⟩ = some (.int .i16 0) := (blk_cell BK112.out 2).trans rfl; have hfz40_0 := blk_frozen BK112.out 0; have hfz40_1 := blk_frozen BK112.out 1; have hfz40_2 := blk_frozen BK112.out 2))
                          have n0_ : Aside0 (Kd.R k26 26 (((w37.setCell ⟨gb112, 0, none⟩ (.int .i16 ((rd_T26 t105 x36_1).f0))).setCell ⟨gb112, 1, none⟩ (.int .i16 ((rd_T26 t105 x36_1).f1))).setCell ⟨gb112, 2, none⟩ (.int .i16 ((rd_T26 t105 x36_1).f2))) w.heap.size (fun k_ => k_ ≠ gb101 ∧ k_ ≠ gb102 ∧ k_ ≠ gb112) (.slice (some ad111) t105.length co23) t105) := ⟨by (with_reducible repeat (first | apply Kd.R_alloc | apply Kd.R_drewN | apply Kd.R_drew)); exact Kd.R_mono (Kd.R_far (p := ⟨gb112, 2, none⟩) (Kd.R_far (p := ⟨gb112, 1, none⟩) (Kd.R_far (p := ⟨gb112, 0, none⟩) (Kd.R_mono HO_7.out (fun k_ hk => (⟨hk, hk.2⟩ : _ ∧ k_ ≠ gb112))) (fun _ hk => hk.2) (.int .i16 ((rd_T26 t105 x36_1).f0))) (fun _ hk => hk.2) (.int .i16 ((rd_T26 t105 x36_1).f1))) (fun _ hk => hk.2) (.int .i16 ((rd_T26 t105 x36_1).f2))) (fun _ hk => ⟨hk.1.1.1, ⟨hk.1.1.2, hk.1.2⟩⟩)⟩
                          have n1_ : Aside0 (Kd.R (Kd.slice 2 (Kd.int .i64)) 25 (((w37.setCell ⟨gb112, 0, none⟩ (.int .i16 ((rd_T26 t105 x36_1).f0))).setCell ⟨gb112, 1, none⟩ (.int .i16 ((rd_T26 t105 x36_1).f1))).setCell ⟨gb112, 2, none⟩ (.int .i16 ((rd_T26 t105 x36_1).f2))) w.heap.size (fun _ => True) v109 t108) := ⟨by (with_reducible repeat (first | apply Kd.R_alloc | apply Kd.R_drewN | apply Kd.R_drew)); exact Kd.R_mono (Kd.R_far (p := ⟨gb112, 2, none⟩) (Kd.R_far (p := ⟨gb112, 1, none⟩) (Kd.R_far (p := ⟨gb112, 0, none⟩) (Kd.R_types HO_8.out BK112.out (by decide)) (fun _ hk => hk.2) (.int .i16 ((rd_T26 t105 x36_1).f0))) (fun _ hk => hk.2) (.int .i16 ((rd_T26 t105 x36_1).f1))) (fun _ hk => hk.2) (.int .i16 ((rd_T26 t105 x36_1).f2))) (fun _ hk => trivial)⟩
                          have n2_ : Aside0 (Kd.R k26 26 (((w37.setCell ⟨gb112, 0, none⟩ (.int .i16 ((rd_T26 t105 x36_1).f0))).setCell ⟨gb112, 1, none⟩ (.int .i16 ((rd_T26 t105 x36_1).f1))).setCell ⟨gb112, 2, none⟩ (.int .i16 ((rd_T26 t105 x36_1).f2))) w.heap.size (fun k_ => k_ ≠ gb101 ∧ k_ ≠ gb102 ∧ k_ ≠ gb112) (.slice (some ad111) t105.length co23) t105) := ⟨by (with_reducible repeat (first | apply Kd.R_alloc | apply Kd.R_drewN | apply Kd.R_drew)); exact Kd.R_mono (Kd.R_far (p := ⟨gb112, 2, none⟩) (Kd.R_far (p := ⟨gb112, 1, none⟩) (Kd.R_far (p := ⟨gb112, 0, none⟩) (Kd.R_mono HO_34.out (fun k_ hk => (⟨hk, hk.2⟩ : _ ∧ k_ ≠ gb112))) (fun _ hk => hk.2) (.int .i16 ((rd_T26 t105 x36_1).f0))) (fun _ hk => hk.2) (.int .i16 ((rd_T26 t105 x36_1).f1))) (fun _ hk => hk.2) (.int .i16 ((rd_T26 t105 x36_1).f2))) (fun _ hk => ⟨hk.1.1.1, ⟨hk.1.1.2, hk.1.2⟩⟩)⟩
                          have n3_ : Aside0 ((((w37.setCell ⟨gb112, 0, none⟩ (.int .i16 ((rd_T26 t105 x36_1).f0))).setCell ⟨gb112, 1, none⟩ (.int .i16 ((rd_T26 t105 x36_1).f1))).setCell ⟨gb112, 2, none⟩ (.int .i16 ((rd_T26 t105 x36_1).f2))).heap[gb101]? = some (.cells #[.int .i16 a0_0, .int .i16 a0_1, .int .i16 a0_2] 26 (0, 0))) := ⟨by (with_reducible repeat (first | refine blk_drewN ?_ _ | refine blk_drew ?_ | refine blk_alloc ?_ _)); refine blk_far ?_ NB101_112.out _; (with_reducible repeat (first | refine blk_drewN ?_ _ | refine blk_drew ?_ | refine blk_alloc ?_ _)); refine blk_far ?_ NB101_112.out _; (with_reducible repeat (first | refine blk_drewN ?_ _ | refine blk_drew ?_ | refine blk_alloc ?_ _)); refine blk_far ?_ NB101_112.out _; (with_reducible repeat (first | refine blk_drewN ?_ _ | refine blk_drew ?_ | refine blk_alloc ?_ _)); exact BK101.out⟩
                          have n4_ : Aside0 ((((w37.setCell ⟨gb112, 0, none⟩ (.int .i16 ((rd_T26 t105 x36_1).f0))).setCell ⟨gb112, 1, none⟩ (.int .i16 ((rd_T26 t105 x36_1).f1))).setCell ⟨gb112, 2, none⟩ (.int .i16 ((rd_T26 t105 x36_1).f2))).heap[gb102]? = some (.cells #[.int .i16 0, .int .i16 0, .int .i16 0] 26 (0, 0))) := ⟨by (with_reducible repeat (first | refine blk_drewN ?_ _ | refine blk_drew ?_ | refine blk_alloc ?_ _)); refine blk_far ?_ NB102_112.out _; (with_reducible repeat (first | refine blk_drewN ?_ _ | refine blk_drew ?_ | refine blk_alloc ?_ _)); refine blk_far ?_ NB102_112.out _; (with_reducible repeat (first | refine blk_drewN ?_ _ | refine blk_drew ?_ | refine blk_alloc ?_ _)); refine blk_far ?_ NB102_112.out _; (with_reducible repeat (first | refine blk_drewN ?_ _ | refine blk_drew ?_ | refine blk_alloc ?_ _)); exact BK102.out⟩
                          have n5_ : Aside0 ((((w37.setCell ⟨gb112, 0, none⟩ (.int .i16 ((rd_T26 t105 x36_1).f0))).setCell ⟨gb112, 1, none⟩ (.int .i16 ((rd_T26 t105 x36_1).f1))).setCell ⟨gb112, 2, none⟩ (.int .i16 ((rd_T26 t105 x36_1).f2))).heap[gb112]? = some (.cells #[.int .i16 ((rd_T26 t105 x36_1).f0), .int .i16 ((rd_T26 t105 x36_1).f1), .int .i16 ((rd_T26 t105 x36_1).f2)] 26 (0, 0))) := ⟨by (with_reducible repeat (first | refine blk_drewN ?_ _ | refine blk_drew ?_ | refine blk_alloc ?_ _)); refine blk_put (cs := #[.int .i16 ((rd_T26 t105 x36_1).f0), .int .i16 ((rd_T26 t105 x36_1).f1), .int .i16 0]) ?_ 2 _ rfl; (with_reducible repeat (first | refine blk_drewN ?_ _ | refine blk_drew ?_ | refine blk_alloc ?_ _)); refine blk_put (cs := #[.int .i16 ((rd_T26 t105 x36_1).f0), .int .i16 0, .int .i16 0]) ?_ 1 _ rfl; (with_reducible repeat (first | refine blk_drewN ?_ _ | refine blk_drew ?_ | refine blk_alloc ?_ _)); refine blk_put (cs := #[.int .i16 0, .int .i16 0, .int .i16 0]) ?_ 0 _ rfl; (with_reducible repeat (first | refine blk_drewN ?_ _ | refine blk_drew ?_ | refine blk_alloc ?_ _)); exact BK112.out⟩
                          have n6_ : Aside0 (Below w.heap.size w (((w37.setCell ⟨gb112, 0, none⟩ (.int .i16 ((rd_T26 t105 x36_1).f0))).setCell ⟨gb112, 1, none⟩ (.int .i16 ((rd_T26 t105 x36_1).f1))).setCell ⟨gb112, 2, none⟩ (.int .i16 ((rd_T26 t105 x36_1).f2)))) := ⟨by repeat (first | (with_reducible first | exact HB.out | apply below_alloc | apply pw_below_drewN | apply below_drew1 | refine below_set ?_ GE101.out | refine below_set ?_ GE102.out | refine below_set ?_ GE112.out) | exact HB.out)⟩
                          (try clear HO_7)
                          (try clear HO_8)
                          (try clear HO_34)
                          (try clear BK101)
                          (try clear BK102)
                          (try clear BK112)
                          (try clear HB)
                          generalize (((w37.setCell ⟨gb112, 0, none⟩ (.int .i16 ((rd_T26 t105 x36_1).f0))).setCell ⟨gb112, 1, none⟩ (.int .i16 ((rd_T26 t105 x36_1).f1))).setCell ⟨gb112, 2, none⟩ (.int .i16 ((rd_T26 t105 x36_1).f2))) = w41 at n0_ n1_ n2_ n3_ n4_ n5_ n6_ ⊢
                          have HO_7 := n0_
                          have HO_8 := n1_
                          have HO_34 := n2_
                          have BK101 := n3_
                          have BK102 := n4_
                          have BK112 := n5_
                          have HB := n6_
                          clear n0_ n1_ n2_ n3_ n4_ n5_ n6_
                          have n0_ := Aside0.mk (Kd.R_drew HO_7.out)
                          have n1_ := Aside0.mk (Kd.R_drew HO_8.out)
                          have n2_ := Aside0.mk (Kd.R_drew HO_34.out)
                          have n3_ := Aside0.mk (blk_drew BK101.out)
                          have n4_ := Aside0.mk (blk_drew BK102.out)
                          have n5_ := Aside0.mk (blk_drew BK112.out)
                          have n6_ := Aside0.mk (below_drew1 HB.out)
                          clear HO_7
                          clear HO_8
                          clear HO_34
                          clear BK101
                          clear BK102
                          clear BK112
                          clear HB
                          have HO_7 := n0_
                          have HO_8 := n1_
                          have HO_34 := n2_
                          have BK101 := n3_
                          have BK102 := n4_
                          have BK112 := n5_
                          have HB := n6_
                          clear n0_ n1_ n2_ n3_ n4_ n5_ n6_
                          have p113 : 0 ≤ (x9_1 : Int) := of_decide_eq_true (by first | (with_reducible assumption) | assumption)
                          have q113 : x9_1 < (t105.length : Int) := of_decide_eq_true (by first | (with_reducible assumption) | assumption)
                          obtain ⟨ad113, e113, hx113_0, hx113_1, hx113_2⟩ := at_T26 (Kd.R_reads' HO_7.out).2.2 x9_1 p113 q113
                          obtain rfl : ad111 = ad113 := (by injection e113)
                          replace p113 := eq_true p113
                          replace q113 := eq_true q113
                          have p114 : 0 ≤ (x9_1 : Int) := of_decide_eq_true (by first | (with_reducible assumption) | assumption)
                          have q114 : x9_1 < (t105.length : Int) := of_decide_eq_true (by first | (with_reducible assumption) | assumption)
                          obtain ⟨ad114, e114, hx114_0, hx114_1, hx114_2⟩ := at_T26 (Kd.R_reads' HO_7.out).2.2 x9_1 p114 q114
                          obtain rfl : ad111 = ad114 := (by injection e114)
                          replace p114 := eq_true p114
                          replace q114 := eq_true q114
                          refine start_ (n := 28) (S := fun w' => w'.cell? ⟨gb112, 0, none⟩ = some (.int .i16 ((rd_T26 t105 x36_1).f0)) ∧ w'.cell? ⟨gb112, 1, none⟩ = some (.int .i16 ((rd_T26 t105 x36_1).f1)) ∧ w'.cell? ⟨gb112, 2, none⟩ = some (.int .i16 ((rd_T26 t105 x36_1).f2)) ∧ w'.cell? (ad111.add ((x9_1).toNat * 3)) = some (.int .i16 ((rd_T26 t105 x9_1).f0)) ∧ w'.cell? ⟨(ad111.add ((x9_1).toNat * 3)).block, (ad111.add ((x9_1).toNat * 3)).off + 1, none⟩ = some (.int .i16 ((rd_T26 t105 x9_1).f1)) ∧ w'.cell? ⟨(ad111.add ((x9_1).toNat * 3)).block, (ad111.add ((x9_1).toNat * 3)).off + 2, none⟩ = some (.int .i16 ((rd_T26 t105 x9_1).f2)) ∧ w'.cell? (ad111.add ((x9_1).toNat * 3)) = some (.int .i16 ((rd_T26 t105 x9_1).f0)) ∧ w'.cell? ⟨(ad111.add ((x9_1).toNat * 3)).block, (ad111.add ((x9_1).toNat * 3)).off + 1, none⟩ = some (.int .i16 ((rd_T26 t105 x9_1).f1)) ∧ w'.cell? ⟨(ad111.add ((x9_1).toNat * 3)).block, (ad111.add ((x9_1).toNat * 3)).off + 2, none⟩ = some (.int .i16 ((rd_T26 t105 x9_1).f2))) (ds := []) #[false, false, false, false, false, false, false, false, false, false, false, false, false, false, false, false, false, false, false, false, false, false, false, false, false, false, false, false] (by kernel_rfl) rfl rfl ⟨(blk_cell BK112.out 0).trans rfl, (blk_cell BK112.out 1).trans rfl, (blk_cell BK112.out 2).trans rfl, hx113_0, hx113_1, hx113_2, hx114_0, hx114_1, hx114_2⟩ (fun hHeld => ?_); refine with_tabW impl_SmallestFor.tab12 impl_SmallestFor.bits12 (fun HT_ HW_ => ?_)
                          generalize w41.drew = w42 at HO_7 HO_8 HO_34 BK101 BK102 BK112 HB hx113_0 hx113_1 hx113_2 hx114_0 hx114_1 hx114_2 hHeld ⊢
                          refine pure_ (i := 0) (N := some 41) (v := ?_) (a' := ?_) #[true, false, false, false, false, false, false, false, false, false, false, false, false, false, false, false, false, false, false, false, false, false, false, false, false, false, false, false] rfl rfl (any_of HT_.out (by kernel_rfl)) (fun _ _ _ h => h) (Or.inl ⟨by rfl, ?_⟩) ?_ ?_
                          rotate_left
                          · intro w'
                            go_simp
                            with_reducible rfl
                          rotate_left
                          · simp only [Act.put, List.setIfInBounds_toArray, List.set_cons_zero, List.set_cons_succ, i64_w, i32_w]
                            rfl
                          refine pure_ (i := 3) (N := some 44) (v := ?_) (a' := ?_) #[true, false, false, true, false, false, false, false, false, false, false, false, false, false, false, false, false, false, false, false, false, false, false, false, false, false, false, false] rfl rfl (any_of HT_.out (by kernel_rfl)) (fun _ _ _ h => h) (Or.inl ⟨by rfl, ?_⟩) ?_ ?_
                          rotate_left
                          · intro w'
                            go_simp
                            with_reducible rfl
                          rotate_left
                          · simp only [Act.put, List.setIfInBounds_toArray, List.set_cons_zero, List.set_cons_succ, i64_w, i32_w]
                            rfl
                          refine take_ (i := 1) (N := some 42) (v := ?_) (a' := ?_) #[true, true, false, true, false, false, false, false, false, false, false, false, false, false, false, false, false, false, false, false, false, false, false, false, false, false, false, false] rfl rfl (take_ofW HT_.out HW_.out (by kernel_rfl)) (fun _ _ _ h => h) (Or.inl ⟨by rfl, ?_⟩) hHeld ?_ ?_
                          rotate_left
                          · rintro w' ⟨s0, s1, s2, s3, s4, s5, s6, s7, s8⟩
                            go_simp
                            with_reducible rfl
                          rotate_left
                          · simp only [Act.put, List.setIfInBounds_toArray, List.set_cons_zero, List.set_cons_succ, i64_w, i32_w]
                            rfl
                          refine pure_ (i := 2) (N := some 43) (v := ?_) (a' := ?_) #[true, true, true, true, false, false, false, false, false, false, false, false, false, false, false, false, false, false, false, false, false, false, false, false, false, false, false, false] rfl rfl (any_of HT_.out (by kernel_rfl)) (fun _ _ _ h => h) (Or.inl ⟨by rfl, ?_⟩) ?_ ?_
                          rotate_left
                          · intro w'
                            go_simp
                            with_reducible rfl
                          rotate_left
                          · simp only [Act.put, List.setIfInBounds_toArray, List.set_cons_zero, List.set_cons_succ, i64_w, i32_w]
                            rfl
                          refine pure_ (i := 4) (N := some 45) (v := ?_) (a' := ?_) #[true, true, true, true, true, false, false, false, false, false, false, false, false, false, false, false, false, false, false, false, false, false, false, false, false, false, false, false] rfl rfl (any_of HT_.out (by kernel_rfl)) (fun _ _ _ h => h) (Or.inl ⟨by rfl, ?_⟩) ?_ ?_
                          rotate_left
                          · intro w'
                            go_simp
                            with_reducible rfl
                          rotate_left
                          · simp only [Act.put, List.setIfInBounds_toArray, List.set_cons_zero, List.set_cons_succ, i64_w, i32_w]
                            rfl
                          refine pure_ (i := 5) (N := some 46) (v := ?_) (a' := ?_) #[true, true, true, true, true, true, false, false, false, false, false, false, false, false, false, false, false, false, false, false, false, false, false, false, false, false, false, false] rfl rfl (any_of HT_.out (by kernel_rfl)) (fun _ _ _ h => h) (Or.inl ⟨by rfl, ?_⟩) ?_ ?_
                          rotate_left
                          · intro w'
                            go_simp
                            with_reducible rfl
                          rotate_left
                          · simp only [Act.put, List.setIfInBounds_toArray, List.set_cons_zero, List.set_cons_succ, i64_w, i32_w]
                            rfl
                          refine pure_ (i := 6) (N := some 47) (v := ?_) (a' := ?_) #[true, true, true, true, true, true, true, false, false, false, false, false, false, false, false, false, false, false, false, false, false, false, false, false, false, false, false, false] rfl rfl (any_of HT_.out (by kernel_rfl)) (fun _ _ _ h => h) (Or.inl ⟨by rfl, ?_⟩) ?_ ?_
                          rotate_left
                          · intro w'
                            go_simp
                            with_reducible rfl
                          rotate_left
                          · simp only [Act.put, List.setIfInBounds_toArray, List.set_cons_zero, List.set_cons_succ, i64_w, i32_w]
                            rfl
                          refine pure_ (i := 9) (N := some 50) (v := ?_) (a' := ?_) #[true, true, true, true, true, true, true, false, false, true, false, false, false, false, false, false, false, false, false, false, false, false, false, false, false, false, false, false] rfl rfl (any_of HT_.out (by kernel_rfl)) (fun _ _ _ h => h) (Or.inl ⟨by rfl, ?_⟩) ?_ ?_
                          rotate_left
                          · intro w'
                            go_simp
                            with_reducible rfl
                          rotate_left
                          · simp only [Act.put, List.setIfInBounds_toArray, List.set_cons_zero, List.set_cons_succ, i64_w, i32_w]
                            rfl
                          refine pure_ (i := 13) (N := some 54) (v := ?_) (a' := ?_) #[true, true, true, true, true, true, true, false, false, true, false, false, false, true, false, false, false, false, false, false, false, false, false, false, false, false, false, false] rfl rfl (any_of HT_.out (by kernel_rfl)) (fun _ _ _ h => h) (Or.inl ⟨by rfl, ?_⟩) ?_ ?_
                          rotate_left
                          · intro w'
                            go_simp
                            with_reducible rfl
                          rotate_left
                          · simp only [Act.put, List.setIfInBounds_toArray, List.set_cons_zero, List.set_cons_succ, i64_w, i32_w]
                            rfl
                          refine pure_ (i := 14) (N := some 55) (v := ?_) (a' := ?_) #[true, true, true, true, true, true, true, false, false, true, false, false, false, true, true, false, false, false, false, false, false, false, false, false, false, false, false, false] rfl rfl (any_of HT_.out (by kernel_rfl)) (fun _ _ _ h => h) (Or.inl ⟨by rfl, ?_⟩) ?_ ?_
                          rotate_left
                          · intro w'
                            go_simp
                            with_reducible rfl
                          rotate_left
                          · simp only [Act.put, List.setIfInBounds_toArray, List.set_cons_zero, List.set_cons_succ, i64_w, i32_w]
                            rfl
                          refine pure_ (i := 15) (N := some 56) (v := ?_) (a' := ?_) #[true, true, true, true, true, true, true, false, false, true, false, false, false, true, true, true, false, false, false, false, false, false, false, false, false, false, false, false] rfl rfl (any_of HT_.out (by kernel_rfl)) (fun _ _ _ h => h) (Or.inl ⟨by rfl, ?_⟩) ?_ ?_
                          rotate_left
                          · intro w'
                            go_simp
                            with_reducible rfl
                          rotate_left
                          · simp only [Act.put, List.setIfInBounds_toArray, List.set_cons_zero, List.set_cons_succ, i64_w, i32_w]
                            rfl
                          refine pure_ (i := 16) (N := some 57) (v := ?_) (a' := ?_) #[true, true, true, true, true, true, true, false, false, true, false, false, false, true, true, true, true, false, false, false, false, false, false, false, false, false, false, false] rfl rfl (any_of HT_.out (by kernel_rfl)) (fun _ _ _ h => h) (Or.inl ⟨by rfl, ?_⟩) ?_ ?_
                          rotate_left
                          · intro w'
                            go_simp
                            with_reducible rfl
                          rotate_left
                          · simp only [Act.put, List.setIfInBounds_toArray, List.set_cons_zero, List.set_cons_succ, i64_w, i32_w]
                            rfl
                          refine pure_ (i := 19) (N := some 60) (v := ?_) (a' := ?_) #[true, true, true, true, true, true, true, false, false, true, false, false, false, true, true, true, true, false, false, true, false, false, false, false, false, false, false, false] rfl rfl (any_of HT_.out (by kernel_rfl)) (fun _ _ _ h => h) (Or.inl ⟨by rfl, ?_⟩) ?_ ?_
                          rotate_left
                          · intro w'
                            go_simp
                            with_reducible rfl
                          rotate_left
                          · simp only [Act.put, List.setIfInBounds_toArray, List.set_cons_zero, List.set_cons_succ, i64_w, i32_w]
                            rfl
                          refine pure_ (i := 20) (N := some 61) (v := ?_) (a' := ?_) #[true, true, true, true, true, true, true, false, false, true, false, false, false, true, true, true, true, false, false, true, true, false, false, false, false, false, false, false] rfl rfl (any_of HT_.out (by kernel_rfl)) (fun _ _ _ h => h) (Or.inl ⟨by rfl, ?_⟩) ?_ ?_
                          rotate_left
                          · intro w'
                            go_simp
                            with_reducible rfl
                          rotate_left
                          · simp only [Act.put, List.setIfInBounds_toArray, List.set_cons_zero, List.set_cons_succ, i64_w, i32_w]
                            rfl
                          refine pure_ (i := 21) (N := some 62) (v := ?_) (a' := ?_) #[true, true, true, true, true, true, true, false, false, true, false, false, false, true, true, true, true, false, false, true, true, true, false, false, false, false, false, false] rfl rfl (any_of HT_.out (by kernel_rfl)) (fun _ _ _ h => h) (Or.inl ⟨by rfl, ?_⟩) ?_ ?_
                          rotate_left
                          · intro w'
                            go_simp
                            with_reducible rfl
                          rotate_left
                          · simp only [Act.put, List.setIfInBounds_toArray, List.set_cons_zero, List.set_cons_succ, i64_w, i32_w]
                            rfl
                          refine pure_ (i := 22) (N := some 63) (v := ?_) (a' := ?_) #[true, true, true, true, true, true, true, false, false, true, false, false, false, true, true, true, true, false, false, true, true, true, true, false, false, false, false, false] rfl rfl (any_of HT_.out (by kernel_rfl)) (fun _ _ _ h => h) (Or.inl ⟨by rfl, ?_⟩) ?_ ?_
                          rotate_left
                          · intro w'
                            go_simp
                            with_reducible rfl
                          rotate_left
                          · simp only [Act.put, List.setIfInBounds_toArray, List.set_cons_zero, List.set_cons_succ, i64_w, i32_w]
                            rfl
                          refine take_ (i := 7) (N := some 48) (v := ?_) (a' := ?_) #[true, true, true, true, true, true, true, true, false, true, false, false, false, true, true, true, true, false, false, true, true, true, true, false, false, false, false, false] rfl rfl (take_ofW HT_.out HW_.out (by kernel_rfl)) (fun _ _ _ h => h) (Or.inl ⟨by rfl, ?_⟩) hHeld ?_ ?_
                          rotate_left
                          · rintro w' ⟨s0, s1, s2, s3, s4, s5, s6, s7, s8⟩
                            go_simp
                            with_reducible rfl
                          rotate_left
                          · simp only [Act.put, List.setIfInBounds_toArray, List.set_cons_zero, List.set_cons_succ, i64_w, i32_w]
                            rfl
                          refine pure_ (i := 8) (N := some 49) (v := ?_) (a' := ?_) #[true, true, true, true, true, true, true, true, true, true, false, false, false, true, true, true, true, false, false, true, true, true, true, false, false, false, false, false] rfl rfl (any_of HT_.out (by kernel_rfl)) (fun _ _ _ h => h) (Or.inl ⟨by rfl, ?_⟩) ?_ ?_
                          rotate_left
                          · intro w'
                            go_simp
                            with_reducible rfl
                          rotate_left
                          · simp only [Act.put, List.setIfInBounds_toArray, List.set_cons_zero, List.set_cons_succ, i64_w, i32_w]
                            rfl
                          refine take_ (i := 10) (N := some 51) (v := ?_) (a' := ?_) #[true, true, true, true, true, true, true, true, true, true, true, false, false, true, true, true, true, false, false, true, true, true, true, false, false, false, false, false] rfl rfl (take_ofW HT_.out HW_.out (by kernel_rfl)) (fun _ _ _ h => h) (Or.inl ⟨by rfl, ?_⟩) hHeld ?_ ?_
                          rotate_left
                          · rintro w' ⟨s0, s1, s2, s3, s4, s5, s6, s7, s8⟩
                            go_simp
                            with_reducible rfl
                          rotate_left
                          · simp only [Act.put, List.setIfInBounds_toArray, List.set_cons_zero, List.set_cons_succ, i64_w, i32_w]
                            rfl
                          refine pure_ (i := 11) (N := some 52) (v := ?_) (a' := ?_) #[true, true, true, true, true, true, true, true, true, true, true, true, false, true, true, true, true, false, false, true, true, true, true, false, false, false, false, false] rfl rfl (any_of HT_.out (by kernel_rfl)) (fun _ _ _ h => h) (Or.inl ⟨by rfl, ?_⟩) ?_ ?_
                          rotate_left
                          · intro w'
                            go_simp
                            with_reducible rfl
                          rotate_left
                          · simp only [Act.put, List.setIfInBounds_toArray, List.set_cons_zero, List.set_cons_succ, i64_w, i32_w]
                            rfl
                          refine pure_ (i := 12) (N := some 53) (v := ?_) (a' := ?_) #[true, true, true, true, true, true, true, true, true, true, true, true, true, true, true, true, true, false, false, true, true, true, true, false, false, false, false, false] rfl rfl (any_of HT_.out (by kernel_rfl)) (fun _ _ _ h => h) (Or.inl ⟨by rfl, ?_⟩) ?_ ?_
                          rotate_left
                          · intro w'
                            go_simp
                            with_reducible rfl
                          rotate_left
                          · simp only [Act.put, List.setIfInBounds_toArray, List.set_cons_zero, List.set_cons_succ, i64_w, i32_w]
                            rfl
                          refine take_ (i := 17) (N := some 58) (v := ?_) (a' := ?_) #[true, true, true, true, true, true, true, true, true, true, true, true, true, true, true, true, true, true, false, true, true, true, true, false, false, false, false, false] rfl rfl (take_ofW HT_.out HW_.out (by kernel_rfl)) (fun _ _ _ h => h) (Or.inl ⟨by rfl, ?_⟩) hHeld ?_ ?_
                          rotate_left
                          · rintro w' ⟨s0, s1, s2, s3, s4, s5, s6, s7, s8⟩
                            go_simp
                            with_reducible rfl
                          rotate_left
                          · simp only [Act.put, List.setIfInBounds_toArray, List.set_cons_zero, List.set_cons_succ, i64_w, i32_w]
                            rfl
                          refine pure_ (i := 18) (N := some 59) (v := ?_) (a' := ?_) #[true, true, true, true, true, true, true, true, true, true, true, true, true, true, true, true, true, true, true, true, true, true, true, false, false, false, false, false] rfl rfl (any_of HT_.out (by kernel_rfl)) (fun _ _ _ h => h) (Or.inl ⟨by rfl, ?_⟩) ?_ ?_
                          rotate_left
                          · intro w'
                            go_simp
                            with_reducible rfl
                          rotate_left
                          · simp only [Act.put, List.setIfInBounds_toArray, List.set_cons_zero, List.set_cons_succ, i64_w, i32_w]
                            rfl
                          refine take_ (i := 23) (N := some 64) (v := ?_) (a' := ?_) #[true, true, true, true, true, true, true, true, true, true, true, true, true, true, true, true, true, true, true, true, true, true, true, true, false, false, false, false] rfl rfl (take_ofW HT_.out HW_.out (by kernel_rfl)) (fun _ _ _ h => h) (Or.inl ⟨by rfl, ?_⟩) hHeld ?_ ?_
                          rotate_left
                          · rintro w' ⟨s0, s1, s2, s3, s4, s5, s6, s7, s8⟩
                            go_simp
                            with_reducible rfl
                          rotate_left
                          · simp only [Act.put, List.setIfInBounds_toArray, List.set_cons_zero, List.set_cons_succ, i64_w, i32_w]
                            rfl
                          refine pure_ (i := 24) (N := some 65) (v := ?_) (a' := ?_) #[true, true, true, true, true, true, true, true, true, true, true, true, true, true, true, true, true, true, true, true, true, true, true, true, true, false, false, false] rfl rfl (any_of HT_.out (by kernel_rfl)) (fun _ _ _ h => h) (Or.inl ⟨by rfl, ?_⟩) ?_ ?_
                          rotate_left
                          · intro w'
                            go_simp
                            with_reducible rfl
                          rotate_left
                          · simp only [Act.put, List.setIfInBounds_toArray, List.set_cons_zero, List.set_cons_succ, i64_w, i32_w]
                            rfl
                          refine pure_ (i := 25) (N := some 66) (v := ?_) (a' := ?_) #[true, true, true, true, true, true, true, true, true, true, true, true, true, true, true, true, true, true, true, true, true, true, true, true, true, true, false, false] rfl rfl (any_of HT_.out (by kernel_rfl)) (fun _ _ _ h => h) (Or.inl ⟨by rfl, ?_⟩) ?_ ?_
                          rotate_left
                          · intro w'
                            go_simp
                            with_reducible rfl
                          rotate_left
                          · simp only [Act.put, List.setIfInBounds_toArray, List.set_cons_zero, List.set_cons_succ, i64_w, i32_w]
                            rfl
                          refine pure_ (i := 26) (N := some 67) (v := ?_) (a' := ?_) #[true, true, true, true, true, true, true, true, true, true, true, true, true, true, true, true, true, true, true, true, true, true, true, true, true, true, true, false] rfl rfl (any_of HT_.out (by kernel_rfl)) (fun _ _ _ h => h) (Or.inl ⟨by rfl, ?_⟩) ?_ ?_
                          rotate_left
                          · intro w'
                            go_simp
                            with_reducible rfl
                          rotate_left
                          · simp only [Act.put, List.setIfInBounds_toArray, List.set_cons_zero, List.set_cons_succ, i64_w, i32_w]
                            rfl
                          refine pure_ (i := 27) (N := some 68) (v := ?_) (a' := ?_) #[true, true, true, true, true, true, true, true, true, true, true, true, true, true, true, true, true, true, true, true, true, true, true, true, true, true, true, true] rfl rfl (any_of HT_.out (by kernel_rfl)) (fun _ _ _ h => h) (Or.inl ⟨by rfl, ?_⟩) ?_ ?_
                          rotate_left
                          · intro w'
                            go_simp
                            with_reducible rfl
                          rotate_left
                          · simp only [Act.put, List.setIfInBounds_toArray, List.set_cons_zero, List.set_cons_succ, i64_w, i32_w]
                            rfl
                          refine done_ (done_of HT_.out (by kernel_rfl)) ?_
                          try go_wp2
                          go_roundg k1
                          case measure => have := HK1.out; omega
                          case rel => exact ⟨(x9_1), (wrap64 (x36_1 + 1)), (by first | rfl | (simp; done) | (simp [*]; done)), (by first | rfl | (simp; done) | (simp [*]; done)), H', ⟨by have := HK1.out; omega⟩, ⟨by (with_reducible repeat (first | apply Kd.R_alloc | apply Kd.R_drewN | apply Kd.R_drew)); exact Kd.R_mono HO_7.out (fun _ hk => ⟨hk.1, hk.2.1⟩)⟩, ⟨by (with_reducible repeat (first | apply Kd.R_alloc | apply Kd.R_drewN | apply Kd.R_drew)); exact HO_8.out⟩, ⟨by (with_reducible repeat (first | apply Kd.R_alloc | apply Kd.R_drewN | apply Kd.R_drew)); exact Kd.R_mono HO_34.out (fun _ hk => ⟨hk.1, hk.2.1⟩)⟩, ⟨by (with_reducible repeat (first | refine blk_drewN ?_ _ | refine blk_drew ?_ | refine blk_alloc ?_ _)); exact BK101.out⟩, ⟨by (with_reducible repeat (first | refine blk_drewN ?_ _ | refine blk_drew ?_ | refine blk_alloc ?_ _)); exact BK102.out⟩, ⟨by repeat (first | (with_reducible first | exact HB.out | apply below_alloc | apply pw_below_drewN | apply below_drew1 | refine below_set ?_ GE101.out | refine below_set ?_ GE102.out | refine below_set ?_ GE112.out) | exact HB.out)⟩⟩
                      · rw [if_neg c29] at H
                        exact absurd H (by simp)
                    · rw [if_neg c28] at H
                      exact absurd H (by simp)
                  · rw [if_neg c27] at H
                    have c27b0 : decide ((wrap64 ((rd_T26 t105 x36_1).f2)) ≤ a1) = false := decide_eq_false c27
                    clear c27
                    have H' := Aside0.mk H
                    clear H
                    have p111 : 0 ≤ (x36_1 : Int) := of_decide_eq_true (by first | (with_reducible assumption) | assumption)
                    have q111 : x36_1 < (t105.length : Int) := of_decide_eq_true (by first | (with_reducible assumption) | assumption)
                    obtain ⟨ad111, e111, hx111_0, hx111_1, hx111_2⟩ := at_T26 (Kd.R_reads' HO_34.out).2.2 x36_1 p111 q111
                    cases e111
                    replace p111 := eq_true p111
                    replace q111 := eq_true q111
                    try go_wp2_with (first | ((with_reducible refine gate_dst (N := 11) rfl ?_); refine box_event ?hg (N := 11) ?hd (cs := #[.int .i16 0, .int .i16 0, .int .i16 0]) (t := 26) ?hr ?_; (case hd => rfl); (case hg => rfl); (case hr => first | (go_simp; done) | (go_simp; rfl)); intro gb112 hg w43 hbox hb; have n0_ := Aside0.mk (Kd.R_below (Kd.R_elderB (by (with_reducible repeat (first | apply Kd.R_alloc | apply Kd.R_drewN | apply Kd.R_drew)); exact HO_7.out) gb112 (Nat.le_of_eq hg.symm)) hb); have n1_ := Aside0.mk (Kd.R_below (by (with_reducible repeat (first | apply Kd.R_alloc | apply Kd.R_drewN | apply Kd.R_drew)); exact HO_8.out) hb); have n2_ := Aside0.mk (Kd.R_below (Kd.R_elderB (by (with_reducible repeat (first | apply Kd.R_alloc | apply Kd.R_drewN | apply Kd.R_drew)); exact HO_34.out) gb112 (Nat.le_of_eq hg.symm)) hb); have n3_ := Aside0.mk (blk_below (g := gb101) (o := .cells #[.int .i16 a0_0, .int .i16 a0_1, .int .i16 a0_2] 26 (0, 0)) (by (with_reducible repeat (first | refine blk_drewN ?_ _ | refine blk_drew ?_ | refine blk_alloc ?_ _)); exact BK101.out) hb); have n4_ := Aside0.mk (blk_below (g := gb102) (o := .cells #[.int .i16 0, .int .i16 0, .int .i16 0] 26 (0, 0)) (by (with_reducible repeat (first | refine blk_drewN ?_ _ | refine blk_drew ?_ | refine blk_alloc ?_ _)); exact BK102.out) hb); have n5_ := Aside0.mk (below_step (by repeat (first | (with_reducible first | exact HB.out | apply below_alloc | apply pw_below_drewN | apply below_drew1 | refine below_set ?_ GE101.out | refine below_set ?_ GE102.out) | exact HB.out)) hb); have n6_ := Aside0.mk (hbox); have n7_ := Aside0.mk ((by rw [hg]; exact (below_size (by repeat (first | (with_reducible first | exact HB.out | apply below_alloc | apply pw_below_drewN | apply below_drew1 | refine below_set ?_ GE101.out | refine below_set ?_ GE102.out) | exact HB.out))) : w.heap.size ≤ gb112)); have n8_ := Aside0.mk ((by rw [hg]; exact (below_size (by repeat (first | (with_reducible first | exact HB.out | apply below_alloc | apply pw_below_drewN | apply below_drew1 | refine below_set ?_ GE101.out | refine below_set ?_ GE102.out) | exact HB.out))) : w.heap.size ≤ gb112)); have n9_ := Aside0.mk ((by rw [hg]; exact Nat.ne_of_lt (blk_lt (g := gb101) (o := .cells #[.int .i16 a0_0, .int .i16 a0_1, .int .i16 a0_2] 26 (0, 0)) (by (with_reducible repeat (first | refine blk_drewN ?_ _ | refine blk_drew ?_ | refine blk_alloc ?_ _)); exact BK101.out)) : gb101 ≠ gb112)); have n10_ := Aside0.mk ((by rw [hg]; exact Nat.ne_of_gt (blk_lt (g := gb101) (o := .cells #[.int .i16 a0_0, .int .i16 a0_1, .int .i16 a0_2] 26 (0, 0)) (by (with_reducible repeat (first | refine blk_drewN ?_ _ | refine blk_drew ?_ | refine blk_alloc ?_ _)); exact BK101.out)) : gb112 ≠ gb101)); have n11_ := Aside0.mk ((by rw [hg]; exact Nat.ne_of_lt (blk_lt (g := gb102) (o := .cells #[.int .i16 0, .int .i16 0, .int .i16 0] 26 (0, 0)) (by (with_reducible repeat (first | refine blk_drewN ?_ _ | refine blk_drew ?_ | refine blk_alloc ?_ _)); exact BK102.out)) : gb102 ≠ gb112)); have n12_ := Aside0.mk ((by rw [hg]; exact Nat.ne_of_gt (blk_lt (g := gb102) (o := .cells #[.int .i16 0, .int .i16 0, .int .i16 0] 26 (0, 0)) (by (with_reducible repeat (first | refine blk_drewN ?_ _ | refine blk_drew ?_ | refine blk_alloc ?_ _)); exact BK102.out)) : gb112 ≠ gb102)); clear HO_7; clear HO_8; clear HO_34; clear BK101; clear BK102; clear HB; have HO_7 := n0_; have HO_8 := n1_; have HO_34 := n2_; have BK101 := n3_; have BK102 := n4_; have HB := n5_; have BK112 := n6_; have GW112 := n7_; have GE112 := n8_; have NB101_112 := n9_; have NB112_101 := n10_; have NB102_112 := n11_; have NB112_102 := n12_; clear n0_ n1_ n2_ n3_ n4_ n5_ n6_ n7_ n8_ n9_ n10_ n11_ n12_; clear hb hbox hg; have hnb44 := NB112_101.out; have hnc44 := NB101_112.out; have hnb45 := NB112_102.out; have hnc45 := NB102_112.out; have hcz46_0 : w43.cell? ⟨gb112, 0, none⟩ = some (.int .i16 0) := (blk_cell BK112.out 0).trans rfl; have hcz46_1 : w43.cell? ⟨gb112, 1, none⟩ = some (.int .i16 0) := (blk_cell BK112.out 1).trans rfl; have hcz46_2 : w43.cell? ⟨gb112, 2, none⟩ = some (.int .i16 0) := (blk_cell BK112.out 2).trans rfl; have hfz46_0 := blk_frozen BK112.out 0; have hfz46_1 := blk_frozen BK112.out 1; have hfz46_2 := blk_frozen BK112.out 2))
                    have n0_ : Aside0 (Kd.R k26 26 (((w43.setCell ⟨gb112, 0, none⟩ (.int .i16 ((rd_T26 t105 x36_1).f0))).setCell ⟨gb112, 1, none⟩ (.int .i16 ((rd_T26 t105 x36_1).f1))).setCell ⟨gb112, 2, none⟩ (.int .i16 ((rd_T26 t105 x36_1).f2))) w.heap.size (fun k_ => k_ ≠ gb101 ∧ k_ ≠ gb102 ∧ k_ ≠ gb112) (.slice (some ad111) t105.length co23) t105) := ⟨by (with_reducible repeat (first | apply Kd.R_alloc | apply Kd.R_drewN | apply Kd.R_drew)); exact Kd.R_mono (Kd.R_far (p := ⟨gb112, 2, none⟩) (Kd.R_far (p := ⟨gb112, 1, none⟩) (Kd.R_far (p := ⟨gb112, 0, none⟩) (Kd.R_mono HO_7.out (fun k_ hk => (⟨hk, hk.2⟩ : _ ∧ k_ ≠ gb112))) (fun _ hk => hk.2) (.int .i16 ((rd_T26 t105 x36_1).f0))) (fun _ hk => hk.2) (.int .i16 ((rd_T26 t105 x36_1).f1))) (fun _ hk => hk.2) (.int .i16 ((rd_T26 t105 x36_1).f2))) (fun _ hk => ⟨hk.1.1.1, ⟨hk.1.1.2, hk.1.2⟩⟩)⟩
                    have n1_ : Aside0 (Kd.R (Kd.slice 2 (Kd.int .i64)) 25 (((w43.setCell ⟨gb112, 0, none⟩ (.int .i16 ((rd_T26 t105 x36_1).f0))).setCell ⟨gb112, 1, none⟩ (.int .i16 ((rd_T26 t105 x36_1).f1))).setCell ⟨gb112, 2, none⟩ (.int .i16 ((rd_T26 t105 x36_1).f2))) w.heap.size (fun _ => True) v109 t108) := ⟨by (with_reducible repeat (first | apply Kd.R_alloc | apply Kd.R_drewN | apply Kd.R_drew)); exact Kd.R_mono (Kd.R_far (p := ⟨gb112, 2, none⟩) (Kd.R_far (p := ⟨gb112, 1, none⟩) (Kd.R_far (p := ⟨gb112, 0, none⟩) (Kd.R_types HO_8.out BK112.out (by decide)) (fun _ hk => hk.2) (.int .i16 ((rd_T26 t105 x36_1).f0))) (fun _ hk => hk.2) (.int .i16 ((rd_T26 t105 x36_1).f1))) (fun _ hk => hk.2) (.int .i16 ((rd_T26 t105 x36_1).f2))) (fun _ hk => trivial)⟩
                    have n2_ : Aside0 (Kd.R k26 26 (((w43.setCell ⟨gb112, 0, none⟩ (.int .i16 ((rd_T26 t105 x36_1).f0))).setCell ⟨gb112, 1, none⟩ (.int .i16 ((rd_T26 t105 x36_1).f1))).setCell ⟨gb112, 2, none⟩ (.int .i16 ((rd_T26 t105 x36_1).f2))) w.heap.size (fun k_ => k_ ≠ gb101 ∧ k_ ≠ gb102 ∧ k_ ≠ gb112) (.slice (some ad111) t105.length co23) t105) := ⟨by (with_reducible repeat (first | apply Kd.R_alloc | apply Kd.R_drewN | apply Kd.R_drew)); exact Kd.R_mono (Kd.R_far (p := ⟨gb112, 2, none⟩) (Kd.R_far (p := ⟨gb112, 1, none⟩) (Kd.R_far (p := ⟨gb112, 0, none⟩) (Kd.R_mono HO_34.out (fun k_ hk => (⟨hk, hk.2⟩ : _ ∧ k_ ≠ gb112))) (fun _ hk => hk.2) (.int .i16 ((rd_T26 t105 x36_1).f0))) (fun _ hk => hk.2) (.int .i16 ((rd_T26 t105 x36_1).f1))) (fun _ hk => hk.2) (.int .i16 ((rd_T26 t105 x36_1).f2))) (fun _ hk => ⟨hk.1.1.1, ⟨hk.1.1.2, hk.1.2⟩⟩)⟩
                    have n3_ : Aside0 ((((w43.setCell ⟨gb112, 0, none⟩ (.int .i16 ((rd_T26 t105 x36_1).f0))).setCell ⟨gb112, 1, none⟩ (.int .i16 ((rd_T26 t105 x36_1).f1))).setCell ⟨gb112, 2, none⟩ (.int .i16 ((rd_T26 t105 x36_1).f2))).heap[gb101]? = some (.cells #[.int .i16 a0_0, .int .i16 a0_1, .int .i16 a0_2] 26 (0, 0))) := ⟨by (with_reducible repeat (first | refine blk_drewN ?_ _ | refine blk_drew ?_ | refine blk_alloc ?_ _)); refine blk_far ?_ NB101_112.out _; (with_reducible repeat (first | refine blk_drewN ?_ _ | refine blk_drew ?_ | refine blk_alloc ?_ _)); refine blk_far ?_ NB101_112.out _; (with_reducible repeat (first | refine blk_drewN ?_ _ | refine blk_drew ?_ | refine blk_alloc ?_ _)); refine blk_far ?_ NB101_112.out _; (with_reducible repeat (first | refine blk_drewN ?_ _ | refine blk_drew ?_ | refine blk_alloc ?_ _)); exact BK101.out⟩
                    have n4_ : Aside0 ((((w43.setCell ⟨gb112, 0, none⟩ (.int .i16 ((rd_T26 t105 x36_1).f0))).setCell ⟨gb112, 1, none⟩ (.int .i16 ((rd_T26 t105 x36_1).f1))).setCell ⟨gb112, 2, none⟩ (.int .i16 ((rd_T26 t105 x36_1).f2))).heap[gb102]? = some (.cells #[.int .i16 0, .int .i16 0, .int .i16 0] 26 (0, 0))) := ⟨by (with_reducible repeat (first | refine blk_drewN ?_ _ | refine blk_drew ?_ | refine blk_alloc ?_ _)); refine blk_far ?_ NB102_112.out _; (with_reducible repeat (first | refine blk_drewN ?_ _ | refine blk_drew ?_ | refine blk_alloc ?_ _)); refine blk_far ?_ NB102_112.out _; (with_reducible repeat (first | refine blk_drewN ?_ _ | refine blk_drew ?_ | refine blk_alloc ?_ _)); refine blk_far ?_ NB102_112.out _; (with_reducible repeat (first | refine blk_drewN ?_ _ | refine blk_drew ?_ | refine blk_alloc ?_ _)); exact BK102.out⟩
                    have n5_ : Aside0 ((((w43.setCell ⟨gb112, 0, none⟩ (.int .i16 ((rd_T26 t105 x36_1).f0))).setCell ⟨gb112, 1, none⟩ (.int .i16 ((rd_T26 t105 x36_1).f1))).setCell ⟨gb112, 2, none⟩ (.int .i16 ((rd_T26 t105 x36_1).f2))).heap[gb112]? = some (.cells #[.int .i16 ((rd_T26 t105 x36_1).f0), .int .i16 ((rd_T26 t105 x36_1).f1), .int .i16 ((rd_T26 t105 x36_1).f2)] 26 (0, 0))) := ⟨by (with_reducible repeat (first | refine blk_drewN ?_ _ | refine blk_drew ?_ | refine blk_alloc ?_ _)); refine blk_put (cs := #[.int .i16 ((rd_T26 t105 x36_1).f0), .int .i16 ((rd_T26 t105 x36_1).f1), .int .i16 0]) ?_ 2 _ rfl; (with_reducible repeat (first | refine blk_drewN ?_ _ | refine blk_drew ?_ | refine blk_alloc ?_ _)); refine blk_put (cs := #[.int .i16 ((rd_T26 t105 x36_1).f0), .int .i16 0, .int .i16 0]) ?_ 1 _ rfl; (with_reducible repeat (first | refine blk_drewN ?_ _ | refine blk_drew ?_ | refine blk_alloc ?_ _)); refine blk_put (cs := #[.int .i16 0, .int .i16 0, .int .i16 0]) ?_ 0 _ rfl; (with_reducible repeat (first | refine blk_drewN ?_ _ | refine blk_drew ?_ | refine blk_alloc ?_ _)); exact BK112.out⟩
                    have n6_ : Aside0 (Below w.heap.size w (((w43.setCell ⟨gb112, 0, none⟩ (.int .i16 ((rd_T26 t105 x36_1).f0))).setCell ⟨gb112, 1, none⟩ (.int .i16 ((rd_T26 t105 x36_1).f1))).setCell ⟨gb112, 2, none⟩ (.int .i16 ((rd_T26 t105 x36_1).f2)))) := ⟨by repeat (first | (with_reducible first | exact HB.out | apply below_alloc | apply pw_below_drewN | apply below_drew1 | refine below_set ?_ GE101.out | refine below_set ?_ GE102.out | refine below_set ?_ GE112.out) | exact HB.out)⟩
                    (try clear HO_7)
                    (try clear HO_8)
                    (try clear HO_34)
                    (try clear BK101)
                    (try clear BK102)
                    (try clear BK112)
                    (try clear HB)
                    generalize (((w43.setCell ⟨gb112, 0, none⟩ (.int .i16 ((rd_T26 t105 x36_1).f0))).setCell ⟨gb112, 1, none⟩ (.int .i16 ((rd_T26 t105 x36_1).f1))).setCell ⟨gb112, 2, none⟩ (.int .i16 ((rd_T26 t105 x36_1).f2))) = w47 at n0_ n1_ n2_ n3_ n4_ n5_ n6_ ⊢
                    have HO_7 := n0_
                    have HO_8 := n1_
                    have HO_34 := n2_
                    have BK101 := n3_
                    have BK102 := n4_
                    have BK112 := n5_
                    have HB := n6_
                    clear n0_ n1_ n2_ n3_ n4_ n5_ n6_
                    have n0_ := Aside0.mk (Kd.R_drew HO_7.out)
                    have n1_ := Aside0.mk (Kd.R_drew HO_8.out)
                    have n2_ := Aside0.mk (Kd.R_drew HO_34.out)
                    have n3_ := Aside0.mk (blk_drew BK101.out)
                    have n4_ := Aside0.mk (blk_drew BK102.out)
                    have n5_ := Aside0.mk (blk_drew BK112.out)
                    have n6_ := Aside0.mk (below_drew1 HB.out)
                    clear HO_7
                    clear HO_8
                    clear HO_34
                    clear BK101
                    clear BK102
                    clear BK112
                    clear HB
                    have HO_7 := n0_
                    have HO_8 := n1_
                    have HO_34 := n2_
                    have BK101 := n3_
                    have BK102 := n4_
                    have BK112 := n5_
                    have HB := n6_
                    clear n0_ n1_ n2_ n3_ n4_ n5_ n6_
                    refine start_ (n := 28) (S := fun w' => w'.cell? ⟨gb112, 0, none⟩ = some (.int .i16 ((rd_T26 t105 x36_1).f0)) ∧ w'.cell? ⟨gb112, 1, none⟩ = some (.int .i16 ((rd_T26 t105 x36_1).f1)) ∧ w'.cell? ⟨gb112, 2, none⟩ = some (.int .i16 ((rd_T26 t105 x36_1).f2))) (ds := []) #[false, false, false, false, false, false, false, false, false, false, false, false, false, false, false, false, false, false, false, false, false, false, false, false, false, false, false, false] (by kernel_rfl) rfl rfl ⟨(blk_cell BK112.out 0).trans rfl, (blk_cell BK112.out 1).trans rfl, (blk_cell BK112.out 2).trans rfl⟩ (fun hHeld => ?_); refine with_tabW impl_SmallestFor.tab12 impl_SmallestFor.bits12 (fun HT_ HW_ => ?_)
                    generalize w47.drew = w48 at HO_7 HO_8 HO_34 BK101 BK102 BK112 HB hHeld ⊢
                    refine pure_ (i := 0) (N := some 41) (v := ?_) (a' := ?_) #[true, false, false, false, false, false, false, false, false, false, false, false, false, false, false, false, false, false, false, false, false, false, false, false, false, false, false, false] rfl rfl (any_of HT_.out (by kernel_rfl)) (fun _ _ _ h => h) (Or.inl ⟨by rfl, ?_⟩) ?_ ?_
                    rotate_left
                    · intro w'
                      go_simp
                      with_reducible rfl
                    rotate_left
                    · simp only [Act.put, List.setIfInBounds_toArray, List.set_cons_zero, List.set_cons_succ, i64_w, i32_w]
                      rfl
                    refine pure_ (i := 3) (N := some 44) (v := ?_) (a' := ?_) #[true, false, false, true, false, false, false, false, false, false, false, false, false, false, false, false, false, false, false, false, false, false, false, false, false, false, false, false] rfl rfl (any_of HT_.out (by kernel_rfl)) (fun _ _ _ h => h) (Or.inl ⟨by rfl, ?_⟩) ?_ ?_
                    rotate_left
                    · intro w'
                      go_simp
                      with_reducible rfl
                    rotate_left
                    · simp only [Act.put, List.setIfInBounds_toArray, List.set_cons_zero, List.set_cons_succ, i64_w, i32_w]
                      rfl
                    refine take_ (i := 1) (N := some 42) (v := ?_) (a' := ?_) #[true, true, false, true, false, false, false, false, false, false, false, false, false, false, false, false, false, false, false, false, false, false, false, false, false, false, false, false] rfl rfl (take_ofW HT_.out HW_.out (by kernel_rfl)) (fun _ _ _ h => h) (Or.inl ⟨by rfl, ?_⟩) hHeld ?_ ?_
                    rotate_left
                    · rintro w' ⟨s0, s1, s2⟩
                      go_simp
                      with_reducible rfl
                    rotate_left
                    · simp only [Act.put, List.setIfInBounds_toArray, List.set_cons_zero, List.set_cons_succ, i64_w, i32_w]
                      rfl
                    refine pure_ (i := 2) (N := some 43) (v := ?_) (a' := ?_) #[true, true, true, true, false, false, false, false, false, false, false, false, false, false, false, false, false, false, false, false, false, false, false, false, false, false, false, false] rfl rfl (any_of HT_.out (by kernel_rfl)) (fun _ _ _ h => h) (Or.inl ⟨by rfl, ?_⟩) ?_ ?_
                    rotate_left
                    · intro w'
                      go_simp
                      with_reducible rfl
                    rotate_left
                    · simp only [Act.put, List.setIfInBounds_toArray, List.set_cons_zero, List.set_cons_succ, i64_w, i32_w]
                      rfl
                    refine pure_ (i := 4) (N := some 45) (v := ?_) (a' := ?_) #[true, true, true, true, true, false, false, false, false, false, false, false, false, false, false, false, false, false, false, false, false, false, false, false, false, false, false, false] rfl rfl (any_of HT_.out (by kernel_rfl)) (fun _ _ _ h => h) (Or.inl ⟨by rfl, ?_⟩) ?_ ?_
                    rotate_left
                    · intro w'
                      go_simp
                      with_reducible rfl
                    rotate_left
                    · simp only [Act.put, List.setIfInBounds_toArray, List.set_cons_zero, List.set_cons_succ, i64_w, i32_w]
                      rfl
                    refine pure_ (i := 5) (N := some 46) (v := ?_) (a' := ?_) #[true, true, true, true, true, true, false, false, false, false, false, false, false, false, false, false, false, false, false, false, false, false, false, false, false, false, false, false] rfl rfl (any_of HT_.out (by kernel_rfl)) (fun _ _ _ h => h) (Or.inl ⟨by rfl, ?_⟩) ?_ ?_
                    rotate_left
                    · intro w'
                      go_simp
                      with_reducible rfl
                    rotate_left
                    · simp only [Act.put, List.setIfInBounds_toArray, List.set_cons_zero, List.set_cons_succ, i64_w, i32_w]
                      rfl
                    refine pure_ (i := 6) (N := some 47) (v := undef) (a' := ?_) #[true, true, true, true, true, true, true, false, false, false, false, false, false, false, false, false, false, false, false, false, false, false, false, false, false, false, false, false] rfl rfl (any_of HT_.out (by kernel_rfl)) (fun _ _ _ h => h) (Or.inr ⟨by rfl, rfl⟩) ?_ ?_
                    rotate_left
                    · simp only [Act.put, List.setIfInBounds_toArray, List.set_cons_zero, List.set_cons_succ, i64_w, i32_w]
                      rfl
                    refine pure_ (i := 7) (N := some 48) (v := undef) (a' := ?_) #[true, true, true, true, true, true, true, true, false, false, false, false, false, false, false, false, false, false, false, false, false, false, false, false, false, false, false, false] rfl rfl (any_of HT_.out (by kernel_rfl)) (fun _ _ _ h => h) (Or.inr ⟨by rfl, rfl⟩) ?_ ?_
                    rotate_left
                    · simp only [Act.put, List.setIfInBounds_toArray, List.set_cons_zero, List.set_cons_succ, i64_w, i32_w]
                      rfl
                    refine pure_ (i := 8) (N := some 49) (v := undef) (a' := ?_) #[true, true, true, true, true, true, true, true, true, false, false, false, false, false, false, false, false, false, false, false, false, false, false, false, false, false, false, false] rfl rfl (any_of HT_.out (by kernel_rfl)) (fun _ _ _ h => h) (Or.inr ⟨by rfl, rfl⟩) ?_ ?_
                    rotate_left
                    · simp only [Act.put, List.setIfInBounds_toArray, List.set_cons_zero, List.set_cons_succ, i64_w, i32_w]
                      rfl
                    refine pure_ (i := 9) (N := some 50) (v := undef) (a' := ?_) #[true, true, true, true, true, true, true, true, true, true, false, false, false, false, false, false, false, false, false, false, false, false, false, false, false, false, false, false] rfl rfl (any_of HT_.out (by kernel_rfl)) (fun _ _ _ h => h) (Or.inr ⟨by rfl, rfl⟩) ?_ ?_
                    rotate_left
                    · simp only [Act.put, List.setIfInBounds_toArray, List.set_cons_zero, List.set_cons_succ, i64_w, i32_w]
                      rfl
                    refine pure_ (i := 10) (N := some 51) (v := undef) (a' := ?_) #[true, true, true, true, true, true, true, true, true, true, true, false, false, false, false, false, false, false, false, false, false, false, false, false, false, false, false, false] rfl rfl (any_of HT_.out (by kernel_rfl)) (fun _ _ _ h => h) (Or.inr ⟨by rfl, rfl⟩) ?_ ?_
                    rotate_left
                    · simp only [Act.put, List.setIfInBounds_toArray, List.set_cons_zero, List.set_cons_succ, i64_w, i32_w]
                      rfl
                    refine pure_ (i := 11) (N := some 52) (v := undef) (a' := ?_) #[true, true, true, true, true, true, true, true, true, true, true, true, false, false, false, false, false, false, false, false, false, false, false, false, false, false, false, false] rfl rfl (any_of HT_.out (by kernel_rfl)) (fun _ _ _ h => h) (Or.inr ⟨by rfl, rfl⟩) ?_ ?_
                    rotate_left
                    · simp only [Act.put, List.setIfInBounds_toArray, List.set_cons_zero, List.set_cons_succ, i64_w, i32_w]
                      rfl
                    refine pure_ (i := 12) (N := some 53) (v := undef) (a' := ?_) #[true, true, true, true, true, true, true, true, true, true, true, true, true, false, false, false, false, false, false, false, false, false, false, false, false, false, false, false] rfl rfl (any_of HT_.out (by kernel_rfl)) (fun _ _ _ h => h) (Or.inr ⟨by rfl, rfl⟩) ?_ ?_
                    rotate_left
                    · simp only [Act.put, List.setIfInBounds_toArray, List.set_cons_zero, List.set_cons_succ, i64_w, i32_w]
                      rfl
                    refine pure_ (i := 13) (N := some 54) (v := undef) (a' := ?_) #[true, true, true, true, true, true, true, true, true, true, true, true, true, true, false, false, false, false, false, false, false, false, false, false, false, false, false, false] rfl rfl (any_of HT_.out (by kernel_rfl)) (fun _ _ _ h => h) (Or.inr ⟨by rfl, rfl⟩) ?_ ?_
                    rotate_left
                    · simp only [Act.put, List.setIfInBounds_toArray, List.set_cons_zero, List.set_cons_succ, i64_w, i32_w]
                      rfl
                    refine pure_ (i := 14) (N := some 55) (v := undef) (a' := ?_) #[true, true, true, true, true, true, true, true, true, true, true, true, true, true, true, false, false, false, false, false, false, false, false, false, false, false, false, false] rfl rfl (any_of HT_.out (by kernel_rfl)) (fun _ _ _ h => h) (Or.inr ⟨by rfl, rfl⟩) ?_ ?_
                    rotate_left
                    · simp only [Act.put, List.setIfInBounds_toArray, List.set_cons_zero, List.set_cons_succ, i64_w, i32_w]
                      rfl
                    refine pure_ (i := 15) (N := some 56) (v := undef) (a' := ?_) #[true, true, true, true, true, true, true, true, true, true, true, true, true, true, true, true, false, false, false, false, false, false, false, false, false, false, false, false] rfl rfl (any_of HT_.out (by kernel_rfl)) (fun _ _ _ h => h) (Or.inr ⟨by rfl, rfl⟩) ?_ ?_
                    rotate_left
                    · simp only [Act.put, List.setIfInBounds_toArray, List.set_cons_zero, List.set_cons_succ, i64_w, i32_w]
                      rfl
                    refine pure_ (i := 16) (N := some 57) (v := undef) (a' := ?_) #[true, true, true, true, true, true, true, true, true, true, true, true, true, true, true, true, true, false, false, false, false, false, false, false, false, false, false, false] rfl rfl (any_of HT_.out (by kernel_rfl)) (fun _ _ _ h => h) (Or.inr ⟨by rfl, rfl⟩) ?_ ?_
                    rotate_left
                    · simp only [Act.put, List.setIfInBounds_toArray, List.set_cons_zero, List.set_cons_succ, i64_w, i32_w]
                      rfl
                    refine pure_ (i := 17) (N := some 58) (v := undef) (a' := ?_) #[true, true, true, true, true, true, true, true, true, true, true, true, true, true, true, true, true, true, false, false, false, false, false, false, false, false, false, false] rfl rfl (any_of HT_.out (by kernel_rfl)) (fun _ _ _ h => h) (Or.inr ⟨by rfl, rfl⟩) ?_ ?_
                    rotate_left
                    · simp only [Act.put, List.setIfInBounds_toArray, List.set_cons_zero, List.set_cons_succ, i64_w, i32_w]
                      rfl
                    refine pure_ (i := 18) (N := some 59) (v := undef) (a' := ?_) #[true, true, true, true, true, true, true, true, true, true, true, true, true, true, true, true, true, true, true, false, false, false, false, false, false, false, false, false] rfl rfl (any_of HT_.out (by kernel_rfl)) (fun _ _ _ h => h) (Or.inr ⟨by rfl, rfl⟩) ?_ ?_
                    rotate_left
                    · simp only [Act.put, List.setIfInBounds_toArray, List.set_cons_zero, List.set_cons_succ, i64_w, i32_w]
                      rfl
                    refine pure_ (i := 19) (N := some 60) (v := undef) (a' := ?_) #[true, true, true, true, true, true, true, true, true, true, true, true, true, true, true, true, true, true, true, true, false, false, false, false, false, false, false, false] rfl rfl (any_of HT_.out (by kernel_rfl)) (fun _ _ _ h => h) (Or.inr ⟨by rfl, rfl⟩) ?_ ?_
                    rotate_left
                    · simp only [Act.put, List.setIfInBounds_toArray, List.set_cons_zero, List.set_cons_succ, i64_w, i32_w]
                      rfl
                    refine pure_ (i := 20) (N := some 61) (v := undef) (a' := ?_) #[true, true, true, true, true, true, true, true, true, true, true, true, true, true, true, true, true, true, true, true, true, false, false, false, false, false, false, false] rfl rfl (any_of HT_.out (by kernel_rfl)) (fun _ _ _ h => h) (Or.inr ⟨by rfl, rfl⟩) ?_ ?_
                    rotate_left
                    · simp only [Act.put, List.setIfInBounds_toArray, List.set_cons_zero, List.set_cons_succ, i64_w, i32_w]
                      rfl
                    refine pure_ (i := 21) (N := some 62) (v := undef) (a' := ?_) #[true, true, true, true, true, true, true, true, true, true, true, true, true, true, true, true, true, true, true, true, true, true, false, false, false, false, false, false] rfl rfl (any_of HT_.out (by kernel_rfl)) (fun _ _ _ h => h) (Or.inr ⟨by rfl, rfl⟩) ?_ ?_
                    rotate_left
                    · simp only [Act.put, List.setIfInBounds_toArray, List.set_cons_zero, List.set_cons_succ, i64_w, i32_w]
                      rfl
                    refine pure_ (i := 22) (N := some 63) (v := undef) (a' := ?_) #[true, true, true, true, true, true, true, true, true, true, true, true, true, true, true, true, true, true, true, true, true, true, true, false, false, false, false, false] rfl rfl (any_of HT_.out (by kernel_rfl)) (fun _ _ _ h => h) (Or.inr ⟨by rfl, rfl⟩) ?_ ?_
                    rotate_left
                    · simp only [Act.put, List.setIfInBounds_toArray, List.set_cons_zero, List.set_cons_succ, i64_w, i32_w]
                      rfl
                    refine pure_ (i := 23) (N := some 64) (v := undef) (a' := ?_) #[true, true, true, true, true, true, true, true, true, true, true, true, true, true, true, true, true, true, true, true, true, true, true, true, false, false, false, false] rfl rfl (any_of HT_.out (by kernel_rfl)) (fun _ _ _ h => h) (Or.inr ⟨by rfl, rfl⟩) ?_ ?_
                    rotate_left
                    · simp only [Act.put, List.setIfInBounds_toArray, List.set_cons_zero, List.set_cons_succ, i64_w, i32_w]
                      rfl
                    refine pure_ (i := 24) (N := some 65) (v := undef) (a' := ?_) #[true, true, true, true, true, true, true, true, true, true, true, true, true, true, true, true, true, true, true, true, true, true, true, true, true, false, false, false] rfl rfl (any_of HT_.out (by kernel_rfl)) (fun _ _ _ h => h) (Or.inr ⟨by rfl, rfl⟩) ?_ ?_
                    rotate_left
                    · simp only [Act.put, List.setIfInBounds_toArray, List.set_cons_zero, List.set_cons_succ, i64_w, i32_w]
                      rfl
                    refine pure_ (i := 25) (N := some 66) (v := undef) (a' := ?_) #[true, true, true, true, true, true, true, true, true, true, true, true, true, true, true, true, true, true, true, true, true, true, true, true, true, true, false, false] rfl rfl (any_of HT_.out (by kernel_rfl)) (fun _ _ _ h => h) (Or.inr ⟨by rfl, rfl⟩) ?_ ?_
                    rotate_left
                    · simp only [Act.put, List.setIfInBounds_toArray, List.set_cons_zero, List.set_cons_succ, i64_w, i32_w]
                      rfl
                    refine pure_ (i := 26) (N := some 67) (v := undef) (a' := ?_) #[true, true, true, true, true, true, true, true, true, true, true, true, true, true, true, true, true, true, true, true, true, true, true, true, true, true, true, false] rfl rfl (any_of HT_.out (by kernel_rfl)) (fun _ _ _ h => h) (Or.inr ⟨by rfl, rfl⟩) ?_ ?_
                    rotate_left
                    · simp only [Act.put, List.setIfInBounds_toArray, List.set_cons_zero, List.set_cons_succ, i64_w, i32_w]
                      rfl
                    refine pure_ (i := 27) (N := some 68) (v := ?_) (a' := ?_) #[true, true, true, true, true, true, true, true, true, true, true, true, true, true, true, true, true, true, true, true, true, true, true, true, true, true, true, true] rfl rfl (any_of HT_.out (by kernel_rfl)) (fun _ _ _ h => h) (Or.inl ⟨by rfl, ?_⟩) ?_ ?_
                    rotate_left
                    · intro w'
                      go_simp
                      with_reducible rfl
                    rotate_left
                    · simp only [Act.put, List.setIfInBounds_toArray, List.set_cons_zero, List.set_cons_succ, i64_w, i32_w]
                      rfl
                    refine done_ (done_of HT_.out (by kernel_rfl)) ?_
                    try go_wp2
                    go_roundg k1
                    case measure => have := HK1.out; omega
                    case rel => exact ⟨(x9_1), (wrap64 (x36_1 + 1)), (by first | rfl | (simp; done) | (simp [*]; done)), (by first | rfl | (simp; done) | (simp [*]; done)), H', ⟨by have := HK1.out; omega⟩, ⟨by (with_reducible repeat (first | apply Kd.R_alloc | apply Kd.R_drewN | apply Kd.R_drew)); exact Kd.R_mono HO_7.out (fun _ hk => ⟨hk.1, hk.2.1⟩)⟩, ⟨by (with_reducible repeat (first | apply Kd.R_alloc | apply Kd.R_drewN | apply Kd.R_drew)); exact HO_8.out⟩, ⟨by (with_reducible repeat (first | apply Kd.R_alloc | apply Kd.R_drewN | apply Kd.R_drew)); exact Kd.R_mono HO_34.out (fun _ hk => ⟨hk.1, hk.2.1⟩)⟩, ⟨by (with_reducible repeat (first | refine blk_drewN ?_ _ | refine blk_drew ?_ | refine blk_alloc ?_ _)); exact BK101.out⟩, ⟨by (with_reducible repeat (first | refine blk_drewN ?_ _ | refine blk_drew ?_ | refine blk_alloc ?_ _)); exact BK102.out⟩, ⟨by repeat (first | (with_reducible first | exact HB.out | apply below_alloc | apply pw_below_drewN | apply below_drew1 | refine below_set ?_ GE101.out | refine below_set ?_ GE102.out | refine below_set ?_ GE112.out) | exact HB.out)⟩⟩
                · rw [if_neg c26] at H
                  exact absurd H (by simp)
              · rw [if_neg c25] at H
                exact absurd H (by simp)
            · rw [if_neg c24] at H
              have c24b0 : decide (x36_1 < (t105.length : Int)) = false := decide_eq_false c24
              clear c24
              by_cases c49 : 0 ≤ x9_1
              · rw [if_pos c49] at H
                have c49b0 : decide (0 ≤ x9_1) = true := decide_eq_true c49
                clear c49
                by_cases c50 : x9_1 < (t108.length : Int)
                · rw [if_pos c50] at H
                  have c50b0 : decide (x9_1 < (t108.length : Int)) = true := decide_eq_true c50
                  clear c50
                  by_cases c51 : x9_1 < (t105.length : Int)
                  · rw [if_pos c51] at H
                    have c51b0 : decide (x9_1 < (t105.length : Int)) = true := decide_eq_true c51
                    clear c51
                    simp only [Option.some.injEq, Prod.mk.injEq] at H
                    obtain ⟨rfl, rfl, rfl, rfl, rfl⟩ := H
                    try go_wp2
                    have n0_ := Aside0.mk (Kd.R_drew HO_7.out)
                    have n1_ := Aside0.mk (Kd.R_drew HO_8.out)
                    have n2_ := Aside0.mk (Kd.R_drew HO_34.out)
                    have n3_ := Aside0.mk (blk_drew BK101.out)
                    have n4_ := Aside0.mk (blk_drew BK102.out)
                    have n5_ := Aside0.mk (below_drew1 HB.out)
                    clear HO_7
                    clear HO_8
                    clear HO_34
                    clear BK101
                    clear BK102
                    clear HB
                    have HO_7 := n0_
                    have HO_8 := n1_
                    have HO_34 := n2_
                    have BK101 := n3_
                    have BK102 := n4_
                    have HB := n5_
                    clear n0_ n1_ n2_ n3_ n4_ n5_
                    obtain ⟨Ao53, co53, eo53⟩ := Kd.R_slice HO_8.out
                    (first | subst eo53 | (injection eo53 with f1_ f2_ f3_; have f4_ := f1_.symm; have f5_ := f3_.symm; clear f1_ f2_ f3_; subst f4_; subst f5_))
                    have p115 : 0 ≤ (x9_1 : Int) := of_decide_eq_true (by first | (with_reducible assumption) | assumption)
                    have q115 : x9_1 < (t108.length : Int) := of_decide_eq_true (by first | (with_reducible assumption) | assumption)
                    obtain ⟨ad115, A115_0, c115_0, e115, hx115_0, hl115_0, hi115_0⟩ := at_L3 (Kd.R_reads' HO_8.out).2.2 x9_1 p115 q115
                    cases e115
                    obtain ⟨ce115, hce115, hMe115, hcc115⟩ := Kd.R_get HO_8.out [] x9_1 p115 (by first | exact q115 | exact of_decide_eq_true (by first | (with_reducible assumption) | assumption) | (have e_ := (Kd.R_reads' HO_8.out).1; omega))
                    obtain ⟨ve115_0, rfl, ge115_0⟩ := hMe115
                    have hv115_0 := hcc115 0 _ rfl
                    rw [Nat.add_zero, show ((Kd.slice 2 (Kd.int .i64))).sz = 1 from rfl, Nat.mul_one] at hv115_0
                    replace hv115_0 := Option.some.inj (hv115_0.symm.trans hx115_0)
                    rw [hv115_0] at ge115_0
                    have HL115_0 := Aside0.mk (show Kd.R (Kd.int .i64) 2 _ _ _ _ (rd_L3 t108 x9_1) from ge115_0)
                    clear hv115_0 ge115_0
                    clear hcc115 hce115
                    have HR115_0 := Aside0.mk hi115_0
                    have HC115_0 := Aside0.mk hl115_0
                    clear hi115_0 hl115_0
                    replace p115 := eq_true p115
                    replace q115 := eq_true q115
                    have p116 : 0 ≤ (x9_1 : Int) := of_decide_eq_true (by first | (with_reducible assumption) | assumption)
                    have q116 : x9_1 < (t105.length : Int) := of_decide_eq_true (by first | (with_reducible assumption) | assumption)
                    obtain ⟨ad116, e116, hx116_0, hx116_1, hx116_2⟩ := at_T26 (Kd.R_reads' HO_7.out).2.2 x9_1 p116 q116
                    cases e116
                    replace p116 := eq_true p116
                    replace q116 := eq_true q116
                    refine start_ (n := 11) (S := fun w' => w'.cell? (ad115.add (x9_1).toNat) = some (.slice A115_0 (rd_L3 t108 x9_1).length c115_0) ∧ w'.cell? (ad116.add ((x9_1).toNat * 3)) = some (.int .i16 ((rd_T26 t105 x9_1).f0)) ∧ w'.cell? ⟨(ad116.add ((x9_1).toNat * 3)).block, (ad116.add ((x9_1).toNat * 3)).off + 1, none⟩ = some (.int .i16 ((rd_T26 t105 x9_1).f1)) ∧ w'.cell? ⟨(ad116.add ((x9_1).toNat * 3)).block, (ad116.add ((x9_1).toNat * 3)).off + 2, none⟩ = some (.int .i16 ((rd_T26 t105 x9_1).f2))) (ds := []) #[false, false, false, false, false, false, false, false, false, false, false] (by kernel_rfl) rfl rfl ⟨hx115_0, hx116_0, hx116_1, hx116_2⟩ (fun hHeld => ?_); refine with_tabW impl_SmallestFor.tab15 impl_SmallestFor.bits15 (fun HT_ HW_ => ?_)
                    generalize wr.drew = w52 at HO_7 HO_8 HO_34 BK101 BK102 HB HL115_0 HR115_0 hx115_0 hx116_0 hx116_1 hx116_2 hHeld ⊢
                    refine pure_ (i := 0) (N := some 71) (v := ?_) (a' := ?_) #[true, false, false, false, false, false, false, false, false, false, false] rfl rfl (any_of HT_.out (by kernel_rfl)) (fun _ _ _ h => h) (Or.inl ⟨by rfl, ?_⟩) ?_ ?_
                    rotate_left
                    · intro w'
                      go_simp
                      with_reducible rfl
                    rotate_left
                    · simp only [Act.put, List.setIfInBounds_toArray, List.set_cons_zero, List.set_cons_succ, i64_w, i32_w]
                      rfl
                    refine pure_ (i := 1) (N := some 72) (v := ?_) (a' := ?_) #[true, true, false, false, false, false, false, false, false, false, false] rfl rfl (any_of HT_.out (by kernel_rfl)) (fun _ _ _ h => h) (Or.inl ⟨by rfl, ?_⟩) ?_ ?_
                    rotate_left
                    · intro w'
                      go_simp
                      with_reducible rfl
                    rotate_left
                    · simp only [Act.put, List.setIfInBounds_toArray, List.set_cons_zero, List.set_cons_succ, i64_w, i32_w]
                      rfl
                    refine pure_ (i := 2) (N := some 73) (v := ?_) (a' := ?_) #[true, true, true, false, false, false, false, false, false, false, false] rfl rfl (any_of HT_.out (by kernel_rfl)) (fun _ _ _ h => h) (Or.inl ⟨by rfl, ?_⟩) ?_ ?_
                    rotate_left
                    · intro w'
                      go_simp
                      with_reducible rfl
                    rotate_left
                    · simp only [Act.put, List.setIfInBounds_toArray, List.set_cons_zero, List.set_cons_succ, i64_w, i32_w]
                      rfl
                    refine pure_ (i := 4) (N := some 75) (v := ?_) (a' := ?_) #[true, true, true, false, true, false, false, false, false, false, false] rfl rfl (any_of HT_.out (by kernel_rfl)) (fun _ _ _ h => h) (Or.inl ⟨by rfl, ?_⟩) ?_ ?_
                    rotate_left
                    · intro w'
                      go_simp
                      with_reducible rfl
                    rotate_left
                    · simp only [Act.put, List.setIfInBounds_toArray, List.set_cons_zero, List.set_cons_succ, i64_w, i32_w]
                      rfl
                    refine pure_ (i := 5) (N := some 76) (v := ?_) (a' := ?_) #[true, true, true, false, true, true, false, false, false, false, false] rfl rfl (any_of HT_.out (by kernel_rfl)) (fun _ _ _ h => h) (Or.inl ⟨by rfl, ?_⟩) ?_ ?_
                    rotate_left
                    · intro w'
                      go_simp
                      with_reducible rfl
                    rotate_left
                    · simp only [Act.put, List.setIfInBounds_toArray, List.set_cons_zero, List.set_cons_succ, i64_w, i32_w]
                      rfl
                    refine pure_ (i := 6) (N := some 77) (v := ?_) (a' := ?_) #[true, true, true, false, true, true, true, false, false, false, false] rfl rfl (any_of HT_.out (by kernel_rfl)) (fun _ _ _ h => h) (Or.inl ⟨by rfl, ?_⟩) ?_ ?_
                    rotate_left
                    · intro w'
                      go_simp
                      with_reducible rfl
                    rotate_left
                    · simp only [Act.put, List.setIfInBounds_toArray, List.set_cons_zero, List.set_cons_succ, i64_w, i32_w]
                      rfl
                    refine take_ (i := 3) (N := some 74) (v := ?_) (a' := ?_) #[true, true, true, true, true, true, true, false, false, false, false] rfl rfl (take_ofW HT_.out HW_.out (by kernel_rfl)) (fun _ _ _ h => h) (Or.inl ⟨by rfl, ?_⟩) hHeld ?_ ?_
                    rotate_left
                    · rintro w' ⟨s0, s1, s2, s3⟩
                      go_simp
                      with_reducible rfl
                    rotate_left
                    · simp only [Act.put, List.setIfInBounds_toArray, List.set_cons_zero, List.set_cons_succ, i64_w, i32_w]
                      rfl
                    refine pure_ (i := 8) (N := some 4) (v := ?_) (a' := ?_) #[true, true, true, true, true, true, true, false, true, false, false] rfl rfl (any_of HT_.out (by kernel_rfl)) (fun _ _ _ h => h) (Or.inl ⟨by rfl, ?_⟩) ?_ ?_
                    rotate_left
                    · intro w'
                      go_simp
                      with_reducible rfl
                    rotate_left
                    · simp only [Act.put, List.setIfInBounds_toArray, List.set_cons_zero, List.set_cons_succ, i64_w, i32_w]
                      rfl
                    refine take_ (i := 7) (N := some 78) (v := ?_) (a' := ?_) #[true, true, true, true, true, true, true, true, true, false, false] rfl rfl (take_ofW HT_.out HW_.out (by kernel_rfl)) (fun _ _ _ h => h) (Or.inl ⟨by rfl, ?_⟩) hHeld ?_ ?_
                    rotate_left
                    · rintro w' ⟨s0, s1, s2, s3⟩
                      go_simp
                      with_reducible rfl
                    rotate_left
                    · simp only [Act.put, List.setIfInBounds_toArray, List.set_cons_zero, List.set_cons_succ, i64_w, i32_w]
                      rfl
                    refine one_ (i := 9) (N := none) #[true, true, true, true, true, true, true, true, true, true, false] rfl rfl (one_of HT_.out (by kernel_rfl)) (by decide) (fun K hK => ?_)
                    have hs54 : w52.cell? ⟨gb102, 0, none⟩ = some (.int .i16 0) := (blk_cell BK102.out 0).trans rfl
                    have hfs54 := blk_frozen BK102.out 0
                    have hns54_0 := NB101_102.out
                    have hms54_0 := NB102_101.out
                    have hs55 : w52.cell? ⟨gb102, 1, none⟩ = some (.int .i16 0) := (blk_cell BK102.out 1).trans rfl
                    have hfs55 := blk_frozen BK102.out 1
                    have hns55_0 := NB101_102.out
                    have hms55_0 := NB102_101.out
                    have hs56 : w52.cell? ⟨gb102, 2, none⟩ = some (.int .i16 0) := (blk_cell BK102.out 2).trans rfl
                    have hfs56 := blk_frozen BK102.out 2
                    have hns56_0 := NB101_102.out
                    have hms56_0 := NB102_101.out
                    refine skip_ (w1 := ?_) (by rfl) rfl ?_ ?_
                    rotate_left
                    · go_simp
                      rfl
                    refine hK.out _ _ ⟨((cell_far (p := ⟨gb102, _, none⟩) (by first | exact Kd.own_blk (Kd.R_ne HO_8.out BK102.out (by decide)) | (rw [add_block]; exact Kd.own_blk (Kd.R_ne HO_8.out BK102.out (by decide))) | (show (Addr.add _ _).block ≠ _; rw [add_block]; exact Kd.own_blk (Kd.R_ne HO_8.out BK102.out (by decide))) | (dsimp only; exact Kd.own_blk (Kd.R_ne HO_8.out BK102.out (by decide)))) _).trans (((cell_far (p := ⟨gb102, _, none⟩) (by first | exact Kd.own_blk (Kd.R_ne HO_8.out BK102.out (by decide)) | (rw [add_block]; exact Kd.own_blk (Kd.R_ne HO_8.out BK102.out (by decide))) | (show (Addr.add _ _).block ≠ _; rw [add_block]; exact Kd.own_blk (Kd.R_ne HO_8.out BK102.out (by decide))) | (dsimp only; exact Kd.own_blk (Kd.R_ne HO_8.out BK102.out (by decide)))) _).trans (((cell_far (p := ⟨gb102, _, none⟩) (by first | exact Kd.own_blk (Kd.R_ne HO_8.out BK102.out (by decide)) | (rw [add_block]; exact Kd.own_blk (Kd.R_ne HO_8.out BK102.out (by decide))) | (show (Addr.add _ _).block ≠ _; rw [add_block]; exact Kd.own_blk (Kd.R_ne HO_8.out BK102.out (by decide))) | (dsimp only; exact Kd.own_blk (Kd.R_ne HO_8.out BK102.out (by decide)))) _).trans (hHeld.1)))))), ((cell_far (p := ⟨gb102, _, none⟩) (by first | exact Kd.own_blk (Kd.R_away HO_7.out (fun _ hk => hk.2)) | (rw [add_block]; exact Kd.own_blk (Kd.R_away HO_7.out (fun _ hk => hk.2))) | (show (Addr.add _ _).block ≠ _; rw [add_block]; exact Kd.own_blk (Kd.R_away HO_7.out (fun _ hk => hk.2))) | (dsimp only; exact Kd.own_blk (Kd.R_away HO_7.out (fun _ hk => hk.2)))) _).trans (((cell_far (p := ⟨gb102, _, none⟩) (by first | exact Kd.own_blk (Kd.R_away HO_7.out (fun _ hk => hk.2)) | (rw [add_block]; exact Kd.own_blk (Kd.R_away HO_7.out (fun _ hk => hk.2))) | (show (Addr.add _ _).block ≠ _; rw [add_block]; exact Kd.own_blk (Kd.R_away HO_7.out (fun _ hk => hk.2))) | (dsimp only; exact Kd.own_blk (Kd.R_away HO_7.out (fun _ hk => hk.2)))) _).trans (((cell_far (p := ⟨gb102, _, none⟩) (by first | exact Kd.own_blk (Kd.R_away HO_7.out (fun _ hk => hk.2)) | (rw [add_block]; exact Kd.own_blk (Kd.R_away HO_7.out (fun _ hk => hk.2))) | (show (Addr.add _ _).block ≠ _; rw [add_block]; exact Kd.own_blk (Kd.R_away HO_7.out (fun _ hk => hk.2))) | (dsimp only; exact Kd.own_blk (Kd.R_away HO_7.out (fun _ hk => hk.2)))) _).trans (hHeld.2.1)))))), ((cell_far (p := ⟨gb102, _, none⟩) (by first | exact Kd.own_blk (Kd.R_away HO_7.out (fun _ hk => hk.2)) | (rw [add_block]; exact Kd.own_blk (Kd.R_away HO_7.out (fun _ hk => hk.2))) | (show (Addr.add _ _).block ≠ _; rw [add_block]; exact Kd.own_blk (Kd.R_away HO_7.out (fun _ hk => hk.2))) | (dsimp only; exact Kd.own_blk (Kd.R_away HO_7.out (fun _ hk => hk.2)))) _).trans (((cell_far (p := ⟨gb102, _, none⟩) (by first | exact Kd.own_blk (Kd.R_away HO_7.out (fun _ hk => hk.2)) | (rw [add_block]; exact Kd.own_blk (Kd.R_away HO_7.out (fun _ hk => hk.2))) | (show (Addr.add _ _).block ≠ _; rw [add_block]; exact Kd.own_blk (Kd.R_away HO_7.out (fun _ hk => hk.2))) | (dsimp only; exact Kd.own_blk (Kd.R_away HO_7.out (fun _ hk => hk.2)))) _).trans (((cell_far (p := ⟨gb102, _, none⟩) (by first | exact Kd.own_blk (Kd.R_away HO_7.out (fun _ hk => hk.2)) | (rw [add_block]; exact Kd.own_blk (Kd.R_away HO_7.out (fun _ hk => hk.2))) | (show (Addr.add _ _).block ≠ _; rw [add_block]; exact Kd.own_blk (Kd.R_away HO_7.out (fun _ hk => hk.2))) | (dsimp only; exact Kd.own_blk (Kd.R_away HO_7.out (fun _ hk => hk.2)))) _).trans (hHeld.2.2.1)))))), ((cell_far (p := ⟨gb102, _, none⟩) (by first | exact Kd.own_blk (Kd.R_away HO_7.out (fun _ hk => hk.2)) | (rw [add_block]; exact Kd.own_blk (Kd.R_away HO_7.out (fun _ hk => hk.2))) | (show (Addr.add _ _).block ≠ _; rw [add_block]; exact Kd.own_blk (Kd.R_away HO_7.out (fun _ hk => hk.2))) | (dsimp only; exact Kd.own_blk (Kd.R_away HO_7.out (fun _ hk => hk.2)))) _).trans (((cell_far (p := ⟨gb102, _, none⟩) (by first | exact Kd.own_blk (Kd.R_away HO_7.out (fun _ hk => hk.2)) | (rw [add_block]; exact Kd.own_blk (Kd.R_away HO_7.out (fun _ hk => hk.2))) | (show (Addr.add _ _).block ≠ _; rw [add_block]; exact Kd.own_blk (Kd.R_away HO_7.out (fun _ hk => hk.2))) | (dsimp only; exact Kd.own_blk (Kd.R_away HO_7.out (fun _ hk => hk.2)))) _).trans (((cell_far (p := ⟨gb102, _, none⟩) (by first | exact Kd.own_blk (Kd.R_away HO_7.out (fun _ hk => hk.2)) | (rw [add_block]; exact Kd.own_blk (Kd.R_away HO_7.out (fun _ hk => hk.2))) | (show (Addr.add _ _).block ≠ _; rw [add_block]; exact Kd.own_blk (Kd.R_away HO_7.out (fun _ hk => hk.2))) | (dsimp only; exact Kd.own_blk (Kd.R_away HO_7.out (fun _ hk => hk.2)))) _).trans (hHeld.2.2.2))))))⟩ (fun hHeld => ?_)
                    clear hK K
                    refine pure_ (i := 10) (N := some 6) (v := ?_) (a' := ?_) #[true, true, true, true, true, true, true, true, true, true, true] rfl rfl (any_of HT_.out (by kernel_rfl)) (fun _ _ _ h => h) (Or.inl ⟨by rfl, ?_⟩) ?_ ?_
                    rotate_left
                    · intro w'
                      go_simp
                      with_reducible rfl
                    rotate_left
                    · simp only [Act.put, List.setIfInBounds_toArray, List.set_cons_zero, List.set_cons_succ, i64_w, i32_w]
                      rfl
                    refine done_ (done_of HT_.out (by kernel_rfl)) ?_
                    try go_wp2
                    refine bodyPost_ret (results_list (rs := [.tmp 4, .cell 5 26, .tmp 6]) rfl (by simp) (.tmp (.cell gb102 26 #[.int .i16 ((rd_T26 t105 x9_1).f0), .int .i16 ((rd_T26 t105 x9_1).f1), .int .i16 ((rd_T26 t105 x9_1).f2)] (0, 0) _ rfl (by (with_reducible repeat (first | refine blk_drewN ?_ _ | refine blk_drew ?_ | refine blk_alloc ?_ _)); refine blk_put (cs := #[.int .i16 ((rd_T26 t105 x9_1).f0), .int .i16 ((rd_T26 t105 x9_1).f1), .int .i16 0]) ?_ 2 _ rfl; (with_reducible repeat (first | refine blk_drewN ?_ _ | refine blk_drew ?_ | refine blk_alloc ?_ _)); refine blk_put (cs := #[.int .i16 ((rd_T26 t105 x9_1).f0), .int .i16 0, .int .i16 0]) ?_ 1 _ rfl; (with_reducible repeat (first | refine blk_drewN ?_ _ | refine blk_drew ?_ | refine blk_alloc ?_ _)); refine blk_put (cs := #[.int .i16 0, .int .i16 0, .int .i16 0]) ?_ 0 _ rfl; (with_reducible repeat (first | refine blk_drewN ?_ _ | refine blk_drew ?_ | refine blk_alloc ?_ _)); exact BK102.out) Try.underlying26 rfl (by kernel_rfl) (.tmp .nil)))) rfl ?_
                    exact ⟨_, by first | rfl | (simp [errW_none, errW_some] <;> rfl) | (simp [*, errW_none, errW_some] <;> rfl), by (with_reducible repeat (first | apply Kd.R_alloc | apply Kd.R_drewN | apply Kd.R_drew)); exact Kd.R_mono (Kd.R_far (p := ⟨gb102, 2, none⟩) (Kd.R_far (p := ⟨gb102, 1, none⟩) (Kd.R_far (p := ⟨gb102, 0, none⟩) (Kd.R_types HL115_0.out BK102.out (by decide)) (fun _ hk => hk.2) (.int .i16 ((rd_T26 t105 x9_1).f0))) (fun _ hk => hk.2) (.int .i16 ((rd_T26 t105 x9_1).f1))) (fun _ hk => hk.2) (.int .i16 ((rd_T26 t105 x9_1).f2))) (fun _ hk => trivial), by repeat (first | (with_reducible first | exact HB.out | apply below_alloc | apply pw_below_drewN | apply below_drew1 | refine below_set ?_ GE101.out | refine below_set ?_ GE102.out) | exact HB.out)⟩
                  · rw [if_neg c51] at H
                    exact absurd H (by simp)
                · rw [if_neg c50] at H
                  exact absurd H (by simp)
              · rw [if_neg c49] at H
                exact absurd H (by simp)
    · replace c6 := Bool.eq_false_iff.mpr c6
      subst c6
      have H1 : (some (([] : List Int), 0, 0, 0, 2)) = some (r1, r2, r3, r4, r5) := by rw [if_neg (show ¬ (false = true) by decide)] at H; exact H
      clear H
      have H := H1
      clear H1
      simp only [Option.some.injEq, Prod.mk.injEq] at H
      obtain ⟨rfl, rfl, rfl, rfl, rfl⟩ := H
      go_enter Try.func9, Try.ntmps9
      go_wp2_with (first | ((with_reducible refine gate_dst (N := 2) rfl ?_); refine box_event ?hg (N := 2) ?hd (cs := #[.int .i16 a0_0, .int .i16 a0_1, .int .i16 a0_2]) (t := 26) ?hr ?_; (case hd => rfl); (case hg => rfl); (case hr => first | (go_simp; done) | (go_simp; rfl)); intro gb101 hg w57 hbox hb; have n0_ := Aside0.mk (below_step (by repeat (first | (with_reducible first | exact HB.out | apply below_alloc | apply pw_below_drewN | apply below_drew1) | exact HB.out)) hb); have n1_ := Aside0.mk (hbox); have n2_ := Aside0.mk ((by rw [hg]; exact (below_size (by repeat (first | (with_reducible first | exact HB.out | apply below_alloc | apply pw_below_drewN | apply below_drew1) | exact HB.out))) : w.heap.size ≤ gb101)); have n3_ := Aside0.mk ((by rw [hg]; exact (below_size (by repeat (first | (with_reducible first | exact HB.out | apply below_alloc | apply pw_below_drewN | apply below_drew1) | exact HB.out))) : w.heap.size ≤ gb101)); clear HB; have HB := n0_; have BK101 := n1_; have GW101 := n2_; have GE101 := n3_; clear n0_ n1_ n2_ n3_; clear hb hbox hg) | ((with_reducible refine gate_dst (N := 5) rfl ?_); refine box_event ?hg (N := 5) ?hd (cs := #[.int .i16 0, .int .i16 0, .int .i16 0]) (t := 26) ?hr ?_; (case hd => rfl); (case hg => rfl); (case hr => first | (go_simp; done) | (go_simp; rfl)); intro gb102 hg w58 hbox hb; have n0_ := Aside0.mk (blk_below (g := gb101) (o := .cells #[.int .i16 a0_0, .int .i16 a0_1, .int .i16 a0_2] 26 (0, 0)) (by (with_reducible repeat (first | refine blk_drewN ?_ _ | refine blk_drew ?_ | refine blk_alloc ?_ _)); exact BK101.out) hb); have n1_ := Aside0.mk (below_step (by repeat (first | (with_reducible first | exact HB.out | apply below_alloc | apply pw_below_drewN | apply below_drew1 | refine below_set ?_ GE101.out) | exact HB.out)) hb); have n2_ := Aside0.mk (hbox); have n3_ := Aside0.mk ((by rw [hg]; exact (below_size (by repeat (first | (with_reducible first | exact HB.out | apply below_alloc | apply pw_below_drewN | apply below_drew1 | refine below_set ?_ GE101.out) | exact HB.out))) : w.heap.size ≤ gb102)); have n4_ := Aside0.mk ((by rw [hg]; exact (below_size (by repeat (first | (with_reducible first | exact HB.out | apply below_alloc | apply pw_below_drewN | apply below_drew1 | refine below_set ?_ GE101.out) | exact HB.out))) : w.heap.size ≤ gb102)); have n5_ := Aside0.mk ((by rw [hg]; exact Nat.ne_of_lt (blk_lt (g := gb101) (o := .cells #[.int .i16 a0_0, .int .i16 a0_1, .int .i16 a0_2] 26 (0, 0)) (by (with_reducible repeat (first | refine blk_drewN ?_ _ | refine blk_drew ?_ | refine blk_alloc ?_ _)); exact BK101.out)) : gb101 ≠ gb102)); have n6_ := Aside0.mk ((by rw [hg]; exact Nat.ne_of_gt (blk_lt (g := gb101) (o := .cells #[.int .i16 a0_0, .int .i16 a0_1, .int .i16 a0_2] 26 (0, 0)) (by (with_reducible repeat (first | refine blk_drewN ?_ _ | refine blk_drew ?_ | refine blk_alloc ?_ _)); exact BK101.out)) : gb102 ≠ gb101)); clear BK101; clear HB; have BK101 := n0_; have HB := n1_; have BK102 := n2_; have GW102 := n3_; have GE102 := n4_; have NB101_102 := n5_; have NB102_101 := n6_; clear n0_ n1_ n2_ n3_ n4_ n5_ n6_; clear hb hbox hg; have hnb59 := NB101_102.out; have hnc59 := NB102_101.out; have hcz60_0 : w58.cell? ⟨gb101, 0, none⟩ = some (.int .i16 a0_0) := (blk_cell BK101.out 0).trans rfl; have hcz60_1 : w58.cell? ⟨gb101, 1, none⟩ = some (.int .i16 a0_1) := (blk_cell BK101.out 1).trans rfl; have hcz60_2 : w58.cell? ⟨gb101, 2, none⟩ = some (.int .i16 a0_2) := (blk_cell BK101.out 2).trans rfl; have hfz60_0 := blk_frozen BK101.out 0; have hfz60_1 := blk_frozen BK101.out 1; have hfz60_2 := blk_frozen BK101.out 2) | ((with_reducible refine gate_callee (f := 29) rfl ?_); refine goesL_ (some 14) rfl rfl Try.func29 (by kernel_rfl) rfl #[.agg #[.int .i16 a0_0, .int .i16 a0_1, .int .i16 a0_2]] rfl (by (try simp only [List.map_toArray, List.map_cons, List.map_nil]); first | done | rfl | (simp only [List.length_drop, List.length_take]; rfl)) ?_; (with_reducible refine (impl_ValidSheet.calls a0_0 a0_1 a0_2 true _ A3.out).mono ?_); rintro e w61 ⟨rfl, hb⟩; refine ⟨_, rfl, ?_⟩; have n0_ := Aside0.mk (blk_below (g := gb101) (o := .cells #[.int .i16 a0_0, .int .i16 a0_1, .int .i16 a0_2] 26 (0, 0)) (by (with_reducible repeat (first | refine blk_drewN ?_ _ | refine blk_drew ?_ | refine blk_alloc ?_ _)); exact BK101.out) hb); have n1_ := Aside0.mk (blk_below (g := gb102) (o := .cells #[.int .i16 0, .int .i16 0, .int .i16 0] 26 (0, 0)) (by (with_reducible repeat (first | refine blk_drewN ?_ _ | refine blk_drew ?_ | refine blk_alloc ?_ _)); exact BK102.out) hb); have n2_ := Aside0.mk (below_step (by repeat (first | (with_reducible first | exact HB.out | apply below_alloc | apply pw_below_drewN | apply below_drew1 | refine below_set ?_ GE101.out | refine below_set ?_ GE102.out) | exact HB.out)) hb); clear BK101; clear BK102; clear HB; have BK101 := n0_; have BK102 := n1_; have HB := n2_; clear n0_ n1_ n2_; (try clear hb); (try clear hb2); (try clear hk); (try clear hi)) | ((with_reducible refine gate_callee (f := 41) rfl ?_); refine goesL_ (some 19) rfl rfl Try.func41 (by kernel_rfl) rfl #[.int .i64 a1, .int .i64 1, .int .i64 144] rfl (by (try simp only [List.map_toArray, List.map_cons, List.map_nil]); first | done | rfl | (simp only [List.length_drop, List.length_take]; rfl)) ?_; (with_reducible refine (impl_within.calls a1 1 144 false _ A5.out).mono ?_); rintro e w' ⟨rfl, ⟨nd, rfl⟩⟩; refine ⟨_, rfl, ?_⟩; (try (rw [drewN_self w61]; generalize hq_ : World.drewN w61 _ = w61; have n0_ : Aside0 (w61.heap[gb101]? = some (.cells #[.int .i16 a0_0, .int .i16 a0_1, .int .i16 a0_2] 26 (0, 0))) := ⟨by rw [← hq_]; exact (by (with_reducible repeat (first | refine blk_drewN ?_ _ | refine blk_drew ?_ | refine blk_alloc ?_ _)); exact BK101.out)⟩; have n1_ : Aside0 (w61.heap[gb102]? = some (.cells #[.int .i16 0, .int .i16 0, .int .i16 0] 26 (0, 0))) := ⟨by rw [← hq_]; exact (by (with_reducible repeat (first | refine blk_drewN ?_ _ | refine blk_drew ?_ | refine blk_alloc ?_ _)); exact BK102.out)⟩; have n2_ : Aside0 (Below w.heap.size w w61) := ⟨by rw [← hq_]; exact (by repeat (first | (with_reducible first | exact HB.out | apply below_alloc | apply pw_below_drewN | apply below_drew1 | refine below_set ?_ GE101.out | refine below_set ?_ GE102.out) | exact HB.out))⟩; clear BK101 BK102 HB hq_; have BK101 := n0_; have BK102 := n1_; have HB := n2_; clear n0_ n1_ n2_)); have hcz62_0 : w61.cell? ⟨gb102, 0, none⟩ = some (.int .i16 0) := (blk_cell BK102.out 0).trans rfl; have hcz62_1 : w61.cell? ⟨gb102, 1, none⟩ = some (.int .i16 0) := (blk_cell BK102.out 1).trans rfl; have hcz62_2 : w61.cell? ⟨gb102, 2, none⟩ = some (.int .i16 0) := (blk_cell BK102.out 2).trans rfl; have hfz62_0 := blk_frozen BK102.out 0; have hfz62_1 := blk_frozen BK102.out 1; have hfz62_2 := blk_frozen BK102.out 2))
      refine bodyPost_ret (results_list (rs := [.tmp 4, .cell 5 26, .tmp 6]) rfl (by simp) (.tmp (.cell gb102 26 #[.int .i16 0, .int .i16 0, .int .i16 0] (0, 0) _ rfl (by (with_reducible repeat (first | refine blk_drewN ?_ _ | refine blk_drew ?_ | refine blk_alloc ?_ _)); refine blk_put (cs := #[.int .i16 0, .int .i16 0, .int .i16 0]) ?_ 2 _ rfl; (with_reducible repeat (first | refine blk_drewN ?_ _ | refine blk_drew ?_ | refine blk_alloc ?_ _)); refine blk_put (cs := #[.int .i16 0, .int .i16 0, .int .i16 0]) ?_ 1 _ rfl; (with_reducible repeat (first | refine blk_drewN ?_ _ | refine blk_drew ?_ | refine blk_alloc ?_ _)); refine blk_put (cs := #[.int .i16 0, .int .i16 0, .int .i16 0]) ?_ 0 _ rfl; (with_reducible repeat (first | refine blk_drewN ?_ _ | refine blk_drew ?_ | refine blk_alloc ?_ _)); exact BK102.out) Try.underlying26 rfl (by kernel_rfl) (.tmp .nil)))) rfl ?_
      exact ⟨_, by first | rfl | (simp [errW_none, errW_some] <;> rfl) | (simp [*, errW_none, errW_some] <;> rfl), by first | exact Kd.R_nil _ _ _ _ _ | exact Kd.N_nil _ _ _ _ _ | exact Kd.V_nil _ _ _ _ _ | exact Kd.Q_nil _ _ _ _ _ | exact Kd.R_nil _ _ _ _ _, by repeat (first | (with_reducible first | exact HB.out | apply below_alloc | apply pw_below_drewN | apply below_drew1 | refine below_set ?_ GE101.out | refine below_set ?_ GE102.out) | exact HB.out)⟩
  · replace c4 := Bool.eq_false_iff.mpr c4
    subst c4
    have H1 : (some (([] : List Int), 0, 0, 0, 1)) = some (r1, r2, r3, r4, r5) := by rw [if_neg (show ¬ (false = true) by decide)] at H; exact H
    clear H
    have H := H1
    clear H1
    simp only [Option.some.injEq, Prod.mk.injEq] at H
    obtain ⟨rfl, rfl, rfl, rfl, rfl⟩ := H
    go_enter Try.func9, Try.ntmps9
    go_wp2_with (first | ((with_reducible refine gate_dst (N := 2) rfl ?_); refine box_event ?hg (N := 2) ?hd (cs := #[.int .i16 a0_0, .int .i16 a0_1, .int .i16 a0_2]) (t := 26) ?hr ?_; (case hd => rfl); (case hg => rfl); (case hr => first | (go_simp; done) | (go_simp; rfl)); intro gb101 hg w63 hbox hb; have n0_ := Aside0.mk (below_step (by repeat (first | (with_reducible first | exact HB.out | apply below_alloc | apply pw_below_drewN | apply below_drew1) | exact HB.out)) hb); have n1_ := Aside0.mk (hbox); have n2_ := Aside0.mk ((by rw [hg]; exact (below_size (by repeat (first | (with_reducible first | exact HB.out | apply below_alloc | apply pw_below_drewN | apply below_drew1) | exact HB.out))) : w.heap.size ≤ gb101)); have n3_ := Aside0.mk ((by rw [hg]; exact (below_size (by repeat (first | (with_reducible first | exact HB.out | apply below_alloc | apply pw_below_drewN | apply below_drew1) | exact HB.out))) : w.heap.size ≤ gb101)); clear HB; have HB := n0_; have BK101 := n1_; have GW101 := n2_; have GE101 := n3_; clear n0_ n1_ n2_ n3_; clear hb hbox hg) | ((with_reducible refine gate_dst (N := 5) rfl ?_); refine box_event ?hg (N := 5) ?hd (cs := #[.int .i16 0, .int .i16 0, .int .i16 0]) (t := 26) ?hr ?_; (case hd => rfl); (case hg => rfl); (case hr => first | (go_simp; done) | (go_simp; rfl)); intro gb102 hg w64 hbox hb; have n0_ := Aside0.mk (blk_below (g := gb101) (o := .cells #[.int .i16 a0_0, .int .i16 a0_1, .int .i16 a0_2] 26 (0, 0)) (by (with_reducible repeat (first | refine blk_drewN ?_ _ | refine blk_drew ?_ | refine blk_alloc ?_ _)); exact BK101.out) hb); have n1_ := Aside0.mk (below_step (by repeat (first | (with_reducible first | exact HB.out | apply below_alloc | apply pw_below_drewN | apply below_drew1 | refine below_set ?_ GE101.out) | exact HB.out)) hb); have n2_ := Aside0.mk (hbox); have n3_ := Aside0.mk ((by rw [hg]; exact (below_size (by repeat (first | (with_reducible first | exact HB.out | apply below_alloc | apply pw_below_drewN | apply below_drew1 | refine below_set ?_ GE101.out) | exact HB.out))) : w.heap.size ≤ gb102)); have n4_ := Aside0.mk ((by rw [hg]; exact (below_size (by repeat (first | (with_reducible first | exact HB.out | apply below_alloc | apply pw_below_drewN | apply below_drew1 | refine below_set ?_ GE101.out) | exact HB.out))) : w.heap.size ≤ gb102)); have n5_ := Aside0.mk ((by rw [hg]; exact Nat.ne_of_lt (blk_lt (g := gb101) (o := .cells #[.int .i16 a0_0, .int .i16 a0_1, .int .i16 a0_2] 26 (0, 0)) (by (with_reducible repeat (first | refine blk_drewN ?_ _ | refine blk_drew ?_ | refine blk_alloc ?_ _)); exact BK101.out)) : gb101 ≠ gb102)); have n6_ := Aside0.mk ((by rw [hg]; exact Nat.ne_of_gt (blk_lt (g := gb101) (o := .cells #[.int .i16 a0_0, .int .i16 a0_1, .int .i16 a0_2] 26 (0, 0)) (by (with_reducible repeat (first | refine blk_drewN ?_ _ | refine blk_drew ?_ | refine blk_alloc ?_ _)); exact BK101.out)) : gb102 ≠ gb101)); clear BK101; clear HB; have BK101 := n0_; have HB := n1_; have BK102 := n2_; have GW102 := n3_; have GE102 := n4_; have NB101_102 := n5_; have NB102_101 := n6_; clear n0_ n1_ n2_ n3_ n4_ n5_ n6_; clear hb hbox hg; have hnb65 := NB101_102.out; have hnc65 := NB102_101.out; have hcz66_0 : w64.cell? ⟨gb101, 0, none⟩ = some (.int .i16 a0_0) := (blk_cell BK101.out 0).trans rfl; have hcz66_1 : w64.cell? ⟨gb101, 1, none⟩ = some (.int .i16 a0_1) := (blk_cell BK101.out 1).trans rfl; have hcz66_2 : w64.cell? ⟨gb101, 2, none⟩ = some (.int .i16 a0_2) := (blk_cell BK101.out 2).trans rfl; have hfz66_0 := blk_frozen BK101.out 0; have hfz66_1 := blk_frozen BK101.out 1; have hfz66_2 := blk_frozen BK101.out 2) | ((with_reducible refine gate_callee (f := 29) rfl ?_); refine goesL_ (some 14) rfl rfl Try.func29 (by kernel_rfl) rfl #[.agg #[.int .i16 a0_0, .int .i16 a0_1, .int .i16 a0_2]] rfl (by (try simp only [List.map_toArray, List.map_cons, List.map_nil]); first | done | rfl | (simp only [List.length_drop, List.length_take]; rfl)) ?_; (with_reducible refine (impl_ValidSheet.calls a0_0 a0_1 a0_2 false _ A3.out).mono ?_); rintro e w67 ⟨rfl, hb⟩; refine ⟨_, rfl, ?_⟩; have n0_ := Aside0.mk (blk_below (g := gb101) (o := .cells #[.int .i16 a0_0, .int .i16 a0_1, .int .i16 a0_2] 26 (0, 0)) (by (with_reducible repeat (first | refine blk_drewN ?_ _ | refine blk_drew ?_ | refine blk_alloc ?_ _)); exact BK101.out) hb); have n1_ := Aside0.mk (blk_below (g := gb102) (o := .cells #[.int .i16 0, .int .i16 0, .int .i16 0] 26 (0, 0)) (by (with_reducible repeat (first | refine blk_drewN ?_ _ | refine blk_drew ?_ | refine blk_alloc ?_ _)); exact BK102.out) hb); have n2_ := Aside0.mk (below_step (by repeat (first | (with_reducible first | exact HB.out | apply below_alloc | apply pw_below_drewN | apply below_drew1 | refine below_set ?_ GE101.out | refine below_set ?_ GE102.out) | exact HB.out)) hb); clear BK101; clear BK102; clear HB; have BK101 := n0_; have BK102 := n1_; have HB := n2_; clear n0_ n1_ n2_; (try clear hb); (try clear hb2); (try clear hk); (try clear hi); have hcz68_0 : w67.cell? ⟨gb102, 0, none⟩ = some (.int .i16 0) := (blk_cell BK102.out 0).trans rfl; have hcz68_1 : w67.cell? ⟨gb102, 1, none⟩ = some (.int .i16 0) := (blk_cell BK102.out 1).trans rfl; have hcz68_2 : w67.cell? ⟨gb102, 2, none⟩ = some (.int .i16 0) := (blk_cell BK102.out 2).trans rfl; have hfz68_0 := blk_frozen BK102.out 0; have hfz68_1 := blk_frozen BK102.out 1; have hfz68_2 := blk_frozen BK102.out 2))
    refine bodyPost_ret (results_list (rs := [.tmp 4, .cell 5 26, .tmp 6]) rfl (by simp) (.tmp (.cell gb102 26 #[.int .i16 0, .int .i16 0, .int .i16 0] (0, 0) _ rfl (by (with_reducible repeat (first | refine blk_drewN ?_ _ | refine blk_drew ?_ | refine blk_alloc ?_ _)); refine blk_put (cs := #[.int .i16 0, .int .i16 0, .int .i16 0]) ?_ 2 _ rfl; (with_reducible repeat (first | refine blk_drewN ?_ _ | refine blk_drew ?_ | refine blk_alloc ?_ _)); refine blk_put (cs := #[.int .i16 0, .int .i16 0, .int .i16 0]) ?_ 1 _ rfl; (with_reducible repeat (first | refine blk_drewN ?_ _ | refine blk_drew ?_ | refine blk_alloc ?_ _)); refine blk_put (cs := #[.int .i16 0, .int .i16 0, .int .i16 0]) ?_ 0 _ rfl; (with_reducible repeat (first | refine blk_drewN ?_ _ | refine blk_drew ?_ | refine blk_alloc ?_ _)); exact BK102.out) Try.underlying26 rfl (by kernel_rfl) (.tmp .nil)))) rfl ?_
    exact ⟨_, by first | rfl | (simp [errW_none, errW_some] <;> rfl) | (simp [*, errW_none, errW_some] <;> rfl), by first | exact Kd.R_nil _ _ _ _ _ | exact Kd.N_nil _ _ _ _ _ | exact Kd.V_nil _ _ _ _ _ | exact Kd.Q_nil _ _ _ _ _ | exact Kd.R_nil _ _ _ _ _, by repeat (first | (with_reducible first | exact HB.out | apply below_alloc | apply pw_below_drewN | apply below_drew1 | refine below_set ?_ GE101.out | refine below_set ?_ GE102.out) | exact HB.out)⟩
end Go.Proofs.Ytjegcpagdpjidaa.X
