/- Contracts of functions, and plain facts, of more texts than one: put together, since a claim takes 60 files. -/
import Derived.Test.YtdepnieanfjhjaaDoorRow
import Derived.Test.YtdepnieanfjhjaaDoorOpen
import Derived.Test.YtdepnieanfjhjaaDoorWArr
import Derived.Test.YtdepnieanfjhjaaDoorG13
/- what stood in the text LWg -/
set_option linter.unusedVariables false
set_option linter.unusedSimpArgs false
namespace Go.Proofs.YtdepnieanfjhjaaDoor.X
open Go.RowKit Go.Proofs.YtdepnieanfjhjaaDoorW.PrintWords Go.Proofs.YtdepnieanfjhjaaDoorW.PrintLast Go.Proofs.YtdepnieanfjhjaaDoorW.PrintMore
attribute [local go_sem] max2_int min2_int max_two min_two max_three min_three max_four min_four
set_option maxHeartbeats 8000000 in
set_option maxRecDepth 100000 in
theorem lawWhoGetsSun_calls (L : List Int) (hL : L.length = 72) (h8 : i8All L) (A1 : Option Addr) (c1 : Nat) (l1 : List S56) (h t1 places : Int) (w : World) (hr1 : Kd.C k56 w A1 l1.length l1) (hc1 : l1.length ≤ c1) (w1 : ∀ x_ ∈ l1, (Lit.int .i16 x_.f0).wf = true ∧ (Lit.int .i8 x_.f1).wf = true) (ht : TabD w) :
    Calls Tryd.prog 3 #[(.agg (nums .i8 L).toArray), .slice A1 l1.length c1, .int .i64 h, .int .i64 t1, .int .i64 places] w fun e w' => e = .returned (.bool true) ∧ Below w.heap.size w w' := by
  have hmx := Kd.C_max hr1
  have HTAB := Aside0.mk ht
  clear ht
  have HR1 := Aside0.mk hr1
  have HN : Aside0 ((nums .i8 L).length = 72) := ⟨by rw [nums_len]; exact hL⟩
  have HS : Aside0 (((nums .i8 L).drop 0).take 72 = nums .i8 L) := ⟨by rw [List.drop_zero, List.take_of_length_le (by rw [HN.out]; exact Nat.le_refl _)]⟩
  have HD0 : Aside0 (Blk (w.alloc (.cells (nums .i8 L).toArray 25)) w.heap.size 25 (nums .i8 L)) := ⟨Blk.new w _ _⟩
  have HB0 : Aside0 (Below w.heap.size w (w.alloc (.cells (nums .i8 L).toArray 25))) := ⟨below_alloc (Below.refl _ _) _⟩
  have HTD := Aside0.mk (fun W => toDay_calls L hL W)
  by_cases hl : l1.length ≤ 1048576
  · have HSZ := Aside0.mk (szWashS_f hl)
    have HTW := Aside0.mk (fun W hC => laws_toWashS.calls (l1.length + 1) A1 c1 l1 _ W hC hc1 (toWashS_f (l := l1) (by omega)))
    have hws : ∀ x ∈ cvW l1, wshR x := fun x hx => by
      unfold cvW at hx
      rw [List.mem_map] at hx
      obtain ⟨y, hy, rfl⟩ := hx
      have h_ := w1 y hy
      simp only [Lit.wf, Bool.and_eq_true, decide_eq_true_eq] at h_
      have a1 : IntKind.i16.min = -32768 := rfl
      have a2 : IntKind.i16.max = 32767 := rfl
      have a3 : IntKind.i8.min = -128 := rfl
      have a4 : IntKind.i8.max = 127 := rfl
      unfold wshR
      simp only
      omega
    have hwl := cvW_len l1
    generalize cvW l1 = ws at *
    obtain ⟨b, l, code, hF, hb6⟩ := wg_ex L ws h t1 places
    have HSP := Aside0.mk (fun W A c (hC : Kd.C k52 W A ws.length ws) => specWG_calls L hL h8 ws hws h t1 places A c b l code hF W hC)
    have HIM := Aside0.mk (fun W A c (hc : ws.length ≤ c) (ht : TabD W) (hC : Kd.C k52 W A ws.length ws) => implWG_calls L hL h8 ws hws h t1 places A c hc b l code hF W ht hC)
    have HEW := Aside0.mk (eqWashS_f ws (by omega))
    obtain ⟨lm, hlm⟩ := markWashS_f ws (by omega)
    have HMW := Aside0.mk hlm
    have hz0 : ¬ (1048576 - (l1.length : Int) < 0) := by omega
    have hz1 : ¬ ((1 : Int) + 2 * (ws.length : Int) < 0) := by omega
    have hz2 : ¬ ((1 : Int) + (b.length : Int) < 0) := by omega
    have HB6 := Aside0.mk hb6
    clear hlm hF hws w1 hr1 hL h8 hmx hwl
    go_enter Tryd.func3, Tryd.ntmps3
    go_wp2_with fail
    refine (laws_szWashS.calls A1 c1 l1 1048576 _ _ (Kd.C_below HR1.out HB0.out) hc1 HSZ.out).mono ?_
    rintro e w1 ⟨rfl, hd⟩
    have hb := hd.below
    clear hd
    have HD1 := Aside0.mk (HD0.out.below hb)
    have HB1 := Aside0.mk (below_step HB0.out hb)
    clear hb HD0 HB0
    go_wp2_with (refine wl_load (by rfl) 25 _ (by rfl) w.heap.size 0 (by rfl) 25 72 _ _ HD1.out HS.out HN.out _ Tryd.underlying25 (by rfl) (by kernel_rfl) ?_)
    refine (HTD.out _).mono ?_
    rintro e w2 ⟨rfl, hb⟩
    have HD2 := Aside0.mk (HD1.out.below hb)
    have HB2 := Aside0.mk (below_step HB1.out hb)
    clear hb HD1 HB1
    go_wp2_with fail
    refine (HTW.out _ (Kd.C_below HR1.out HB2.out)).mono ?_
    rintro e w3 ⟨v3, rfl, hR3, hb⟩
    obtain ⟨A3, c3, rfl, hc3, hC3⟩ := Kd.R_reads hR3
    have HC3 := Aside0.mk hC3
    clear hR3 hC3
    have HD3 := Aside0.mk (HD2.out.below hb)
    have HB3 := Aside0.mk (below_step HB2.out hb)
    clear hb HD2 HB2
    go_wp2_with fail
    refine (HSP.out _ A3 c3 HC3.out).mono ?_
    rintro e w4 ⟨v4, rfl, hI4, hb⟩
    have HV4 := Aside0.mk hI4
    clear hI4 HC3
    have HD4 := Aside0.mk (HD3.out.below hb)
    have HB4 := Aside0.mk (below_step HB3.out hb)
    have HDX := Aside0.mk HD4.out
    have HBX := Aside0.mk HB4.out
    have HSZ4 : Aside0 (w.heap.size < w4.heap.size) := ⟨HD4.out.lt⟩
    clear hb HD3 HB3
    go_wp2_with fail
    refine (HTW.out _ (Kd.C_below HR1.out HB4.out)).mono ?_
    rintro e w5 ⟨v5, rfl, hR5, hb⟩
    obtain ⟨A5, c5, rfl, hc5, hC5⟩ := Kd.R_reads hR5
    have HX5 := Aside0.mk (Kd.R_mono (ok' := fun k => w4.heap.size ≤ k ∧ k < w5.heap.size) (Kd.R_bound hR5) (fun k hk => ⟨hk.2.1, hk.2.2.1⟩))
    have HG5 := Aside0.mk hb
    have hs5 := Below.size hb
    clear hR5 hC5
    have HD5 := Aside0.mk (HD4.out.below hb)
    have HB5 := Aside0.mk (below_step HB4.out hb)
    clear hb HD4 HB4
    go_wp2_with (refine wl_load (by rfl) 25 _ (by rfl) w.heap.size 0 (by rfl) 25 72 _ _ HD5.out HS.out HN.out _ Tryd.underlying25 (by rfl) (by kernel_rfl) ?_)
    refine (HTD.out _).mono ?_
    rintro e w6 ⟨rfl, hb⟩
    have HX6 := Aside0.mk (Kd.R_below HX5.out hb)
    have HG6 := Aside0.mk (below_step HG5.out hb)
    have hs6 := Below.size hb
    clear HX5 HG5
    have HD6 := Aside0.mk (HD5.out.below hb)
    have HB6 := Aside0.mk (below_step HB5.out hb)
    clear hb HD5 HB5
    go_wp2_with fail
    refine (HIM.out _ A5 c5 hc5 (HTAB.out.below HB6.out) (Kd.R_reads' HX6.out).2.2).mono ?_
    rintro e w7 ⟨v7, rfl, hI7, hb⟩
    have HV7 := Aside0.mk hI7
    have HX7 := Aside0.mk (Kd.R_below HX6.out hb)
    have HG7 := Aside0.mk (below_step HG6.out hb)
    clear hI7 HX6 HG6
    have HD7 := Aside0.mk (HD6.out.below hb)
    have HB7 := Aside0.mk (below_step HB6.out hb)
    clear hb HD6 HB6
    go_wp2_with fail
    refine (eqI_calls v7 v4 b _ _ (by omega) _ HV7.out (HV4.out.below HG7.out)).mono ?_
    rintro e w8 ⟨rfl, hb⟩
    have HV8 := Aside0.mk (HV7.out.below hb)
    have HX8 := Aside0.mk (Kd.R_below HX7.out hb)
    have HG8 := Aside0.mk (below_step HG7.out hb)
    clear HV7 HX7 HG7
    have HD8 := Aside0.mk (HD7.out.below hb)
    have HB8 := Aside0.mk (below_step HB7.out hb)
    clear hb HD7 HB7
    go_wp2_with fail
    refine (HTW.out _ (Kd.C_below HR1.out HB8.out)).mono ?_
    rintro e w9 ⟨v9, rfl, hR9, hb⟩
    obtain ⟨A9, c9, rfl, hc9, hC9⟩ := Kd.R_reads hR9
    have HC9 := Aside0.mk hC9
    have HV9 := Aside0.mk (HV8.out.below hb)
    have HX9 := Aside0.mk (Kd.R_below HX8.out hb)
    have HG9 := Aside0.mk (below_step HG8.out hb)
    clear hR9 hC9 HV8 HX8 HG8
    have HD9 := Aside0.mk (HD8.out.below hb)
    have HB9 := Aside0.mk (below_step HB8.out hb)
    clear hb HD8 HB8
    go_wp2_with fail
    refine (laws_eqWashS.calls (ws.length + 1) A5 c5 ws A9 c9 ws true _ (Kd.R_reads' HX9.out).2.2 hc5 HC9.out hc9 HEW.out).mono ?_
    rintro e w10 ⟨rfl, hb⟩
    have HV10 := Aside0.mk (HV9.out.below hb)
    have HX10 := Aside0.mk (Kd.R_below HX9.out hb)
    have HG10 := Aside0.mk (below_step HG9.out hb)
    clear HV9 HX9 HG9 HC9
    have HD10 := Aside0.mk (HD9.out.below hb)
    have HB10 := Aside0.mk (below_step HB9.out hb)
    clear hb HD9 HB9
    go_wp2_with fail
    refine (laws_markWashS.calls (ws.length + 1) (fun k => w4.heap.size ≤ k ∧ k < w5.heap.size) _ ws 1 _ lm w4 _ HG10.out HX10.out HMW.out).mono ?_
    rintro e w11 ⟨rfl, _, hb4, hk⟩
    have HV11 := Aside0.mk (HV10.out.kept hk (fun k hk_ hn_ => by have := own_base HV10.out k hk_; omega))
    have HG11 := Aside0.mk hb4
    have HD11 : Aside0 (Blk w11 w.heap.size 25 (nums .i8 L)) := ⟨(hk.2 _ HD10.out.lt (fun hn_ => by have := Below.size HB10.out; have := HSZ4.out; omega)).trans HD10.out⟩
    have HB11 := Aside0.mk (below_then HBX.out (Below.size HBX.out) hb4)
    clear HV10 HX10 HG10 hb4 hk HD10 HB10
    go_wp2_with fail
    refine (eqI_calls v7 v4 b _ _ (by omega) _ HV11.out (HV4.out.below HG11.out)).mono ?_
    rintro e w12 ⟨rfl, hb⟩
    have HV12 := Aside0.mk (HV11.out.below hb)
    have HG12 := Aside0.mk (below_step HG11.out hb)
    clear HV11 HG11
    have HD12 := Aside0.mk (HD11.out.below hb)
    have HB12 := Aside0.mk (below_step HB11.out hb)
    clear hb HD11 HB11
    go_wp2_with fail
    refine (markI_calls v7 b 1 (by omega) (by omega) (by omega) w4 _ HG12.out (HV12.out.lower (by omega))).mono ?_
    rintro e w13 ⟨rfl, hI, hb4, hk⟩
    have HV13 := Aside0.mk hI
    have HG13 := Aside0.mk hb4
    have HB13 := Aside0.mk (below_then HBX.out (Below.size HBX.out) hb4)
    have HD13 : Aside0 (Blk w13 w.heap.size 25 (nums .i8 L)) := ⟨HDX.out.below hb4⟩
    clear hI hb4 hk HV12 HG12 HD12 HB12
    go_wp2_with fail
    refine (heldI_calls v7 1 b.length _ (by omega) (by omega) (by omega) _ HV13.out).mono ?_
    rintro e w14 ⟨rfl, hb⟩
    have HV14 := Aside0.mk (HV13.out.below hb)
    have HG14 := Aside0.mk (below_step HG13.out hb)
    clear HV13 HG13
    have HD14 := Aside0.mk (HD13.out.below hb)
    have HB14 := Aside0.mk (below_step HB13.out hb)
    clear hb HD13 HB13
    go_wp2_with (refine wl_load (by rfl) 25 _ (by rfl) w.heap.size 0 (by rfl) 25 72 _ _ HD14.out HS.out HN.out _ Tryd.underlying25 (by rfl) (by kernel_rfl) ?_)
    refine (HTD.out _).mono ?_
    rintro e w15 ⟨rfl, hb⟩
    have HV15 := Aside0.mk (HV14.out.below hb)
    have HG15 := Aside0.mk (below_step HG14.out hb)
    clear HV14 HG14
    have HD15 := Aside0.mk (HD14.out.below hb)
    have HB15 := Aside0.mk (below_step HB14.out hb)
    clear hb HD14 HB14
    go_wp2_with fail
    refine (HTW.out _ (Kd.C_below HR1.out HB15.out)).mono ?_
    rintro e w16 ⟨v16, rfl, hR16, hb⟩
    obtain ⟨A16, c16, rfl, hc16, hC16⟩ := Kd.R_reads hR16
    have HC16 := Aside0.mk hC16
    have HV16 := Aside0.mk (HV15.out.below hb)
    have HG16 := Aside0.mk (below_step HG15.out hb)
    clear HV15 HG15 hR16 hC16
    have HD16 := Aside0.mk (HD15.out.below hb)
    have HB16 := Aside0.mk (below_step HB15.out hb)
    clear hb HD15 HB15
    go_wp2_with fail
    refine (HIM.out _ A16 c16 hc16 (HTAB.out.below HB16.out) HC16.out).mono ?_
    rintro e w17 ⟨v17, rfl, hI17, hb⟩
    have HW17 := Aside0.mk hI17
    have HV17 := Aside0.mk (HV16.out.below hb)
    have HG17 := Aside0.mk (below_step HG16.out hb)
    clear HV16 HG16 HC16 hI17
    have HD17 := Aside0.mk (HD16.out.below hb)
    have HB17 := Aside0.mk (below_step HB16.out hb)
    clear hb HD16 HB16
    go_wp2_with fail
    refine (eqI_calls v17 v4 b _ _ (by omega) _ HW17.out (HV4.out.below HG17.out)).mono ?_
    rintro e w18 ⟨rfl, hb⟩
    have HV18 := Aside0.mk (HV17.out.below hb)
    clear HV17 HW17 HG17
    have HD18 := Aside0.mk (HD17.out.below hb)
    have HB18 := Aside0.mk (below_step HB17.out hb)
    clear hb HD17 HB17
    go_wp2_with fail
    refine (heldI_calls v7 1 b.length _ (by omega) (by omega) (by omega) _ HV18.out).mono ?_
    rintro e w19 ⟨rfl, hb⟩
    have HD19 := Aside0.mk (HD18.out.below hb)
    have HB19 := Aside0.mk (below_step HB18.out hb)
    clear hb HD18 HB18
    go_wp2
    go_ret
    exact ⟨rfl, HB19.out⟩
  · have HSZ := Aside0.mk (szWashS_no (l := l1) (by omega) (by omega))
    go_enter Tryd.func3, Tryd.ntmps3
    go_wp2_with fail
    refine (laws_szWashS.calls A1 c1 l1 1048576 _ _ (Kd.C_below HR1.out HB0.out) hc1 HSZ.out).mono ?_
    rintro e w1 ⟨rfl, hd⟩
    go_wp2
    go_ret
    exact ⟨rfl, below_step HB0.out hd.below⟩
end Go.Proofs.YtdepnieanfjhjaaDoor.X

/- what stood in the text OpenArr -/
set_option linter.unusedVariables false
set_option linter.unusedSimpArgs false
namespace Go.Proofs.YtdepnieanfjhjaaDoorW.PrintWords
open Go.RowKit Go.ChangeShapes Go.WideShapes Go.Deep

theorem opens_arr {α : Type} {P : Program} {t e : TypeId} {n : Nat} {d : Kd α} {Q : α → Prop} {hs : 0 < d.sz} (ht : P.underlying t = some (.array n e)) (hs2 : P.cellsOf e = d.sz) (hc : P.cellsOf t = n * d.sz) (ho : Opens P e d Q) :
    Opens P t (Kd.arr n d hs) (fun xs => ∀ x ∈ xs, Q x) := by
  intro H enc w base spare held fuel cs x h
  obtain ⟨xs, m, _, _, hl, hxs, hg⟩ := DataW.trod_array ht h
  obtain ⟨l, hll, hlp⟩ := list_of (fun i (b : α) => d.K w b ((cs.drop (i * d.sz)).take d.sz) ∧ Q b) n (fun i hi => by
    have h2 := hg i hi
    rw [hs2, List.getElem?_eq_getElem (by omega)] at h2
    exact ho h2)
  exact ⟨l, ⟨hll, by rw [hl, hc, hll], fun j p hj => (hlp j p hj).1⟩, fun b hb => by obtain ⟨j, hj⟩ := List.getElem?_of_mem hb; exact (hlp j b hj).2⟩
theorem reps_flat {α : Type} {R : α → List Value → Prop} {sz : Nat} (f : α → List Value) (hf : ∀ p c, R p c → c = f p) : ∀ (xs : List α) (cs : List Value), Reps R sz xs cs → cs = xs.flatMap f
  | [], cs, h => by have := h.1; simp at this; simp [this]
  | x :: xs, cs, h => by
    have h0 := hf _ _ (h.2 0 x rfl)
    have ht := reps_flat (R := R) (sz := sz) f hf xs (cs.drop sz) ⟨by rw [List.length_drop, h.1, List.length_cons, Nat.succ_mul]; omega, fun j p hj => by
      have := h.2 (j + 1) p (by simpa using hj)
      rwa [Nat.succ_mul, Nat.add_comm, ← List.drop_drop] at this⟩
    rw [List.flatMap_cons, ← h0, ← ht]
    simp
theorem agg_of_arr {P : Program} {w : World} {r : Reach} {b : Nat} {t e : TypeId} {n : Nat} {v : Value} {l : List Value} (ht : P.underlying t = some (.array n e)) (hv : Value.okWide P w r b t v) (h : v.cells.toList = l) : v = .agg l.toArray := by
  simp only [Value.okWide, ht] at hv
  obtain ⟨cs, rfl, _⟩ := hv
  rw [← h]
  simp [Value.cells]
end Go.Proofs.YtdepnieanfjhjaaDoorW.PrintWords

/- what stood in the text OpenDay -/
set_option linter.unusedVariables false
set_option linter.unusedSimpArgs false
namespace Go.Proofs.YtdepnieanfjhjaaDoor.X
open Go.RowKit Go.ChangeShapes Go.WideShapes Go.Proofs.YtdepnieanfjhjaaDoorW.PrintWords
abbrev dayK : Kd (List (Int × Int × Int)) := Kd.arr 24 (Kd.pair (Kd.int .i8) (Kd.pair (Kd.int .i8) (Kd.int .i8))) (by decide)
abbrev dayQ (xs : List (Int × Int × Int)) : Prop := ∀ x ∈ xs, (Lit.int .i8 x.1).wf = true ∧ (Lit.int .i8 x.2.1).wf = true ∧ (Lit.int .i8 x.2.2).wf = true
theorem opens_day {P : Program} {t e b : TypeId} {f0 f1 f2 : Field} (ht : P.underlying t = some (.array 24 e)) (hc : P.cellsOf t = 72) (he : P.underlying e = some (.struct #[f0, f1, f2])) (hce : P.cellsOf e = 3) (hb : P.underlying b = some (.int .i8)) (hcb : P.cellsOf b = 1)
    (h0 : f0.type = b ∧ f0.offset = 0) (h1 : f1.type = b ∧ f1.offset = 1) (h2 : f2.type = b ∧ f2.offset = 2) : Opens P t dayK dayQ := by
  obtain ⟨h0, o0⟩ := h0
  obtain ⟨h1, o1⟩ := h1
  obtain ⟨h2, o2⟩ := h2
  have hi : Opens P b (Kd.int .i8) (fun n => (Lit.int .i8 n).wf = true) := opens_int hb
  have hf : OpensFs P 0 [f0, f1, f2] (Kd.pair (Kd.int .i8) (Kd.pair (Kd.int .i8) (Kd.int .i8))) (fun a => (Lit.int .i8 a.1).wf = true ∧ (Lit.int .i8 a.2.1).wf = true ∧ (Lit.int .i8 a.2.2).wf = true) :=
    opensFs_cons (d1 := Kd.int .i8) o0 (show P.cellsOf f0.type = 1 by rw [h0]; exact hcb) (by rw [h0]; exact hi) (opensFs_cons (d1 := Kd.int .i8) o1 (show P.cellsOf f1.type = 1 by rw [h1]; exact hcb) (by rw [h1]; exact hi) (opensFs_last (d := Kd.int .i8) o2 (show P.cellsOf f2.type = 1 by rw [h2]; exact hcb) (by rw [h2]; exact hi)))
  have hs : Opens P e (Kd.pair (Kd.int .i8) (Kd.pair (Kd.int .i8) (Kd.int .i8))) (fun a => (Lit.int .i8 a.1).wf = true ∧ (Lit.int .i8 a.2.1).wf = true ∧ (Lit.int .i8 a.2.2).wf = true) := opens_struct he (by rw [hce]; rfl) hf
  intro H enc w base spare held fuel cs x hx
  exact opens_arr (d := Kd.pair (Kd.int .i8) (Kd.pair (Kd.int .i8) (Kd.int .i8))) ht (by rw [hce]; rfl) (by rw [hc]; rfl) hs hx
theorem day_of {w : World} {xs : List (Int × Int × Int)} {cs : List Value} (h : dayK.K w xs cs) (hq : dayQ xs) : ∃ L : List Int, cs = nums .i8 L ∧ L.length = 72 ∧ i8All L := by
  have hf := reps_flat (fun x : Int × Int × Int => [Value.int .i8 x.1, .int .i8 x.2.1, .int .i8 x.2.2]) (by
    rintro p c ⟨c0, c1, rfl, rfl, c2, c3, rfl, rfl, rfl⟩
    rfl) xs cs h.2
  refine ⟨xs.flatMap fun x => [x.1, x.2.1, x.2.2], ?_, ?_, ?_⟩
  · rw [hf, nums, List.map_flatMap]; rfl
  · have h24 := h.1
    have : ∀ ys : List (Int × Int × Int), (ys.flatMap fun x => [x.1, x.2.1, x.2.2]).length = 3 * ys.length := by
      intro ys
      induction ys with
      | nil => rfl
      | cons y ys ih => rw [List.flatMap_cons, List.length_append, ih, List.length_cons]; simp; omega
    rw [this, h24]
  · intro x hx
    rw [List.mem_flatMap] at hx
    obtain ⟨p, hp, hx⟩ := hx
    obtain ⟨q0, q1, q2⟩ := hq p hp
    have b0 := bounds_i8 q0
    have b1 := bounds_i8 q1
    have b2 := bounds_i8 q2
    simp only [List.mem_cons, List.not_mem_nil, or_false] at hx
    rcases hx with rfl | rfl | rfl <;> omega
end Go.Proofs.YtdepnieanfjhjaaDoor.X
