/- Contracts of functions, and plain facts: what each call answers, and what it leaves as it was. -/
import Derived.Test.YtjegcpagdpjidaaFol
import Derived.Test.YtjegcpagdpjidaaF5
import Derived.Test.YtjegcpagdpjidaaX14
import Derived.Test.YtjegcpagdpjidaaX30
set_option linter.unusedVariables false
set_option linter.unusedSimpArgs false
namespace Go.Proofs.Ytjegcpagdpjidaa.X
open Go.RowKit Go.Proofs.YtjegcpagdpjidaaW.PrintWords Go.Proofs.YtjegcpagdpjidaaW.PrintLast Go.Proofs.YtjegcpagdpjidaaW.PrintMore
attribute [local go_sem] max2_int min2_int max_two min_two max_three min_three max_four min_four
theorem allS_pos {s : S26} (hs : ShS s) : 0 < (allS s).length := by
  obtain ⟨K, hA, _⟩ := allK_ex hs
  rw [hA]
  have := (bN_pre mkS s 0 K).length_le
  rw [Nat.zero_add] at this
  simp only [bN, List.length_cons, List.length_nil] at this
  omega
/-- the first folds that make a sheet fit, or none -/
def fewL (l : List (S26 × List Int)) (x y z : Int) : List Int × Int :=
  match l.find? (fun t => liesF t.1.f0 t.1.f1 t.1.f2 x y z) with
  | some t => (t.2, 0)
  | none => ([], 6)
def fewR_ (s : S26) (x y z : Int) : List Int × Int := if shelfF s.f0 s.f1 s.f2 x y z = 0 then fewL (allS s) x y z else ([], shelfF s.f0 s.f1 s.f2 x y z)
set_option maxHeartbeats 8000000 in
set_option maxRecDepth 100000 in
theorem clo_calls (s : S26) (hs : ShS s) (x y z : Int) (p1 p2 p3 : Nat) (w : World) (h1 : w.cell? ⟨p1, 0, none⟩ = some (.int .i64 x)) (h2 : w.cell? ⟨p2, 0, none⟩ = some (.int .i64 y)) (h3 : w.cell? ⟨p3, 0, none⟩ = some (.int .i64 z)) :
    Calls Try.prog 47 #[.agg #[.int .i16 s.f0, .int .i16 s.f1, .int .i16 s.f2], .pointer (some ⟨p1, 0, none⟩), .pointer (some ⟨p2, 0, none⟩), .pointer (some ⟨p3, 0, none⟩)] w fun e w' => e = .returned (.bool (liesF s.f0 s.f1 s.f2 x y z)) ∧ Below w.heap.size w w' := by
  have HL := Aside0.mk (fun W => impl_Sheet_lies.calls s.f0 s.f1 s.f2 x y z _ W (lies_f hs x y z))
  have hu26 := Try.underlying26
  have HB0 := Blk.new w 26 [.int .i16 s.f0, .int .i16 s.f1, .int .i16 s.f2]
  have c0 := HB0.cell 0 (v := .int .i16 s.f0) rfl
  have c1 := HB0.cell 1 (v := .int .i16 s.f1) rfl
  have c2 := HB0.cell 2 (v := .int .i16 s.f2) rfl
  have hb0 := below_alloc (Below.refl w.heap.size w) (.cells #[.int .i16 s.f0, .int .i16 s.f1, .int .i16 s.f2] 26)
  have g1 := pw_cell_below hb0 h1
  have g2 := pw_cell_below hb0 h2
  have g3 := pw_cell_below hb0 h3
  have HW := Aside0.mk hb0
  clear HB0 hb0 h1 h2 h3
  generalize liesF s.f0 s.f1 s.f2 x y z = b at *
  go_enter Try.func47, Try.ntmps47
  go_wp2_with (go_at_call 48; refine (HL.out _).mono ?_; rintro e w1 ⟨rfl, hb⟩; have HW1 := Aside0.mk (below_step HW.out hb); clear hb c0 c1 c2 g1 g2 g3)
  go_ret
  exact ⟨rfl, HW1.out⟩
/-- the place of the first sheet that fits, -1 if there is none -/
def IdxR (l : List (S26 × List Int)) (x y z R : Int) : Prop := (R = -1 ∧ l.find? (fun t => liesF t.1.f0 t.1.f1 t.1.f2 x y z) = none) ∨ ∃ (k : Nat) (t : S26 × List Int), R = (k : Int) ∧ l[k]? = some t ∧ l.find? (fun t => liesF t.1.f0 t.1.f1 t.1.f2 x y z) = some t
set_option maxHeartbeats 8000000 in
set_option maxRecDepth 100000 in
theorem idx_calls (l : List (S26 × List Int)) (hl : l.length ≤ 1099511627776) (hsh : ∀ t ∈ l, ShS t.1) (x y z : Int) (gs cs p1 p2 p3 : Nat) (w w0 : World) (hwb : Below w0.heap.size w0 w) (h1 : w0.cell? ⟨p1, 0, none⟩ = some (.int .i64 x)) (h2 : w0.cell? ⟨p2, 0, none⟩ = some (.int .i64 y)) (h3 : w0.cell? ⟨p3, 0, none⟩ = some (.int .i64 z))
    (hC : Kd.C k26 w0 (some ⟨gs, 0, none⟩) l.length (l.map (·.1))) :
    Calls Try.prog 46 #[.slice (some ⟨gs, 0, none⟩) l.length cs, .func (.func 47) #[] #[.pointer (some ⟨p1, 0, none⟩), .pointer (some ⟨p2, 0, none⟩), .pointer (some ⟨p3, 0, none⟩)]] w fun e w' =>
      ∃ R : Int, e = .returned (.int .i64 R) ∧ IdxR l x y z R ∧ Below w0.heap.size w0 w' := by
  have HCE : Aside0 (∀ (W : World) (i : Nat) (t : S26 × List Int), Below w0.heap.size w0 W → l[i]? = some t → W.cell? ⟨gs, i * 3, none⟩ = some (.int .i16 t.1.f0) ∧ W.cell? ⟨gs, i * 3 + 1, none⟩ = some (.int .i16 t.1.f1) ∧ W.cell? ⟨gs, i * 3 + 2, none⟩ = some (.int .i16 t.1.f2)) := ⟨fun W i t hb ht => by
    have hi : i < l.length := (List.getElem?_eq_some_iff.1 ht).1
    obtain ⟨ad, e, a0, a1, a2⟩ := at_T26 hC (i : Int) (by omega) (by omega)
    injection e with e
    subst e
    have er : rd_T26 (l.map (·.1)) (i : Int) = t.1 := by
      unfold rd_T26
      rw [show (i : Int).toNat = i from rfl, List.getD_eq_getElem?_getD, List.getElem?_map, ht]
      rfl
    rw [er] at a0 a1 a2
    rw [show (i : Int).toNat = i from rfl, add_plain] at a0 a1 a2
    exact ⟨pw_cell_below hb a0, pw_cell_below hb a1, pw_cell_below hb a2⟩⟩
  have HCL := Aside0.mk (fun (t : S26 × List Int) (ht : t ∈ l) (W : World) (hb : Below w0.heap.size w0 W) => clo_calls t.1 (hsh t ht) x y z p1 p2 p3 W (pw_cell_below hb h1) (pw_cell_below hb h2) (pw_cell_below hb h3))
  have HW := Aside0.mk hwb
  have hu26 := Try.underlying26
  clear hwb hC h1 h2 h3 hsh
  go_enter Try.func46, Try.ntmps46
  go_wp2
  go_loopw [8] (fun v8 w' => ∃ k : Nat, k ≤ l.length ∧ v8 = .int .i64 k ∧ Aside0 (l.find? (fun t => liesF t.1.f0 t.1.f1 t.1.f2 x y z) = (l.drop k).find? (fun t => liesF t.1.f0 t.1.f1 t.1.f2 x y z)) ∧ Aside0 (Below w0.heap.size w0 w')) (fun v8 _ => l.length - (intOf v8).toNat)
  case atStart => exact ⟨0, by omega, rfl, ⟨rfl⟩, HW⟩
  case round =>
    clear HW
    obtain ⟨k, hk, rfl, HY, HW⟩ := hrel
    obtain ⟨wo, rfl⟩ : ∃ wo : World, wo = wr := ⟨_, rfl⟩
    have hk9 : IntKind.i64.wrap ((k : Int) + 1) = (k : Int) + 1 := IntWalk.i64_in _ ⟨by omega, by omega⟩
    by_cases hlt : k < l.length
    · have hki : (k : Int) < (l.length : Int) := by omega
      have HG : Aside0 (l[k]? = some l[k]) := ⟨List.getElem?_eq_getElem hlt⟩
      have HD : Aside0 (l.drop k = l[k] :: l.drop (k + 1)) := ⟨List.drop_eq_getElem_cons hlt⟩
      have HC := Aside0.mk (HCL.out l[k] (List.getElem_mem _))
      generalize l[k] = t at *
      obtain ⟨c0, c1, c2⟩ := HCE.out wo k t HW.out HG.out
      cases hf : liesF t.1.f0 t.1.f1 t.1.f2 x y z
      · rw [hf] at HC
        have HY2 : Aside0 (l.find? (fun t => liesF t.1.f0 t.1.f1 t.1.f2 x y z) = (l.drop (k + 1)).find? (fun t => liesF t.1.f0 t.1.f1 t.1.f2 x y z)) := ⟨by rw [HY.out, HD.out, List.find?_cons, hf]⟩
        clear hf
        go_wp2_with (go_at_call 47; refine (HC.out _ HW.out).mono ?_; rintro e w5 ⟨rfl, hb_⟩; have HW5 : Aside0 (Below w0.heap.size w0 w5) := ⟨below_step HW.out hb_⟩; clear hb_)
        go_roundw
        case rel => exact ⟨k + 1, by omega, by go_num, HY2, HW5⟩
        case measure => simp [intOf] <;> omega
      · rw [hf] at HC
        have HY2 : Aside0 (l.find? (fun t => liesF t.1.f0 t.1.f1 t.1.f2 x y z) = some t) := ⟨by rw [HY.out, HD.out, List.find?_cons, hf]⟩
        clear hf
        go_wp2_with (go_at_call 47; refine (HC.out _ HW.out).mono ?_; rintro e w5 ⟨rfl, hb_⟩; have HW5 : Aside0 (Below w0.heap.size w0 w5) := ⟨below_step HW.out hb_⟩; clear hb_)
        go_ret
        exact ⟨(k : Int), rfl, .inr ⟨k, t, rfl, HG.out, HY2.out⟩, HW5.out⟩
    · have ek : k = l.length := by omega
      have HN : Aside0 (l.find? (fun t => liesF t.1.f0 t.1.f1 t.1.f2 x y z) = none) := ⟨by rw [HY.out, ek, List.drop_length]; rfl⟩
      have hki : ¬ (k : Int) < (l.length : Int) := by omega
      go_wp2
      go_ret
      exact ⟨-1, rfl, .inl ⟨rfl, HN.out⟩, HW.out⟩
set_option maxHeartbeats 8000000 in
set_option maxRecDepth 100000 in
theorem implFew_calls (s : S26) (ha : -32768 ≤ s.f0 ∧ s.f0 ≤ 32767) (hb : -32768 ≤ s.f1 ∧ s.f1 ≤ 32767) (hc : -32768 ≤ s.f2 ∧ s.f2 ≤ 32767) (x y z : Int) (w : World) :
    Calls Try.prog 15 #[.agg #[.int .i16 s.f0, .int .i16 s.f1, .int .i16 s.f2], .int .i64 x, .int .i64 y, .int .i64 z] w fun e w' => ∃ v0_ : Value, e = .returned (.tuple #[v0_, .int .i64 (fewR_ s x y z).2]) ∧ Kd.R (Kd.int .i64) 2 w' w.heap.size (fun _ => True) v0_ (fewR_ s x y z).1 ∧ Below w.heap.size w w' := by
  obtain ⟨wb, hwb⟩ : ∃ wb : World, wb = (((w.alloc (.cells #[.int .i16 s.f0, .int .i16 s.f1, .int .i16 s.f2] 26)).alloc (.cells #[.int .i64 x] 2)).alloc (.cells #[.int .i64 y] 2)).alloc (.cells #[.int .i64 z] 2) := ⟨_, rfl⟩
  have hB : Below w.heap.size w wb := by rw [hwb]; exact below_alloc (below_alloc (below_alloc (below_alloc (Below.refl _ _) _) _) _) _
  have HB0 : Blk wb w.heap.size 26 [.int .i16 s.f0, .int .i16 s.f1, .int .i16 s.f2] := by rw [hwb]; exact (((Blk.new w _ _).alloc _).alloc _).alloc _
  have HB1 : Blk wb (w.heap.size + 1) 2 [.int .i64 x] := by rw [hwb]; exact ((Blk.at_ (by simp) rfl).alloc _).alloc _
  have HB2 : Blk wb (w.heap.size + 1 + 1) 2 [.int .i64 y] := by rw [hwb]; exact (Blk.at_ (by simp) rfl).alloc _
  have HB3 : Blk wb (w.heap.size + 1 + 1 + 1) 2 [.int .i64 z] := by rw [hwb]; exact Blk.at_ (by simp) rfl
  have hu26 := Try.underlying26
  have HSC := Aside0.mk (fun W => impl_shelfCode.calls 5 s.f0 s.f1 s.f2 x y z _ W (shelfCode_f ha hb hc x y z (by decide)))
  have HCE : Aside0 (∀ W, Below wb.heap.size wb W → W.cell? ⟨w.heap.size, 0, none⟩ = some (.int .i16 s.f0) ∧ W.cell? ⟨w.heap.size, 1, none⟩ = some (.int .i16 s.f1) ∧ W.cell? ⟨w.heap.size, 2, none⟩ = some (.int .i16 s.f2) ∧ W.cell? ⟨w.heap.size + 1, 0, none⟩ = some (.int .i64 x) ∧ W.cell? ⟨w.heap.size + 1 + 1, 0, none⟩ = some (.int .i64 y) ∧ W.cell? ⟨w.heap.size + 1 + 1 + 1, 0, none⟩ = some (.int .i64 z)) := ⟨fun W hb => ⟨pw_cell_below hb (HB0.cell 0 rfl), pw_cell_below hb (HB0.cell 1 rfl), pw_cell_below hb (HB0.cell 2 rfl), pw_cell_below hb (HB1.cell 0 rfl), pw_cell_below hb (HB2.cell 0 rfl), pw_cell_below hb (HB3.cell 0 rfl)⟩⟩
  have HWB := Aside0.mk hB
  obtain ⟨a0, a1, a2, a3, a4, a5⟩ := HCE.out wb (Below.refl _ _)
  unfold fewR_
  by_cases h0 : shelfF s.f0 s.f1 s.f2 x y z = 0
  · have hs : ShS s := shelfF_0 h0
    rw [if_pos h0]
    rw [h0] at HSC
    obtain ⟨K, hA, hKM, hKl, hKk⟩ := allK_ex hs
    have HFO := Aside0.mk (fun W => foldings_calls s hs W)
    have HSH : Aside0 (∀ t ∈ allS s, ShS t.1) := ⟨by rw [hA]; exact bN_sh hs K⟩
    have HLN : Aside0 ((allS s).length ≤ 241864704) := ⟨by rw [hKl]; exact hKM⟩
    have HNZ : Aside0 (0 < (allS s).length) := ⟨allS_pos hs⟩
    clear ha hb hc h0 HB0 HB1 HB2 HB3 hB hA hKl hKk hKM
    generalize allS s = l at *
    have hll := HLN.out
    go_enter Try.func15, Try.ntmps15
    go_wp2_with fail
    rw [← hwb]
    refine (HSC.out _).mono ?_
    rintro e w1 ⟨rfl, hb⟩
    have HX1 := Aside0.mk hb
    clear a0 a1 a2 a3 a4 a5 hb hwb
    obtain ⟨a0, a1, a2, a3, a4, a5⟩ := HCE.out w1 HX1.out
    go_wp2_with fail
    refine (HFO.out _).mono ?_
    rintro e w2 ⟨v0, v1, rfl, hR1, hR2, hb⟩
    have HX2 := Aside0.mk (below_step HX1.out hb)
    clear a0 a1 a2 a3 a4 a5
    obtain ⟨gs, cs, rfl, _⟩ := Kd.R_form hR1 (by rw [List.length_map]; exact HNZ.out)
    obtain ⟨gf, cf, rfl, _⟩ := Kd.R_form hR2 (by rw [List.length_map]; exact HNZ.out)
    have hC1 := (Kd.R_reads' hR1).2.2
    rw [List.length_map] at hC1 hR2
    rw [List.length_map, List.length_map]
    have HR2 := Aside0.mk hR2
    obtain ⟨a0, a1, a2, a3, a4, a5⟩ := HCE.out w2 HX2.out
    have HIX := Aside0.mk (idx_calls l (by omega) HSH.out x y z gs cs (w.heap.size + 1) (w.heap.size + 1 + 1) (w.heap.size + 1 + 1 + 1) w2 w2 (Below.refl _ _) a3 a4 a5 hC1)
    have HBW := Aside0.mk (Below.size (below_step HWB.out HX1.out))
    clear hC1 hR1 hR2 hb a0 a1 a2 a3 a4 a5
    go_wp2_with fail
    refine HIX.out.mono ?_
    rintro e w3 ⟨R, rfl, hR, hb⟩
    have HX3 := Aside0.mk (below_step HX2.out hb)
    rcases hR with ⟨rfl, hn⟩ | ⟨k, t, rfl, hk, hf⟩
    · have HF : Aside0 (fewL l x y z = ([], 6)) := ⟨by unfold fewL; rw [hn]⟩
      clear hn hb
      go_wp2
      go_ret2
      exact ⟨.slice none 0 0, by rw [HF.out]; rfl, by rw [HF.out]; exact Kd.R_nil _ _ _ _ _, below_step HWB.out HX3.out⟩
    · have HF : Aside0 (fewL l x y z = (t.2, 0)) := ⟨by unfold fewL; rw [hf]⟩
      have hkl : k < l.length := (List.getElem?_eq_some_iff.1 hk).1
      obtain ⟨c, hcl, hM, hcc, _⟩ := Kd.R_elem (Kd.R_below HR2.out hb) ([] : List Int) (k : Int) (by omega) (by omega)
      have et : (l.map (·.2)).getD (k : Int).toNat [] = t.2 := by
        rw [show (k : Int).toNat = k from rfl, List.getD_eq_getElem?_getD, List.getElem?_map, hk]; rfl
      rw [et] at hM
      obtain ⟨v, rfl, hRv⟩ := hM
      have ck : w3.cell? ⟨gf, k, none⟩ = some v := by
        have h_ := hcc 0 v rfl
        rw [show (k : Int).toNat = k from rfl, show k * (Kd.slice 2 (Kd.int .i64)).sz + 0 = k by show k * 1 + 0 = k; omega] at h_
        exact h_
      have HRV : Aside0 (Kd.R (Kd.int .i64) 2 w3 w.heap.size (fun _ => True) v t.2) := ⟨Kd.R_of_own (own_weaken (Kd.own_of_R hRv) HBW.out) (fun _ _ => trivial)⟩
      obtain ⟨A, c3, rfl, _, _⟩ := Kd.R_reads hRv
      have hk0 : ¬ (k : Int) < 0 := by omega
      have hk1 : (0 : Int) ≤ (k : Int) := by omega
      have hki : (k : Int) < (l.length : Int) := by omega
      clear hf hk hcl hcc hRv hb et
      go_wp2
      go_ret2
      exact ⟨.slice A t.2.length c3, by rw [HF.out]; rfl, by rw [HF.out]; exact HRV.out, below_step HWB.out HX3.out⟩
  · rw [if_neg h0]
    have hcb : (shelfF s.f0 s.f1 s.f2 x y z != 0) = true := bne_iff_ne.2 h0
    clear ha hb hc HB0 HB1 HB2 HB3 hB
    generalize shelfF s.f0 s.f1 s.f2 x y z = code at *
    go_enter Try.func15, Try.ntmps15
    go_wp2_with fail
    rw [← hwb]
    refine (HSC.out _).mono ?_
    rintro e w1 ⟨rfl, hb⟩
    have HX1 := Aside0.mk hb
    clear a0 a1 a2 a3 a4 a5 hb hwb
    go_wp2
    go_ret2
    exact ⟨_, rfl, Kd.R_nil _ _ _ _ _, below_step HWB.out HX1.out⟩
end Go.Proofs.Ytjegcpagdpjidaa.X
