/- Contracts of functions, and plain facts: what each call answers, and what it leaves as it was. -/
import Derived.Test.YtjegcpagdpjidaaFd
import Derived.Test.YtjegcpagdpjidaaF3
import Derived.Test.YtjegcpagdpjidaaX7
import Derived.Test.YtjegcpagdpjidaaX8
import Derived.Test.YtjegcpagdpjidaaX9
import Derived.Test.YtjegcpagdpjidaaX10
set_option linter.unusedVariables false
set_option linter.unusedSimpArgs false
namespace Go.Proofs.Ytjegcpagdpjidaa.X
open Go.RowKit Go.Proofs.YtjegcpagdpjidaaW.PrintWords Go.Proofs.YtjegcpagdpjidaaW.PrintLast Go.Proofs.YtjegcpagdpjidaaW.PrintMore
attribute [local go_sem] max2_int min2_int max_two min_two max_three min_three max_four min_four
set_option maxHeartbeats 8000000 in
set_option maxRecDepth 100000 in
theorem foldings_calls (s : S26) (hs : ShS s) (w : World) :
    Calls Try.prog 42 #[.agg #[.int .i16 s.f0, .int .i16 s.f1, .int .i16 s.f2]] w fun e w' => ∃ v0_ v1_ : Value, e = .returned (.tuple #[v0_, v1_]) ∧ Kd.R k26 26 w' w.heap.size (fun _ => True) v0_ ((allS s).map (·.1)) ∧ Kd.R (Kd.slice 2 (Kd.int .i64)) 25 w' w.heap.size (fun _ => True) v1_ ((allS s).map (·.2)) ∧ Below w.heap.size w w' := by
  obtain ⟨K, hA, hKM, hKl, hKk⟩ := allK_ex hs
  have HSH := Aside0.mk (bN_sh hs)
  have HMX := Aside0.mk (bN_M hs)
  have HDP := Aside0.mk (fun k => (bN_deep mkS s k).2.2)
  obtain ⟨i0, hi_, hz0, hz1, hz2⟩ := info_parts infoI64
  have HI := Aside0.mk (And.intro hi_ (And.intro hz0 (And.intro hz1 hz2)))
  have HA := Aside0.mk hA
  have HKK := Aside0.mk hKk
  rw [hA] at hKl
  have hu26 := Try.underlying26
  have HB0 := Aside0.mk (Blk.new w 26 [.int .i16 s.f0, .int .i16 s.f1, .int .i16 s.f2])
  have c0 := HB0.out.cell 0 (v := .int .i16 s.f0) rfl
  have c1 := HB0.out.cell 1 (v := .int .i16 s.f1) rfl
  have c2 := HB0.out.cell 2 (v := .int .i16 s.f2) rfl
  have HN0 : Aside0 (Fd w ((((w.alloc (.cells #[.int .i16 s.f0, .int .i16 s.f1, .int .i16 s.f2] 26)).alloc (.cells #[.int .i16 s.f0, .int .i16 s.f1, .int .i16 s.f2] 26)).alloc (.cells #[] 2)).alloc (.cells #[.slice (some ⟨w.heap.size + 1 + 1, 0, none⟩) 0 0] 25)) (w.heap.size + 1) 1 (w.heap.size + 1 + 1 + 1) 1 (bN mkS s 0)) := ⟨by
    have h_ := Fd.start (w := w) (W := (w.alloc (.cells #[.int .i16 s.f0, .int .i16 s.f1, .int .i16 s.f2] 26))) (s := s) (below_alloc (Below.refl _ _) _)
    simpa [bN] using h_⟩
  clear hA hKk hi_ hz0 hz1 hz2 HB0
  go_enter Try.func42, Try.ntmps42
  go_wp2
  go_loopw [4, 5, 6] (fun v4 v5 v6 w' => ∃ (k gs cs gf cf : Nat), k ≤ K ∧ v6 = .int .i64 k ∧ v4 = .slice (some ⟨gs, 0, none⟩) (bN mkS s k).length cs ∧ v5 = .slice (some ⟨gf, 0, none⟩) (bN mkS s k).length cf ∧ Aside0 (Fd w w' gs cs gf cf (bN mkS s k))) (fun _ _ v6 _ => K - (intOf v6).toNat)
  case atStart => exact ⟨0, _, 1, _, 1, by omega, rfl, rfl, rfl, HN0⟩
  case round =>
    clear HN0 c0 c1 c2
    obtain ⟨k, gs, cs, gf, cf, hk, rfl, rfl, rfl, HN⟩ := hrel
    obtain ⟨wo, rfl⟩ : ∃ wo : World, wo = wr := ⟨_, rfl⟩
    have hk9 : IntKind.i64.wrap ((k : Int) + 1) = (k : Int) + 1 := IntWalk.i64_in _ ⟨by omega, by omega⟩
    have hmx := HMX.out k
    by_cases hlt : k < K
    · have hkl := HKK.out k hlt
      have HEX : Aside0 (bN mkS s (k + 1) = bEx mkS (bN mkS s k) k) := ⟨rfl⟩
      have HLk : Aside0 ((bN mkS s k)[k]? = some (bN mkS s k)[k]) := ⟨List.getElem?_eq_getElem hkl⟩
      have hxs := HSH.out k (bN mkS s k)[k] (List.getElem_mem _)
      have hx12 := HDP.out k (bN mkS s k)[k] (List.getElem_mem _)
      generalize (bN mkS s k)[k] = x at *
      generalize hLL0 : bN mkS s k = L at *
      have hLL := Aside0.mk hLL0
      clear hLL0
      have hki : (k : Int) < (L.length : Int) := by omega
      obtain ⟨e0, e1, e2, A3, c3, e3, hc3, hC3⟩ := HN.out.cells HLk.out
      by_cases h12 : x.2.length = 12
      · have HFIN : Aside0 (allS s = L) := ⟨by
          rw [HA.out, ← hLL.out]
          obtain ⟨d, rfl⟩ : ∃ d, K = k + d := ⟨K - k, by omega⟩
          exact bN_stay mkS s (by rw [hLL.out]; exact HLk.out) h12 d⟩
        rw [h12] at e3
        clear e0 e1 e2 hC3
        go_wp2
        go_ret2
        exact ⟨_, _, rfl, by rw [HFIN.out]; exact HN.out.1, by rw [HFIN.out]; exact HN.out.2.1, HN.out.2.2⟩
      · have hEx : bEx mkS L k = bJ mkS x L 4 := by unfold bEx; rw [HLk.out]; exact if_neg h12
        rw [hEx] at HEX
        have hn12 : ¬ (x.2.length : Int) = 12 := by omega
        have hb12 : ((x.2.length : Int) == 12) = false := beq_eq_false_iff_ne.2 hn12
        have HJ0 : Aside0 (bJ mkS x L 0 = L) := ⟨rfl⟩
        have HPre := Aside0.mk (fun m => bJ_pre mkS x L m)
        have HML : Aside0 (∀ m, m ≤ 4 → (bJ mkS x L m).length ≤ L.length + m) := ⟨fun m hm => by
          clear hm
          induction m with
          | zero => exact Nat.le_refl _
          | succ m ih =>
            unfold bJ bTry
            split
            · omega
            · split
              · omega
              · rw [List.length_append, List.length_cons, List.length_nil]; omega⟩
        clear e0 e1 e2 hC3
        go_wp2
        clear e3
        go_loopw [4, 5, 7] (fun v4 v5 v7 w' => ∃ (m gs cs gf cf : Nat), m ≤ 4 ∧ v7 = .int .i64 m ∧ v4 = .slice (some ⟨gs, 0, none⟩) (bJ mkS x L m).length cs ∧ v5 = .slice (some ⟨gf, 0, none⟩) (bJ mkS x L m).length cf ∧ Aside0 (Fd w w' gs cs gf cf (bJ mkS x L m))) (fun _ _ v7 _ => 4 - (intOf v7).toNat)
        case atStart => exact ⟨0, gs, cs, gf, cf, by omega, rfl, rfl, rfl, HN⟩
        case round =>
          clear HN
          obtain ⟨m, gs, cs, gf, cf, hm, rfl, rfl, rfl, HN⟩ := hrel
          obtain ⟨wi, rfl⟩ : ∃ wi : World, wi = wr := ⟨_, rfl⟩
          have hm9 : IntKind.i64.wrap ((m : Int) + 1) = (m : Int) + 1 := IntWalk.i64_in _ ⟨by omega, by omega⟩
          by_cases hm4 : m < 4
          · have hm4i : (m : Int) ≤ 3 := by omega
            have hml := HML.out m hm
            obtain ⟨tl, htl⟩ := HPre.out m
            have HLJk : Aside0 ((bJ mkS x L m)[k]? = some x) := ⟨by rw [← htl, List.getElem?_append_left (by omega)]; exact HLk.out⟩
            have HJ1 : Aside0 (bJ mkS x L (m + 1) = bTry mkS x (bJ mkS x L m) (m : Int)) := ⟨rfl⟩
            have hLJl : L.length ≤ (bJ mkS x L m).length := by rw [← htl]; simp
            clear htl
            generalize bJ mkS x L m = LJ at *
            have hkj : (k : Int) < (LJ.length : Int) := by omega
            obtain ⟨e0, e1, e2, A3, c3, e3, hc3, hC3⟩ := HN.out.cells HLJk.out
            have HMD : Aside0 (∀ W, Calls Try.prog 57 #[.agg #[.int .i16 x.1.f0, .int .i16 x.1.f1, .int .i16 x.1.f2], .int .i64 (m : Int)] W fun e w' => e = .returned (.tuple #[.agg #[.int .i16 (madeF x.1.f0 x.1.f1 x.1.f2 (m : Int)).1, .int .i16 (madeF x.1.f0 x.1.f1 x.1.f2 (m : Int)).2.1, .int .i16 (madeF x.1.f0 x.1.f1 x.1.f2 (m : Int)).2.2.1], .int .i64 (madeF x.1.f0 x.1.f1 x.1.f2 (m : Int)).2.2.2]) ∧ Below W.heap.size W w') := ⟨fun W => impl_folded.calls _ _ _ _ _ _ _ _ W (folded_f hxs (m : Int))⟩
            have hsm := madeF_sh hxs (m : Int)
            have HCD := Aside0.mk (madeF_code x.1.f0 x.1.f1 x.1.f2 (m : Int))
            have HMK : Aside0 (mkS x.1 (m : Int) = if (madeF x.1.f0 x.1.f1 x.1.f2 (m : Int)).2.2.2 = 0 then some ⟨(madeF x.1.f0 x.1.f1 x.1.f2 (m : Int)).1, (madeF x.1.f0 x.1.f1 x.1.f2 (m : Int)).2.1, (madeF x.1.f0 x.1.f1 x.1.f2 (m : Int)).2.2.1⟩ else none) := ⟨rfl⟩
            generalize madeF x.1.f0 x.1.f1 x.1.f2 (m : Int) = M at *
            obtain ⟨r0, r1, r2, r3⟩ := M
            simp only at HMK hsm HCD HMD
            by_cases hcode : r3 = 0
            · subst hcode
              obtain ⟨y, rfl, rfl, rfl⟩ : ∃ y : S26, r0 = y.f0 ∧ r1 = y.f1 ∧ r2 = y.f2 := ⟨⟨r0, r1, r2⟩, rfl, rfl, rfl⟩
              rw [if_pos rfl] at HMK
              clear HCD hsm
              obtain ⟨nf, hnf⟩ : ∃ nf, x.2.length = nf := ⟨_, rfl⟩
              rw [hnf] at e3 hc3 hC3
              have HF := Aside0.mk hnf
              have hnf12 : nf ≤ 12 := by omega
              have E3 := Aside0.mk (fun (W : World) (h : Fd w W gs cs gf cf LJ) => h.cells HLJk.out)
              have HCT : Aside0 (∀ W, Fd w W gs cs gf cf LJ → Calls Try.prog 67 #[.slice (some ⟨gs, 0, none⟩) LJ.length cs, .agg #[.int .i16 y.f0, .int .i16 y.f1, .int .i16 y.f2]] W fun e w' => e = .returned (.bool (decide (y ∈ LJ.map (·.1)))) ∧ Below W.heap.size W w') := ⟨fun W h => by
                obtain ⟨h1, h2⟩ := h.C
                have h3 := impl_Sheet_67.calls 4294967298 (some ⟨gs, 0, none⟩) cs (LJ.map (·.1)) y.f0 y.f1 y.f2 _ W (by rw [List.length_map]; exact h1) (by rw [List.length_map]; exact h2) (cont_f _ y (by rw [List.length_map]; omega))
                rw [List.length_map] at h3
                exact h3⟩
              clear hnf hC3
              by_cases hmem : y ∈ LJ.map (·.1)
              · have hb : bTry mkS x LJ (m : Int) = LJ := by unfold bTry; rw [HMK.out]; exact if_pos hmem
                rw [hb] at HJ1
                rw [decide_eq_true hmem] at HCT
                go_wp2_with (first | (go_at_call 57; refine (HMD.out _).mono ?_; rintro e wd ⟨rfl, hb⟩; have HNd0 := Aside0.mk (HN.out.below hb); have HGS : Aside0 (gs < wd.heap.size) := ⟨HNd0.out.lt.1⟩; clear hb HN e0 e1 e2 e3) | (refine wl_store (by rfl) 26 _ _ (by rfl) (wd.heap.size) 0 (by rfl) 26 3 [.int .i16 0, .int .i16 0, .int .i16 0] [.int .i16 y.f0, .int .i16 y.f1, .int .i16 y.f2] (by rfl) (Blk.new wd 26 [.int .i16 0, .int .i16 0, .int .i16 0]) (by rfl) (by decide) (by kernel_rfl) (by rfl) ?_; intro ws hBs hgs; have HNs := Aside0.mk (HNd0.out.below (stored_below hgs)); have HBs : Aside0 (Blk ws wd.heap.size 26 [.int .i16 y.f0, .int .i16 y.f1, .int .i16 y.f2]) := ⟨Blk.all hBs (by decide)⟩; have d0s := HBs.out.cell 0 (v := .int .i16 y.f0) rfl; have d1s := HBs.out.cell 1 (v := .int .i16 y.f1) rfl; have d2s := HBs.out.cell 2 (v := .int .i16 y.f2) rfl; clear hBs hgs HNd0) | (go_at_call 67; refine (HCT.out _ HNs.out).mono ?_; rintro e wg ⟨rfl, hb⟩; have HN2 := Aside0.mk (HNs.out.below hb); have HB2 := Aside0.mk (HBs.out.below hb); clear hb HNs HBs))
                go_roundw
                case rel => first | exact ⟨m + 1, gs, cs, gf, cf, by omega, by go_num, by rw [HJ1.out], by rw [HJ1.out], ⟨by rw [HJ1.out]; exact HN2.out⟩⟩ | (refine ⟨m + 1, by omega, by go_num, gs, cs, gf, cf, ?_, ?_⟩; (simp [HJ1.out]; done); exact ⟨by rw [HJ1.out]; exact HN2.out⟩)
                case measure => simp [intOf] <;> omega
              · have hb : bTry mkS x LJ (m : Int) = LJ ++ [(y, x.2 ++ [(m : Int)])] := by unfold bTry; rw [HMK.out]; exact if_neg hmem
                rw [hb] at HJ1
                rw [decide_eq_false hmem] at HCT
                have HLL : Aside0 (LJ.length ≤ 241864712) := ⟨by omega⟩
                go_wp2_with (first | (go_at_call 57; refine (HMD.out _).mono ?_; rintro e wd ⟨rfl, hb⟩; have HNd0 := Aside0.mk (HN.out.below hb); have HGS : Aside0 (gs < wd.heap.size) := ⟨HNd0.out.lt.1⟩; clear hb HN e0 e1 e2 e3) | (refine wl_store (by rfl) 26 _ _ (by rfl) (wd.heap.size) 0 (by rfl) 26 3 [.int .i16 0, .int .i16 0, .int .i16 0] [.int .i16 y.f0, .int .i16 y.f1, .int .i16 y.f2] (by rfl) (Blk.new wd 26 [.int .i16 0, .int .i16 0, .int .i16 0]) (by rfl) (by decide) (by kernel_rfl) (by rfl) ?_; intro ws hBs hgs; have HNs := Aside0.mk (HNd0.out.below (stored_below hgs)); have HBs : Aside0 (Blk ws wd.heap.size 26 [.int .i16 y.f0, .int .i16 y.f1, .int .i16 y.f2]) := ⟨Blk.all hBs (by decide)⟩; have d0s := HBs.out.cell 0 (v := .int .i16 y.f0) rfl; have d1s := HBs.out.cell 1 (v := .int .i16 y.f1) rfl; have d2s := HBs.out.cell 2 (v := .int .i16 y.f2) rfl; clear hBs hgs HNd0) | (go_at_call 67; refine (HCT.out _ HNs.out).mono ?_; rintro e wg ⟨rfl, hb⟩; have HN2 := Aside0.mk (HNs.out.below hb); have HB2 := Aside0.mk (HBs.out.below hb); clear hb HNs HBs))
                have d0 := HB2.out.cell 0 (v := .int .i16 y.f0) rfl
                have d1 := HB2.out.cell 1 (v := .int .i16 y.f1) rfl
                have d2 := HB2.out.cell 2 (v := .int .i16 y.f2) rfl
                clear d0s d1s d2s
                obtain ⟨_, _, _, A5, c5, ck3, hc5, hC5⟩ := E3.out _ HN2.out
                rw [HF.out] at ck3 hc5
                have HC9 := Aside0.mk hc5
                clear hc5 hC5
                refine start_ (n := 17) (S := (fun w' => w'.cell? ⟨wd.heap.size, 0, none⟩ = some (.int .i16 y.f0) ∧ w'.cell? ⟨wd.heap.size, 1, none⟩ = some (.int .i16 y.f1) ∧ w'.cell? ⟨wd.heap.size, 2, none⟩ = some (.int .i16 y.f2) ∧ w'.cell? ⟨gf, k, none⟩ = some (.slice A5 nf c5))) (ds := [14]) #[false, false, false, false, false, false, false, false, false, false, false, false, false, false, false, false, false] (by kernel_rfl) rfl rfl ⟨d0, d1, d2, ck3⟩ (fun hHeld => ?_)
                obtain ⟨w0, hw0⟩ : ∃ w0, wg.drew = w0 := ⟨_, rfl⟩
                rw [hw0] at hHeld ⊢
                have HFd0 : Aside0 (Fd w w0 gs cs gf cf LJ) := ⟨by rw [← hw0]; exact HN2.out.below (below_drew (Below.refl _ _))⟩
                have HGS0 : Aside0 (gs < w0.heap.size) := ⟨HFd0.out.lt.1⟩
                have HNE : Aside0 (gs ≠ gf) := ⟨HFd0.out.ne⟩
                have HX0 : Aside0 (Below w0.heap.size w0 w0) := ⟨Below.refl _ _⟩
                have HS : Aside0 (∀ W, Below w0.heap.size w0 W → (fun w' : World => w'.cell? ⟨wd.heap.size, 0, none⟩ = some (.int .i16 y.f0) ∧ w'.cell? ⟨wd.heap.size, 1, none⟩ = some (.int .i16 y.f1) ∧ w'.cell? ⟨wd.heap.size, 2, none⟩ = some (.int .i16 y.f2) ∧ w'.cell? ⟨gf, k, none⟩ = some (.slice A5 nf c5)) W) := ⟨fun W hb => ⟨pw_cell_below hb hHeld.1, pw_cell_below hb hHeld.2.1, pw_cell_below hb hHeld.2.2.1, pw_cell_below hb hHeld.2.2.2⟩⟩
                clear hw0 HN2 HB2 d0 d1 d2 ck3
                refine pure_ (i := 0) (N := some 47) (v := ?_) (a' := ?_) #[true, false, false, false, false, false, false, false, false, false, false, false, false, false, false, false, false] rfl rfl (by kernel_rfl) (fun _ _ _ h => h) (Or.inl ⟨by rfl, ?_⟩) ?_ ?_
                rotate_left
                · intro w'
                  go_simp
                  with_reducible rfl
                rotate_left
                · simp only [Act.put, List.setIfInBounds_toArray, List.set_cons_zero, List.set_cons_succ, i64_w, i32_w]
                  rfl
                refine take_ (i := 1) (N := some 48) (v := ?_) (a' := ?_) #[true, true, false, false, false, false, false, false, false, false, false, false, false, false, false, false, false] rfl rfl (by kernel_rfl) (fun _ _ _ h => h) (Or.inl ⟨by rfl, ?_⟩) hHeld ?_ ?_
                rotate_left
                · rintro w' ⟨s0, s1, s2, s3⟩
                  go_simp
                  with_reducible rfl
                rotate_left
                · simp only [Act.put, List.setIfInBounds_toArray, List.set_cons_zero, List.set_cons_succ, i64_w, i32_w]
                  rfl
                refine pure_ (i := 4) (N := some 51) (v := ?_) (a' := ?_) #[true, true, false, false, true, false, false, false, false, false, false, false, false, false, false, false, false] rfl rfl (by kernel_rfl) (fun _ _ _ h => h) (Or.inl ⟨by rfl, ?_⟩) ?_ ?_
                rotate_left
                · intro w'
                  go_simp
                  with_reducible rfl
                rotate_left
                · simp only [Act.put, List.setIfInBounds_toArray, List.set_cons_zero, List.set_cons_succ, i64_w, i32_w]
                  rfl
                refine pure_ (i := 5) (N := some 52) (v := ?_) (a' := ?_) #[true, true, false, false, true, true, false, false, false, false, false, false, false, false, false, false, false] rfl rfl (by kernel_rfl) (fun _ _ _ h => h) (Or.inl ⟨by rfl, ?_⟩) ?_ ?_
                rotate_left
                · intro w'
                  go_simp
                  with_reducible rfl
                rotate_left
                · simp only [Act.put, List.setIfInBounds_toArray, List.set_cons_zero, List.set_cons_succ, i64_w, i32_w]
                  rfl
                refine pure_ (i := 6) (N := some 53) (v := ?_) (a' := ?_) #[true, true, false, false, true, true, true, false, false, false, false, false, false, false, false, false, false] rfl rfl (by kernel_rfl) (fun _ _ _ h => h) (Or.inl ⟨by rfl, ?_⟩) ?_ ?_
                rotate_left
                · intro w'
                  go_simp
                  with_reducible rfl
                rotate_left
                · simp only [Act.put, List.setIfInBounds_toArray, List.set_cons_zero, List.set_cons_succ, i64_w, i32_w]
                  rfl
                refine pure_ (i := 7) (N := some 54) (v := ?_) (a' := ?_) #[true, true, false, false, true, true, true, true, false, false, false, false, false, false, false, false, false] rfl rfl (by kernel_rfl) (fun _ _ _ h => h) (Or.inl ⟨by rfl, ?_⟩) ?_ ?_
                rotate_left
                · intro w'
                  go_simp
                  with_reducible rfl
                rotate_left
                · simp only [Act.put, List.setIfInBounds_toArray, List.set_cons_zero, List.set_cons_succ, i64_w, i32_w]
                  rfl
                refine take_ (i := 8) (N := some 55) (v := ?_) (a' := ?_) #[true, true, false, false, true, true, true, true, true, false, false, false, false, false, false, false, false] rfl rfl (by kernel_rfl) (fun _ _ _ h => h) (Or.inl ⟨by rfl, ?_⟩) hHeld ?_ ?_
                rotate_left
                · rintro w' ⟨s0, s1, s2, s3⟩
                  go_simp
                  with_reducible rfl
                rotate_left
                · simp only [Act.put, List.setIfInBounds_toArray, List.set_cons_zero, List.set_cons_succ, i64_w, i32_w]
                  rfl
                refine pure_ (i := 10) (N := some 57) (v := ?_) (a' := ?_) #[true, true, false, false, true, true, true, true, true, false, true, false, false, false, false, false, false] rfl rfl (by kernel_rfl) (fun _ _ _ h => h) (Or.inl ⟨by rfl, ?_⟩) ?_ ?_
                rotate_left
                · intro w'
                  go_simp
                  with_reducible rfl
                rotate_left
                · simp only [Act.put, List.setIfInBounds_toArray, List.set_cons_zero, List.set_cons_succ, i64_w, i32_w]
                  rfl
                refine two_ (i := 2) (j := 11) (Ni := some 49) (Nj := some 58) #[true, true, true, false, true, true, true, true, true, false, true, false, false, false, false, false, false] #[true, true, false, false, true, true, true, true, true, false, true, true, false, false, false, false, false] rfl rfl rfl rfl (by kernel_rfl) (by decide) (by decide) (fun K hK => ?_) (fun K hK => ?_)
                · refine value_ (v := ?_) (w1 := ?_) (by rfl) rfl ?_ ?_
                  rotate_left
                  rotate_left
                  · go_simp
                    first | (refine ⟨?_, ?_⟩ <;> rfl) | rfl
                  have HBS : Aside0 (Blk (w0.alloc (.cells #[.int .i16 y.f0, .int .i16 y.f1, .int .i16 y.f2] 26)) (w0.heap.size) 26 [.int .i16 y.f0, .int .i16 y.f1, .int .i16 y.f2]) := ⟨by have h_ := Blk.new (w0) 26 [.int .i16 y.f0, .int .i16 y.f1, .int .i16 y.f2]; simpa using h_⟩
                  have HX1 := Aside0.mk (below_alloc HX0.out (.cells #[.int .i16 y.f0, .int .i16 y.f1, .int .i16 y.f2] 26))
                  clear HX0
                  refine hK.out _ _ (HS.out _ HX1.out) (fun hHeld => ?_)
                  clear hK K
                  refine norm_ (a' := ?_) ?_ ?_
                  rotate_left
                  · show Act.put _ (some 49) _ = _
                    simp only [Act.put, List.setIfInBounds_toArray, List.set_cons_zero, List.set_cons_succ, i64_w, i32_w]
                    rfl
                  refine two_ (i := 3) (j := 11) (Ni := some 50) (Nj := some 58) #[true, true, true, true, true, true, true, true, true, false, true, false, false, false, false, false, false] #[true, true, true, false, true, true, true, true, true, false, true, true, false, false, false, false, false] rfl rfl rfl rfl (by kernel_rfl) (by decide) (by decide) (fun K hK => ?_) (fun K hK => ?_)
                  · refine on_ (by rfl) ?_
                    refine wp_app k26 w.heap.size (.tmp 47) (.tmp 49) 64 26 (.agg #[(.int .i16 0), (.int .i16 0), (.int .i16 0)]) 6 (by rfl) Try.underlying64 infoSh rfl (by decide) (.slice (some ⟨gs, 0, none⟩) LJ.length cs) (LJ.map (·.1)) y [.int .i16 y.f0, .int .i16 y.f1, .int .i16 y.f2] (fun _ => True) (fun _ => False) (by rfl) ((w0.heap.size)) 26 (by rfl) HBS.out (k26_mkM _ w.heap.size _ y) (fun _ h => h.elim) (fun _ _ => trivial) (Kd.R_below HFd0.out.1 HX1.out) (Below.size (below_step HFd0.out.2.2 HX1.out)) (by have h_ := HLL.out; rw [List.length_map]; omega) (by have h_ := HLL.out; rw [List.length_map]; unfold maxLen; omega) ?_
                    intro g5 c5s w5 hR5 hg5 hat5
                    have HF5 := Aside0.mk ((HFd0.out.below HX1.out).far (g' := 0) (c' := 0) (n' := 0) (xs := []) hg5)
                    have HK5 : Aside0 (w5.cell? ⟨wd.heap.size, 0, none⟩ = some (.int .i16 y.f0) ∧ w5.cell? ⟨wd.heap.size, 1, none⟩ = some (.int .i16 y.f1) ∧ w5.cell? ⟨wd.heap.size, 2, none⟩ = some (.int .i16 y.f2) ∧ w5.cell? ⟨gf, k, none⟩ = some (.slice A5 nf c5)) := ⟨have hn1 : some wd.heap.size ≠ (Value.slice (some ⟨gs, 0, none⟩) LJ.length cs).ownBlock := (by intro e_; have h_ := HGS.out; simp [Value.ownBlock] at e_; omega); have hn2 : some gf ≠ (Value.slice (some ⟨gs, 0, none⟩) LJ.length cs).ownBlock := (by intro e_; have h_ := HNE.out; simp [Value.ownBlock] at e_; exact h_ e_.symm); ⟨cell_grown hg5 hn1 hHeld.1, cell_grown hg5 hn1 hHeld.2.1, cell_grown hg5 hn1 hHeld.2.2.1, cell_grown hg5 hn2 hHeld.2.2.2⟩⟩
                    have HS5 : Aside0 (∀ W : World, Below w5.heap.size w5 W → W.cell? ⟨wd.heap.size, 0, none⟩ = some (.int .i16 y.f0) ∧ W.cell? ⟨wd.heap.size, 1, none⟩ = some (.int .i16 y.f1) ∧ W.cell? ⟨wd.heap.size, 2, none⟩ = some (.int .i16 y.f2) ∧ W.cell? ⟨gf, k, none⟩ = some (.slice A5 nf c5)) := ⟨fun W hb => ⟨pw_cell_below hb HK5.out.1, pw_cell_below hb HK5.out.2.1, pw_cell_below hb HK5.out.2.2.1, pw_cell_below hb HK5.out.2.2.2⟩⟩
                    have HC5 : Aside0 ((Kd.int .i64).C w5 A5 x.2.length x.2) := ⟨(foldsC HF5.out.1 HLJk.out HK5.out.2.2.2).2⟩
                    have HCL : Aside0 (∀ W, Below w5.heap.size w5 W → Calls Try.prog 68 #[.slice A5 nf c5] W fun e w' => ∃ v0_ : Value, e = .returned v0_ ∧ Kd.R (Kd.int .i64) 2 w' W.heap.size (fun _ => True) v0_ x.2 ∧ Below W.heap.size W w') := ⟨fun W hb => by have h_ := Kd.C_below HC5.out hb; rw [← HF.out]; exact slices_Clone_int64_int64.calls A5 c5 x.2 x.2 W h_ (by rw [HF.out]; exact HC9.out) (clone_f (by rw [HF.out]; omega))⟩
                    have HR1 := Aside0.mk hR5
                    have HGF5 : Aside0 (gf < w5.heap.size) := ⟨Kd.R_lt HF5.out.1 gf rfl⟩
                    have HX2 : Aside0 (Below w5.heap.size w5 w5) := ⟨Below.refl _ _⟩
                    clear HX1 HBS hR5 hg5 hat5
                    refine hK.out _ _ (HS5.out _ HX2.out) (fun hHeld => ?_)
                    clear hK K
                    refine norm_ (a' := ?_) ?_ ?_
                    rotate_left
                    · show Act.put _ (some 50) _ = _
                      simp only [Act.put, List.setIfInBounds_toArray, List.set_cons_zero, List.set_cons_succ, i64_w, i32_w]
                      rfl
                    refine two_ (i := 9) (j := 11) (Ni := some 56) (Nj := some 58) #[true, true, true, true, true, true, true, true, true, true, true, false, false, false, false, false, false] #[true, true, true, true, true, true, true, true, true, false, true, true, false, false, false, false, false] rfl rfl rfl rfl (by kernel_rfl) (by decide) (by decide) (fun K hK => ?_) (fun K hK => ?_)
                    · refine goes_ Try.func68 (by kernel_rfl) rfl #[.slice A5 nf c5] (by rfl) rfl rfl (by (try simp only [List.map_toArray, List.map_cons, List.map_nil]); first | done | rfl) ?_
                      refine (HCL.out _ HX2.out).mono ?_
                      rintro e wq ⟨vq, rfl, hRq, hbq⟩
                      refine ⟨_, rfl, ?_⟩
                      have HQ : Aside0 (wq.ownsRow w5.heap.size 2 1 vq nf (nums .i64 x.2)) := ⟨by have h_ := own_weaken (base' := w5.heap.size) (Kd.own_of_R hRq) (Below.size HX2.out); rw [HF.out] at h_; exact h_⟩
                      have HX3 := Aside0.mk (below_step HX2.out hbq)
                      clear HX2
                      refine hK.out _ _ (HS5.out _ HX3.out) (fun hHeld => ?_)
                      clear hK K hRq hbq
                      refine norm_ (a' := ?_) ?_ ?_
                      rotate_left
                      · show Act.put _ (some 56) _ = _
                        simp only [Act.put, List.setIfInBounds_toArray, List.set_cons_zero, List.set_cons_succ, i64_w, i32_w]
                        rfl
                      refine one_ (i := 11) (N := some 58) #[true, true, true, true, true, true, true, true, true, true, true, true, false, false, false, false, false] rfl rfl (by kernel_rfl) (by decide) (fun K hK => ?_)
                      refine value_ (v := ?_) (w1 := ?_) (by rfl) rfl ?_ ?_
                      rotate_left
                      rotate_left
                      · go_simp
                        first | (refine ⟨?_, ?_⟩ <;> rfl) | rfl
                      replace HQ : Aside0 ((wq.alloc (.cells #[.int .i64 (m : Int)] 2)).ownsRow w5.heap.size 2 1 vq nf (nums .i64 x.2)) := ⟨own_alloc HQ.out _⟩
                      have HBJ : Aside0 (Blk (wq.alloc (.cells #[.int .i64 (m : Int)] 2)) (wq.heap.size) 2 [.int .i64 (m : Int)]) := ⟨by have h_ := Blk.new (wq) 2 [.int .i64 (m : Int)]; simpa using h_⟩
                      have HX4 := Aside0.mk (below_alloc HX3.out (.cells #[.int .i64 (m : Int)] 2))
                      clear HX3
                      refine hK.out _ _ (HS5.out _ HX4.out) (fun hHeld => ?_)
                      clear hK K
                      refine norm_ (a' := ?_) ?_ ?_
                      rotate_left
                      · show Act.put _ (some 58) _ = _
                        simp only [Act.put, List.setIfInBounds_toArray, List.set_cons_zero, List.set_cons_succ, i64_w, i32_w]
                        rfl
                      refine one_ (i := 12) (N := some 59) #[true, true, true, true, true, true, true, true, true, true, true, true, true, false, false, false, false] rfl rfl (by kernel_rfl) (by decide) (fun K hK => ?_)
                      refine on_ (by rfl) ?_
                      refine wp_append_lies _ _ _ 25 (by rfl) w5.heap.size 2 i0 _ 1 8 Try.underlying25 HI.out.1 HI.out.2.1 HI.out.2.2.1 HI.out.2.2.2 (by rfl) (by decide) _ nf (nums .i64 x.2) (by rfl) HQ.out ⟨(wq.heap.size), 0, none⟩ 1 1 [.int .i64 (m : Int)] (by rfl) (by rfl) (World.news_of_block HBJ.out) (by intro u hu; simp at hu; subst hu; rfl) (by decide) (by unfold maxLen; omega) (by omega) (Below.size HX4.out) _ rfl ?_
                      intro g' cap' w3 hown hgrow hat hlt'
                      have HU : Aside0 ((Kd.int .i64).R 2 w3 w.heap.size (fun k_ => w5.heap.size ≤ k_) (.slice (some ⟨g', 0, none⟩) (nf + 1) cap') (x.2 ++ [(m : Int)])) := ⟨Kd.R_of_own (by have h_ := own_weaken (base' := w.heap.size) hown (Below.size HF5.out.2); rw [nums_snoc] at h_; rw [List.length_append, HF.out]; exact h_) (fun k_ e_ => own_base hown k_ e_)⟩
                      have HX5 := Aside0.mk (pw_below_grown HX4.out _ (Below.size HX4.out) hgrow (fun k_ e_ => own_base HQ.out k_ e_))
                      clear HX4
                      clear hown hgrow hat hlt' HQ HBJ
                      refine hK.out _ _ (HS5.out _ HX5.out) (fun hHeld => ?_)
                      clear hK K
                      refine norm_ (a' := ?_) ?_ ?_
                      rotate_left
                      · show Act.put _ (some 59) _ = _
                        simp only [Act.put, List.setIfInBounds_toArray, List.set_cons_zero, List.set_cons_succ, i64_w, i32_w]
                        rfl
                      refine one_ (i := 13) (N := some 60) #[true, true, true, true, true, true, true, true, true, true, true, true, true, true, false, false, false] rfl rfl (by kernel_rfl) (by decide) (fun K hK => ?_)
                      refine value_ (v := ?_) (w1 := ?_) (by rfl) rfl ?_ ?_
                      rotate_left
                      rotate_left
                      · go_simp
                        first | (refine ⟨?_, ?_⟩ <;> rfl) | rfl
                      have HBF : Aside0 (Blk (w3.alloc (.cells #[.slice (some ⟨g', 0, none⟩) (nf + 1) cap'] 25)) w3.heap.size 25 [.slice (some ⟨g', 0, none⟩) (nf + 1) cap']) := ⟨Blk.new w3 _ _⟩
                      have HX6 := Aside0.mk (below_alloc HX5.out (.cells #[.slice (some ⟨g', 0, none⟩) (nf + 1) cap'] 25))
                      clear HX5
                      refine hK.out _ _ (HS5.out _ HX6.out) (fun hHeld => ?_)
                      clear hK K
                      refine norm_ (a' := ?_) ?_ ?_
                      rotate_left
                      · show Act.put _ (some 60) _ = _
                        simp only [Act.put, List.setIfInBounds_toArray, List.set_cons_zero, List.set_cons_succ, i64_w, i32_w]
                        rfl
                      refine last_ (i := 14) (N := some 61) #[true, true, true, true, true, true, true, true, true, true, true, true, true, true, true, false, false] rfl rfl (by kernel_rfl) (by decide) (fun K hK => ?_)
                      refine on_ (by rfl) ?_
                      refine wp_app (Kd.slice 2 (Kd.int .i64)) w.heap.size (.tmp 51) (.tmp 60) 65 25 (.slice none 0 0) 24 (by rfl) Try.underlying65 infoIs rfl (by decide) (.slice (some ⟨gf, 0, none⟩) LJ.length cf) (LJ.map (·.2)) (x.2 ++ [(m : Int)]) [.slice (some ⟨g', 0, none⟩) (nf + 1) cap'] (fun _ => True) (fun k_ => w5.heap.size ≤ k_) (by rfl) (w3.heap.size) 25 (by rfl) HBF.out ⟨_, rfl, Kd.R_alloc HU.out _⟩ (fun k_ hk => ⟨trivial, fun e_ => by have h_ := HGF5.out; simp [Value.ownBlock] at e_; omega⟩) (fun _ _ => trivial) (Kd.R_below HF5.out.1 HX6.out) (Below.size (below_step HF5.out.2 HX6.out)) (by have h_ := HLL.out; rw [List.length_map]; omega) (by have h_ := HLL.out; rw [List.length_map]; unfold maxLen; omega) ?_
                      intro g6 c6 w4 hR6 hg6 hat6
                      have HNF : Aside0 (Fd w w4 g5 c5s g6 c6 (LJ ++ [(y, x.2 ++ [(m : Int)])])) := ⟨⟨by have h_ := sheets_far (Kd.R_below HR1.out HX6.out) (Kd.R_below HF5.out.1 HX6.out) hg6; rw [List.map_append, List.length_append]; rw [List.length_map] at h_; exact h_, by rw [List.map_append, List.length_append]; rw [List.length_map] at hR6; exact hR6, pw_below_grown (below_step HF5.out.2 HX6.out) _ (Below.size (below_step HF5.out.2 HX6.out)) hg6 (fun k_ e_ => Kd.R_base HF5.out.1 k_ e_)⟩⟩
                      clear hR6 hg6 hat6
                      skip
                      refine hK.out _ _ ?_
                      clear hK K
                      refine norm_ (a' := ?_) ?_ ?_
                      rotate_left
                      · show Act.put _ (some 61) _ = _
                        simp only [Act.put, List.setIfInBounds_toArray, List.set_cons_zero, List.set_cons_succ, i64_w, i32_w]
                        rfl
                      refine pure_ (i := 15) (N := some 4) (v := ?_) (a' := ?_) #[true, true, true, true, true, true, true, true, true, true, true, true, true, true, true, true, false] rfl rfl (by kernel_rfl) (fun _ _ _ h => h) (Or.inl ⟨by rfl, ?_⟩) ?_ ?_
                      rotate_left
                      · intro w'
                        go_simp
                        with_reducible rfl
                      rotate_left
                      · simp only [Act.put, List.setIfInBounds_toArray, List.set_cons_zero, List.set_cons_succ, i64_w, i32_w]
                        rfl
                      refine pure_ (i := 16) (N := some 5) (v := ?_) (a' := ?_) #[true, true, true, true, true, true, true, true, true, true, true, true, true, true, true, true, true] rfl rfl (by kernel_rfl) (fun _ _ _ h => h) (Or.inl ⟨by rfl, ?_⟩) ?_ ?_
                      rotate_left
                      · intro w'
                        go_simp
                        with_reducible rfl
                      rotate_left
                      · simp only [Act.put, List.setIfInBounds_toArray, List.set_cons_zero, List.set_cons_succ, i64_w, i32_w]
                        rfl
                      refine done_ (by kernel_rfl) ?_
                      go_wp2
                      go_roundw
                      case rel => first | exact ⟨m + 1, g5, c5s, g6, c6, by omega, by go_num, by first | (rw [HJ1.out, List.length_append, List.length_map]; rfl) | (rw [HJ1.out, List.length_append]; first | rfl | (rw [List.length_map]; rfl)), by first | (rw [HJ1.out, List.length_append, List.length_map]; rfl) | (rw [HJ1.out, List.length_append]; first | rfl | (rw [List.length_map]; rfl)), ⟨by rw [HJ1.out]; exact HNF.out⟩⟩ | exact ⟨m + 1, by omega, by go_num, g5, c5s, g6, c6, ⟨rfl, by rw [HJ1.out, List.length_append]; simp, rfl⟩, ⟨rfl, by rw [HJ1.out, List.length_append]; simp, rfl⟩, ⟨by rw [HJ1.out]; exact HNF.out⟩⟩ | (refine ⟨m + 1, by omega, by go_num, g5, c5s, g6, c6, ?_, ?_⟩; (simp [HJ1.out]; done); exact ⟨by rw [HJ1.out]; exact HNF.out⟩)
                      case measure => simp [intOf] <;> omega
                    · refine value_ (v := ?_) (w1 := ?_) (by rfl) rfl ?_ ?_
                      rotate_left
                      rotate_left
                      · go_simp
                        first | (refine ⟨?_, ?_⟩ <;> rfl) | rfl
                      have HBJ : Aside0 (Blk (w5.alloc (.cells #[.int .i64 (m : Int)] 2)) (w5.heap.size) 2 [.int .i64 (m : Int)]) := ⟨by have h_ := Blk.new (w5) 2 [.int .i64 (m : Int)]; simpa using h_⟩
                      have HX3 := Aside0.mk (below_alloc HX2.out (.cells #[.int .i64 (m : Int)] 2))
                      clear HX2
                      refine hK.out _ _ (HS5.out _ HX3.out) (fun hHeld => ?_)
                      clear hK K
                      refine norm_ (a' := ?_) ?_ ?_
                      rotate_left
                      · show Act.put _ (some 58) _ = _
                        simp only [Act.put, List.setIfInBounds_toArray, List.set_cons_zero, List.set_cons_succ, i64_w, i32_w]
                        rfl
                      refine one_ (i := 9) (N := some 56) #[true, true, true, true, true, true, true, true, true, true, true, true, false, false, false, false, false] rfl rfl (by kernel_rfl) (by decide) (fun K hK => ?_)
                      refine goes_ Try.func68 (by kernel_rfl) rfl #[.slice A5 nf c5] (by rfl) rfl rfl (by (try simp only [List.map_toArray, List.map_cons, List.map_nil]); first | done | rfl) ?_
                      refine (HCL.out _ HX3.out).mono ?_
                      rintro e wq ⟨vq, rfl, hRq, hbq⟩
                      refine ⟨_, rfl, ?_⟩
                      have HQ : Aside0 (wq.ownsRow w5.heap.size 2 1 vq nf (nums .i64 x.2)) := ⟨by have h_ := own_weaken (base' := w5.heap.size) (Kd.own_of_R hRq) (Below.size HX3.out); rw [HF.out] at h_; exact h_⟩
                      replace HBJ := Aside0.mk (HBJ.out.below hbq)
                      have HX4 := Aside0.mk (below_step HX3.out hbq)
                      clear HX3
                      refine hK.out _ _ (HS5.out _ HX4.out) (fun hHeld => ?_)
                      clear hK K hRq hbq
                      refine norm_ (a' := ?_) ?_ ?_
                      rotate_left
                      · show Act.put _ (some 56) _ = _
                        simp only [Act.put, List.setIfInBounds_toArray, List.set_cons_zero, List.set_cons_succ, i64_w, i32_w]
                        rfl
                      refine one_ (i := 12) (N := some 59) #[true, true, true, true, true, true, true, true, true, true, true, true, true, false, false, false, false] rfl rfl (by kernel_rfl) (by decide) (fun K hK => ?_)
                      refine on_ (by rfl) ?_
                      refine wp_append_lies _ _ _ 25 (by rfl) w5.heap.size 2 i0 _ 1 8 Try.underlying25 HI.out.1 HI.out.2.1 HI.out.2.2.1 HI.out.2.2.2 (by rfl) (by decide) _ nf (nums .i64 x.2) (by rfl) HQ.out ⟨(w5.heap.size), 0, none⟩ 1 1 [.int .i64 (m : Int)] (by rfl) (by rfl) (World.news_of_block HBJ.out) (by intro u hu; simp at hu; subst hu; rfl) (by decide) (by unfold maxLen; omega) (by omega) (Below.size HX4.out) _ rfl ?_
                      intro g' cap' w3 hown hgrow hat hlt'
                      have HU : Aside0 ((Kd.int .i64).R 2 w3 w.heap.size (fun k_ => w5.heap.size ≤ k_) (.slice (some ⟨g', 0, none⟩) (nf + 1) cap') (x.2 ++ [(m : Int)])) := ⟨Kd.R_of_own (by have h_ := own_weaken (base' := w.heap.size) hown (Below.size HF5.out.2); rw [nums_snoc] at h_; rw [List.length_append, HF.out]; exact h_) (fun k_ e_ => own_base hown k_ e_)⟩
                      have HX5 := Aside0.mk (pw_below_grown HX4.out _ (Below.size HX4.out) hgrow (fun k_ e_ => own_base HQ.out k_ e_))
                      clear HX4
                      clear hown hgrow hat hlt' HQ HBJ
                      refine hK.out _ _ (HS5.out _ HX5.out) (fun hHeld => ?_)
                      clear hK K
                      refine norm_ (a' := ?_) ?_ ?_
                      rotate_left
                      · show Act.put _ (some 59) _ = _
                        simp only [Act.put, List.setIfInBounds_toArray, List.set_cons_zero, List.set_cons_succ, i64_w, i32_w]
                        rfl
                      refine one_ (i := 13) (N := some 60) #[true, true, true, true, true, true, true, true, true, true, true, true, true, true, false, false, false] rfl rfl (by kernel_rfl) (by decide) (fun K hK => ?_)
                      refine value_ (v := ?_) (w1 := ?_) (by rfl) rfl ?_ ?_
                      rotate_left
                      rotate_left
                      · go_simp
                        first | (refine ⟨?_, ?_⟩ <;> rfl) | rfl
                      have HBF : Aside0 (Blk (w3.alloc (.cells #[.slice (some ⟨g', 0, none⟩) (nf + 1) cap'] 25)) w3.heap.size 25 [.slice (some ⟨g', 0, none⟩) (nf + 1) cap']) := ⟨Blk.new w3 _ _⟩
                      have HX6 := Aside0.mk (below_alloc HX5.out (.cells #[.slice (some ⟨g', 0, none⟩) (nf + 1) cap'] 25))
                      clear HX5
                      refine hK.out _ _ (HS5.out _ HX6.out) (fun hHeld => ?_)
                      clear hK K
                      refine norm_ (a' := ?_) ?_ ?_
                      rotate_left
                      · show Act.put _ (some 60) _ = _
                        simp only [Act.put, List.setIfInBounds_toArray, List.set_cons_zero, List.set_cons_succ, i64_w, i32_w]
                        rfl
                      refine last_ (i := 14) (N := some 61) #[true, true, true, true, true, true, true, true, true, true, true, true, true, true, true, false, false] rfl rfl (by kernel_rfl) (by decide) (fun K hK => ?_)
                      refine on_ (by rfl) ?_
                      refine wp_app (Kd.slice 2 (Kd.int .i64)) w.heap.size (.tmp 51) (.tmp 60) 65 25 (.slice none 0 0) 24 (by rfl) Try.underlying65 infoIs rfl (by decide) (.slice (some ⟨gf, 0, none⟩) LJ.length cf) (LJ.map (·.2)) (x.2 ++ [(m : Int)]) [.slice (some ⟨g', 0, none⟩) (nf + 1) cap'] (fun _ => True) (fun k_ => w5.heap.size ≤ k_) (by rfl) (w3.heap.size) 25 (by rfl) HBF.out ⟨_, rfl, Kd.R_alloc HU.out _⟩ (fun k_ hk => ⟨trivial, fun e_ => by have h_ := HGF5.out; simp [Value.ownBlock] at e_; omega⟩) (fun _ _ => trivial) (Kd.R_below HF5.out.1 HX6.out) (Below.size (below_step HF5.out.2 HX6.out)) (by have h_ := HLL.out; rw [List.length_map]; omega) (by have h_ := HLL.out; rw [List.length_map]; unfold maxLen; omega) ?_
                      intro g6 c6 w4 hR6 hg6 hat6
                      have HNF : Aside0 (Fd w w4 g5 c5s g6 c6 (LJ ++ [(y, x.2 ++ [(m : Int)])])) := ⟨⟨by have h_ := sheets_far (Kd.R_below HR1.out HX6.out) (Kd.R_below HF5.out.1 HX6.out) hg6; rw [List.map_append, List.length_append]; rw [List.length_map] at h_; exact h_, by rw [List.map_append, List.length_append]; rw [List.length_map] at hR6; exact hR6, pw_below_grown (below_step HF5.out.2 HX6.out) _ (Below.size (below_step HF5.out.2 HX6.out)) hg6 (fun k_ e_ => Kd.R_base HF5.out.1 k_ e_)⟩⟩
                      clear hR6 hg6 hat6
                      skip
                      refine hK.out _ _ ?_
                      clear hK K
                      refine norm_ (a' := ?_) ?_ ?_
                      rotate_left
                      · show Act.put _ (some 61) _ = _
                        simp only [Act.put, List.setIfInBounds_toArray, List.set_cons_zero, List.set_cons_succ, i64_w, i32_w]
                        rfl
                      refine pure_ (i := 15) (N := some 4) (v := ?_) (a' := ?_) #[true, true, true, true, true, true, true, true, true, true, true, true, true, true, true, true, false] rfl rfl (by kernel_rfl) (fun _ _ _ h => h) (Or.inl ⟨by rfl, ?_⟩) ?_ ?_
                      rotate_left
                      · intro w'
                        go_simp
                        with_reducible rfl
                      rotate_left
                      · simp only [Act.put, List.setIfInBounds_toArray, List.set_cons_zero, List.set_cons_succ, i64_w, i32_w]
                        rfl
                      refine pure_ (i := 16) (N := some 5) (v := ?_) (a' := ?_) #[true, true, true, true, true, true, true, true, true, true, true, true, true, true, true, true, true] rfl rfl (by kernel_rfl) (fun _ _ _ h => h) (Or.inl ⟨by rfl, ?_⟩) ?_ ?_
                      rotate_left
                      · intro w'
                        go_simp
                        with_reducible rfl
                      rotate_left
                      · simp only [Act.put, List.setIfInBounds_toArray, List.set_cons_zero, List.set_cons_succ, i64_w, i32_w]
                        rfl
                      refine done_ (by kernel_rfl) ?_
                      go_wp2
                      go_roundw
                      case rel => first | exact ⟨m + 1, g5, c5s, g6, c6, by omega, by go_num, by first | (rw [HJ1.out, List.length_append, List.length_map]; rfl) | (rw [HJ1.out, List.length_append]; first | rfl | (rw [List.length_map]; rfl)), by first | (rw [HJ1.out, List.length_append, List.length_map]; rfl) | (rw [HJ1.out, List.length_append]; first | rfl | (rw [List.length_map]; rfl)), ⟨by rw [HJ1.out]; exact HNF.out⟩⟩ | exact ⟨m + 1, by omega, by go_num, g5, c5s, g6, c6, ⟨rfl, by rw [HJ1.out, List.length_append]; simp, rfl⟩, ⟨rfl, by rw [HJ1.out, List.length_append]; simp, rfl⟩, ⟨by rw [HJ1.out]; exact HNF.out⟩⟩ | (refine ⟨m + 1, by omega, by go_num, g5, c5s, g6, c6, ?_, ?_⟩; (simp [HJ1.out]; done); exact ⟨by rw [HJ1.out]; exact HNF.out⟩)
                      case measure => simp [intOf] <;> omega
                  · refine value_ (v := ?_) (w1 := ?_) (by rfl) rfl ?_ ?_
                    rotate_left
                    rotate_left
                    · go_simp
                      first | (refine ⟨?_, ?_⟩ <;> rfl) | rfl
                    replace HBS : Aside0 (Blk ((w0.alloc (.cells #[.int .i16 y.f0, .int .i16 y.f1, .int .i16 y.f2] 26)).alloc (.cells #[.int .i64 (m : Int)] 2)) (w0.heap.size) 26 [.int .i16 y.f0, .int .i16 y.f1, .int .i16 y.f2]) := ⟨HBS.out.alloc _⟩
                    have HBJ : Aside0 (Blk ((w0.alloc (.cells #[.int .i16 y.f0, .int .i16 y.f1, .int .i16 y.f2] 26)).alloc (.cells #[.int .i64 (m : Int)] 2)) (w0.heap.size + 1) 2 [.int .i64 (m : Int)]) := ⟨by have h_ := Blk.new ((w0.alloc (.cells #[.int .i16 y.f0, .int .i16 y.f1, .int .i16 y.f2] 26))) 2 [.int .i64 (m : Int)]; simpa using h_⟩
                    have HX2 := Aside0.mk (below_alloc HX1.out (.cells #[.int .i64 (m : Int)] 2))
                    clear HX1
                    refine hK.out _ _ (HS.out _ HX2.out) (fun hHeld => ?_)
                    clear hK K
                    refine norm_ (a' := ?_) ?_ ?_
                    rotate_left
                    · show Act.put _ (some 58) _ = _
                      simp only [Act.put, List.setIfInBounds_toArray, List.set_cons_zero, List.set_cons_succ, i64_w, i32_w]
                      rfl
                    refine one_ (i := 3) (N := some 50) #[true, true, true, true, true, true, true, true, true, false, true, true, false, false, false, false, false] rfl rfl (by kernel_rfl) (by decide) (fun K hK => ?_)
                    refine on_ (by rfl) ?_
                    refine wp_app k26 w.heap.size (.tmp 47) (.tmp 49) 64 26 (.agg #[(.int .i16 0), (.int .i16 0), (.int .i16 0)]) 6 (by rfl) Try.underlying64 infoSh rfl (by decide) (.slice (some ⟨gs, 0, none⟩) LJ.length cs) (LJ.map (·.1)) y [.int .i16 y.f0, .int .i16 y.f1, .int .i16 y.f2] (fun _ => True) (fun _ => False) (by rfl) ((w0.heap.size)) 26 (by rfl) HBS.out (k26_mkM _ w.heap.size _ y) (fun _ h => h.elim) (fun _ _ => trivial) (Kd.R_below HFd0.out.1 HX2.out) (Below.size (below_step HFd0.out.2.2 HX2.out)) (by have h_ := HLL.out; rw [List.length_map]; omega) (by have h_ := HLL.out; rw [List.length_map]; unfold maxLen; omega) ?_
                    intro g5 c5s w5 hR5 hg5 hat5
                    have HF5 := Aside0.mk ((HFd0.out.below HX2.out).far (g' := 0) (c' := 0) (n' := 0) (xs := []) hg5)
                    have HK5 : Aside0 (w5.cell? ⟨wd.heap.size, 0, none⟩ = some (.int .i16 y.f0) ∧ w5.cell? ⟨wd.heap.size, 1, none⟩ = some (.int .i16 y.f1) ∧ w5.cell? ⟨wd.heap.size, 2, none⟩ = some (.int .i16 y.f2) ∧ w5.cell? ⟨gf, k, none⟩ = some (.slice A5 nf c5)) := ⟨have hn1 : some wd.heap.size ≠ (Value.slice (some ⟨gs, 0, none⟩) LJ.length cs).ownBlock := (by intro e_; have h_ := HGS.out; simp [Value.ownBlock] at e_; omega); have hn2 : some gf ≠ (Value.slice (some ⟨gs, 0, none⟩) LJ.length cs).ownBlock := (by intro e_; have h_ := HNE.out; simp [Value.ownBlock] at e_; exact h_ e_.symm); ⟨cell_grown hg5 hn1 hHeld.1, cell_grown hg5 hn1 hHeld.2.1, cell_grown hg5 hn1 hHeld.2.2.1, cell_grown hg5 hn2 hHeld.2.2.2⟩⟩
                    replace HBJ : Aside0 (Blk w5 (w0.heap.size + 1) 2 [.int .i64 (m : Int)]) := ⟨HBJ.out.grown hg5 (by intro e_; have h_ := HGS0.out; simp [Value.ownBlock] at e_; omega)⟩
                    have HS5 : Aside0 (∀ W : World, Below w5.heap.size w5 W → W.cell? ⟨wd.heap.size, 0, none⟩ = some (.int .i16 y.f0) ∧ W.cell? ⟨wd.heap.size, 1, none⟩ = some (.int .i16 y.f1) ∧ W.cell? ⟨wd.heap.size, 2, none⟩ = some (.int .i16 y.f2) ∧ W.cell? ⟨gf, k, none⟩ = some (.slice A5 nf c5)) := ⟨fun W hb => ⟨pw_cell_below hb HK5.out.1, pw_cell_below hb HK5.out.2.1, pw_cell_below hb HK5.out.2.2.1, pw_cell_below hb HK5.out.2.2.2⟩⟩
                    have HC5 : Aside0 ((Kd.int .i64).C w5 A5 x.2.length x.2) := ⟨(foldsC HF5.out.1 HLJk.out HK5.out.2.2.2).2⟩
                    have HCL : Aside0 (∀ W, Below w5.heap.size w5 W → Calls Try.prog 68 #[.slice A5 nf c5] W fun e w' => ∃ v0_ : Value, e = .returned v0_ ∧ Kd.R (Kd.int .i64) 2 w' W.heap.size (fun _ => True) v0_ x.2 ∧ Below W.heap.size W w') := ⟨fun W hb => by have h_ := Kd.C_below HC5.out hb; rw [← HF.out]; exact slices_Clone_int64_int64.calls A5 c5 x.2 x.2 W h_ (by rw [HF.out]; exact HC9.out) (clone_f (by rw [HF.out]; omega))⟩
                    have HR1 := Aside0.mk hR5
                    have HGF5 : Aside0 (gf < w5.heap.size) := ⟨Kd.R_lt HF5.out.1 gf rfl⟩
                    have HX3 : Aside0 (Below w5.heap.size w5 w5) := ⟨Below.refl _ _⟩
                    clear HX2 HBS hR5 hg5 hat5
                    refine hK.out _ _ (HS5.out _ HX3.out) (fun hHeld => ?_)
                    clear hK K
                    refine norm_ (a' := ?_) ?_ ?_
                    rotate_left
                    · show Act.put _ (some 50) _ = _
                      simp only [Act.put, List.setIfInBounds_toArray, List.set_cons_zero, List.set_cons_succ, i64_w, i32_w]
                      rfl
                    refine one_ (i := 9) (N := some 56) #[true, true, true, true, true, true, true, true, true, true, true, true, false, false, false, false, false] rfl rfl (by kernel_rfl) (by decide) (fun K hK => ?_)
                    refine goes_ Try.func68 (by kernel_rfl) rfl #[.slice A5 nf c5] (by rfl) rfl rfl (by (try simp only [List.map_toArray, List.map_cons, List.map_nil]); first | done | rfl) ?_
                    refine (HCL.out _ HX3.out).mono ?_
                    rintro e wq ⟨vq, rfl, hRq, hbq⟩
                    refine ⟨_, rfl, ?_⟩
                    have HQ : Aside0 (wq.ownsRow w5.heap.size 2 1 vq nf (nums .i64 x.2)) := ⟨by have h_ := own_weaken (base' := w5.heap.size) (Kd.own_of_R hRq) (Below.size HX3.out); rw [HF.out] at h_; exact h_⟩
                    replace HBJ := Aside0.mk (HBJ.out.below hbq)
                    have HX4 := Aside0.mk (below_step HX3.out hbq)
                    clear HX3
                    refine hK.out _ _ (HS5.out _ HX4.out) (fun hHeld => ?_)
                    clear hK K hRq hbq
                    refine norm_ (a' := ?_) ?_ ?_
                    rotate_left
                    · show Act.put _ (some 56) _ = _
                      simp only [Act.put, List.setIfInBounds_toArray, List.set_cons_zero, List.set_cons_succ, i64_w, i32_w]
                      rfl
                    refine one_ (i := 12) (N := some 59) #[true, true, true, true, true, true, true, true, true, true, true, true, true, false, false, false, false] rfl rfl (by kernel_rfl) (by decide) (fun K hK => ?_)
                    refine on_ (by rfl) ?_
                    refine wp_append_lies _ _ _ 25 (by rfl) w5.heap.size 2 i0 _ 1 8 Try.underlying25 HI.out.1 HI.out.2.1 HI.out.2.2.1 HI.out.2.2.2 (by rfl) (by decide) _ nf (nums .i64 x.2) (by rfl) HQ.out ⟨(w0.heap.size + 1), 0, none⟩ 1 1 [.int .i64 (m : Int)] (by rfl) (by rfl) (World.news_of_block HBJ.out) (by intro u hu; simp at hu; subst hu; rfl) (by decide) (by unfold maxLen; omega) (by omega) (Below.size HX4.out) _ rfl ?_
                    intro g' cap' w3 hown hgrow hat hlt'
                    have HU : Aside0 ((Kd.int .i64).R 2 w3 w.heap.size (fun k_ => w5.heap.size ≤ k_) (.slice (some ⟨g', 0, none⟩) (nf + 1) cap') (x.2 ++ [(m : Int)])) := ⟨Kd.R_of_own (by have h_ := own_weaken (base' := w.heap.size) hown (Below.size HF5.out.2); rw [nums_snoc] at h_; rw [List.length_append, HF.out]; exact h_) (fun k_ e_ => own_base hown k_ e_)⟩
                    have HX5 := Aside0.mk (pw_below_grown HX4.out _ (Below.size HX4.out) hgrow (fun k_ e_ => own_base HQ.out k_ e_))
                    clear HX4
                    clear hown hgrow hat hlt' HQ HBJ
                    refine hK.out _ _ (HS5.out _ HX5.out) (fun hHeld => ?_)
                    clear hK K
                    refine norm_ (a' := ?_) ?_ ?_
                    rotate_left
                    · show Act.put _ (some 59) _ = _
                      simp only [Act.put, List.setIfInBounds_toArray, List.set_cons_zero, List.set_cons_succ, i64_w, i32_w]
                      rfl
                    refine one_ (i := 13) (N := some 60) #[true, true, true, true, true, true, true, true, true, true, true, true, true, true, false, false, false] rfl rfl (by kernel_rfl) (by decide) (fun K hK => ?_)
                    refine value_ (v := ?_) (w1 := ?_) (by rfl) rfl ?_ ?_
                    rotate_left
                    rotate_left
                    · go_simp
                      first | (refine ⟨?_, ?_⟩ <;> rfl) | rfl
                    have HBF : Aside0 (Blk (w3.alloc (.cells #[.slice (some ⟨g', 0, none⟩) (nf + 1) cap'] 25)) w3.heap.size 25 [.slice (some ⟨g', 0, none⟩) (nf + 1) cap']) := ⟨Blk.new w3 _ _⟩
                    have HX6 := Aside0.mk (below_alloc HX5.out (.cells #[.slice (some ⟨g', 0, none⟩) (nf + 1) cap'] 25))
                    clear HX5
                    refine hK.out _ _ (HS5.out _ HX6.out) (fun hHeld => ?_)
                    clear hK K
                    refine norm_ (a' := ?_) ?_ ?_
                    rotate_left
                    · show Act.put _ (some 60) _ = _
                      simp only [Act.put, List.setIfInBounds_toArray, List.set_cons_zero, List.set_cons_succ, i64_w, i32_w]
                      rfl
                    refine last_ (i := 14) (N := some 61) #[true, true, true, true, true, true, true, true, true, true, true, true, true, true, true, false, false] rfl rfl (by kernel_rfl) (by decide) (fun K hK => ?_)
                    refine on_ (by rfl) ?_
                    refine wp_app (Kd.slice 2 (Kd.int .i64)) w.heap.size (.tmp 51) (.tmp 60) 65 25 (.slice none 0 0) 24 (by rfl) Try.underlying65 infoIs rfl (by decide) (.slice (some ⟨gf, 0, none⟩) LJ.length cf) (LJ.map (·.2)) (x.2 ++ [(m : Int)]) [.slice (some ⟨g', 0, none⟩) (nf + 1) cap'] (fun _ => True) (fun k_ => w5.heap.size ≤ k_) (by rfl) (w3.heap.size) 25 (by rfl) HBF.out ⟨_, rfl, Kd.R_alloc HU.out _⟩ (fun k_ hk => ⟨trivial, fun e_ => by have h_ := HGF5.out; simp [Value.ownBlock] at e_; omega⟩) (fun _ _ => trivial) (Kd.R_below HF5.out.1 HX6.out) (Below.size (below_step HF5.out.2 HX6.out)) (by have h_ := HLL.out; rw [List.length_map]; omega) (by have h_ := HLL.out; rw [List.length_map]; unfold maxLen; omega) ?_
                    intro g6 c6 w4 hR6 hg6 hat6
                    have HNF : Aside0 (Fd w w4 g5 c5s g6 c6 (LJ ++ [(y, x.2 ++ [(m : Int)])])) := ⟨⟨by have h_ := sheets_far (Kd.R_below HR1.out HX6.out) (Kd.R_below HF5.out.1 HX6.out) hg6; rw [List.map_append, List.length_append]; rw [List.length_map] at h_; exact h_, by rw [List.map_append, List.length_append]; rw [List.length_map] at hR6; exact hR6, pw_below_grown (below_step HF5.out.2 HX6.out) _ (Below.size (below_step HF5.out.2 HX6.out)) hg6 (fun k_ e_ => Kd.R_base HF5.out.1 k_ e_)⟩⟩
                    clear hR6 hg6 hat6
                    skip
                    refine hK.out _ _ ?_
                    clear hK K
                    refine norm_ (a' := ?_) ?_ ?_
                    rotate_left
                    · show Act.put _ (some 61) _ = _
                      simp only [Act.put, List.setIfInBounds_toArray, List.set_cons_zero, List.set_cons_succ, i64_w, i32_w]
                      rfl
                    refine pure_ (i := 15) (N := some 4) (v := ?_) (a' := ?_) #[true, true, true, true, true, true, true, true, true, true, true, true, true, true, true, true, false] rfl rfl (by kernel_rfl) (fun _ _ _ h => h) (Or.inl ⟨by rfl, ?_⟩) ?_ ?_
                    rotate_left
                    · intro w'
                      go_simp
                      with_reducible rfl
                    rotate_left
                    · simp only [Act.put, List.setIfInBounds_toArray, List.set_cons_zero, List.set_cons_succ, i64_w, i32_w]
                      rfl
                    refine pure_ (i := 16) (N := some 5) (v := ?_) (a' := ?_) #[true, true, true, true, true, true, true, true, true, true, true, true, true, true, true, true, true] rfl rfl (by kernel_rfl) (fun _ _ _ h => h) (Or.inl ⟨by rfl, ?_⟩) ?_ ?_
                    rotate_left
                    · intro w'
                      go_simp
                      with_reducible rfl
                    rotate_left
                    · simp only [Act.put, List.setIfInBounds_toArray, List.set_cons_zero, List.set_cons_succ, i64_w, i32_w]
                      rfl
                    refine done_ (by kernel_rfl) ?_
                    go_wp2
                    go_roundw
                    case rel => first | exact ⟨m + 1, g5, c5s, g6, c6, by omega, by go_num, by first | (rw [HJ1.out, List.length_append, List.length_map]; rfl) | (rw [HJ1.out, List.length_append]; first | rfl | (rw [List.length_map]; rfl)), by first | (rw [HJ1.out, List.length_append, List.length_map]; rfl) | (rw [HJ1.out, List.length_append]; first | rfl | (rw [List.length_map]; rfl)), ⟨by rw [HJ1.out]; exact HNF.out⟩⟩ | exact ⟨m + 1, by omega, by go_num, g5, c5s, g6, c6, ⟨rfl, by rw [HJ1.out, List.length_append]; simp, rfl⟩, ⟨rfl, by rw [HJ1.out, List.length_append]; simp, rfl⟩, ⟨by rw [HJ1.out]; exact HNF.out⟩⟩ | (refine ⟨m + 1, by omega, by go_num, g5, c5s, g6, c6, ?_, ?_⟩; (simp [HJ1.out]; done); exact ⟨by rw [HJ1.out]; exact HNF.out⟩)
                    case measure => simp [intOf] <;> omega
                · refine value_ (v := ?_) (w1 := ?_) (by rfl) rfl ?_ ?_
                  rotate_left
                  rotate_left
                  · go_simp
                    first | (refine ⟨?_, ?_⟩ <;> rfl) | rfl
                  have HBJ : Aside0 (Blk (w0.alloc (.cells #[.int .i64 (m : Int)] 2)) (w0.heap.size) 2 [.int .i64 (m : Int)]) := ⟨by have h_ := Blk.new (w0) 2 [.int .i64 (m : Int)]; simpa using h_⟩
                  have HX1 := Aside0.mk (below_alloc HX0.out (.cells #[.int .i64 (m : Int)] 2))
                  clear HX0
                  refine hK.out _ _ (HS.out _ HX1.out) (fun hHeld => ?_)
                  clear hK K
                  refine norm_ (a' := ?_) ?_ ?_
                  rotate_left
                  · show Act.put _ (some 58) _ = _
                    simp only [Act.put, List.setIfInBounds_toArray, List.set_cons_zero, List.set_cons_succ, i64_w, i32_w]
                    rfl
                  refine one_ (i := 2) (N := some 49) #[true, true, true, false, true, true, true, true, true, false, true, true, false, false, false, false, false] rfl rfl (by kernel_rfl) (by decide) (fun K hK => ?_)
                  refine value_ (v := ?_) (w1 := ?_) (by rfl) rfl ?_ ?_
                  rotate_left
                  rotate_left
                  · go_simp
                    first | (refine ⟨?_, ?_⟩ <;> rfl) | rfl
                  replace HBJ : Aside0 (Blk ((w0.alloc (.cells #[.int .i64 (m : Int)] 2)).alloc (.cells #[.int .i16 y.f0, .int .i16 y.f1, .int .i16 y.f2] 26)) (w0.heap.size) 2 [.int .i64 (m : Int)]) := ⟨HBJ.out.alloc _⟩
                  have HBS : Aside0 (Blk ((w0.alloc (.cells #[.int .i64 (m : Int)] 2)).alloc (.cells #[.int .i16 y.f0, .int .i16 y.f1, .int .i16 y.f2] 26)) (w0.heap.size + 1) 26 [.int .i16 y.f0, .int .i16 y.f1, .int .i16 y.f2]) := ⟨by have h_ := Blk.new ((w0.alloc (.cells #[.int .i64 (m : Int)] 2))) 26 [.int .i16 y.f0, .int .i16 y.f1, .int .i16 y.f2]; simpa using h_⟩
                  have HX2 := Aside0.mk (below_alloc HX1.out (.cells #[.int .i16 y.f0, .int .i16 y.f1, .int .i16 y.f2] 26))
                  clear HX1
                  refine hK.out _ _ (HS.out _ HX2.out) (fun hHeld => ?_)
                  clear hK K
                  refine norm_ (a' := ?_) ?_ ?_
                  rotate_left
                  · show Act.put _ (some 49) _ = _
                    simp only [Act.put, List.setIfInBounds_toArray, List.set_cons_zero, List.set_cons_succ, i64_w, i32_w]
                    rfl
                  refine one_ (i := 3) (N := some 50) #[true, true, true, true, true, true, true, true, true, false, true, true, false, false, false, false, false] rfl rfl (by kernel_rfl) (by decide) (fun K hK => ?_)
                  refine on_ (by rfl) ?_
                  refine wp_app k26 w.heap.size (.tmp 47) (.tmp 49) 64 26 (.agg #[(.int .i16 0), (.int .i16 0), (.int .i16 0)]) 6 (by rfl) Try.underlying64 infoSh rfl (by decide) (.slice (some ⟨gs, 0, none⟩) LJ.length cs) (LJ.map (·.1)) y [.int .i16 y.f0, .int .i16 y.f1, .int .i16 y.f2] (fun _ => True) (fun _ => False) (by rfl) ((w0.heap.size + 1)) 26 (by rfl) HBS.out (k26_mkM _ w.heap.size _ y) (fun _ h => h.elim) (fun _ _ => trivial) (Kd.R_below HFd0.out.1 HX2.out) (Below.size (below_step HFd0.out.2.2 HX2.out)) (by have h_ := HLL.out; rw [List.length_map]; omega) (by have h_ := HLL.out; rw [List.length_map]; unfold maxLen; omega) ?_
                  intro g5 c5s w5 hR5 hg5 hat5
                  have HF5 := Aside0.mk ((HFd0.out.below HX2.out).far (g' := 0) (c' := 0) (n' := 0) (xs := []) hg5)
                  have HK5 : Aside0 (w5.cell? ⟨wd.heap.size, 0, none⟩ = some (.int .i16 y.f0) ∧ w5.cell? ⟨wd.heap.size, 1, none⟩ = some (.int .i16 y.f1) ∧ w5.cell? ⟨wd.heap.size, 2, none⟩ = some (.int .i16 y.f2) ∧ w5.cell? ⟨gf, k, none⟩ = some (.slice A5 nf c5)) := ⟨have hn1 : some wd.heap.size ≠ (Value.slice (some ⟨gs, 0, none⟩) LJ.length cs).ownBlock := (by intro e_; have h_ := HGS.out; simp [Value.ownBlock] at e_; omega); have hn2 : some gf ≠ (Value.slice (some ⟨gs, 0, none⟩) LJ.length cs).ownBlock := (by intro e_; have h_ := HNE.out; simp [Value.ownBlock] at e_; exact h_ e_.symm); ⟨cell_grown hg5 hn1 hHeld.1, cell_grown hg5 hn1 hHeld.2.1, cell_grown hg5 hn1 hHeld.2.2.1, cell_grown hg5 hn2 hHeld.2.2.2⟩⟩
                  replace HBJ : Aside0 (Blk w5 (w0.heap.size) 2 [.int .i64 (m : Int)]) := ⟨HBJ.out.grown hg5 (by intro e_; have h_ := HGS0.out; simp [Value.ownBlock] at e_; omega)⟩
                  have HS5 : Aside0 (∀ W : World, Below w5.heap.size w5 W → W.cell? ⟨wd.heap.size, 0, none⟩ = some (.int .i16 y.f0) ∧ W.cell? ⟨wd.heap.size, 1, none⟩ = some (.int .i16 y.f1) ∧ W.cell? ⟨wd.heap.size, 2, none⟩ = some (.int .i16 y.f2) ∧ W.cell? ⟨gf, k, none⟩ = some (.slice A5 nf c5)) := ⟨fun W hb => ⟨pw_cell_below hb HK5.out.1, pw_cell_below hb HK5.out.2.1, pw_cell_below hb HK5.out.2.2.1, pw_cell_below hb HK5.out.2.2.2⟩⟩
                  have HC5 : Aside0 ((Kd.int .i64).C w5 A5 x.2.length x.2) := ⟨(foldsC HF5.out.1 HLJk.out HK5.out.2.2.2).2⟩
                  have HCL : Aside0 (∀ W, Below w5.heap.size w5 W → Calls Try.prog 68 #[.slice A5 nf c5] W fun e w' => ∃ v0_ : Value, e = .returned v0_ ∧ Kd.R (Kd.int .i64) 2 w' W.heap.size (fun _ => True) v0_ x.2 ∧ Below W.heap.size W w') := ⟨fun W hb => by have h_ := Kd.C_below HC5.out hb; rw [← HF.out]; exact slices_Clone_int64_int64.calls A5 c5 x.2 x.2 W h_ (by rw [HF.out]; exact HC9.out) (clone_f (by rw [HF.out]; omega))⟩
                  have HR1 := Aside0.mk hR5
                  have HGF5 : Aside0 (gf < w5.heap.size) := ⟨Kd.R_lt HF5.out.1 gf rfl⟩
                  have HX3 : Aside0 (Below w5.heap.size w5 w5) := ⟨Below.refl _ _⟩
                  clear HX2 HBS hR5 hg5 hat5
                  refine hK.out _ _ (HS5.out _ HX3.out) (fun hHeld => ?_)
                  clear hK K
                  refine norm_ (a' := ?_) ?_ ?_
                  rotate_left
                  · show Act.put _ (some 50) _ = _
                    simp only [Act.put, List.setIfInBounds_toArray, List.set_cons_zero, List.set_cons_succ, i64_w, i32_w]
                    rfl
                  refine one_ (i := 9) (N := some 56) #[true, true, true, true, true, true, true, true, true, true, true, true, false, false, false, false, false] rfl rfl (by kernel_rfl) (by decide) (fun K hK => ?_)
                  refine goes_ Try.func68 (by kernel_rfl) rfl #[.slice A5 nf c5] (by rfl) rfl rfl (by (try simp only [List.map_toArray, List.map_cons, List.map_nil]); first | done | rfl) ?_
                  refine (HCL.out _ HX3.out).mono ?_
                  rintro e wq ⟨vq, rfl, hRq, hbq⟩
                  refine ⟨_, rfl, ?_⟩
                  have HQ : Aside0 (wq.ownsRow w5.heap.size 2 1 vq nf (nums .i64 x.2)) := ⟨by have h_ := own_weaken (base' := w5.heap.size) (Kd.own_of_R hRq) (Below.size HX3.out); rw [HF.out] at h_; exact h_⟩
                  replace HBJ := Aside0.mk (HBJ.out.below hbq)
                  have HX4 := Aside0.mk (below_step HX3.out hbq)
                  clear HX3
                  refine hK.out _ _ (HS5.out _ HX4.out) (fun hHeld => ?_)
                  clear hK K hRq hbq
                  refine norm_ (a' := ?_) ?_ ?_
                  rotate_left
                  · show Act.put _ (some 56) _ = _
                    simp only [Act.put, List.setIfInBounds_toArray, List.set_cons_zero, List.set_cons_succ, i64_w, i32_w]
                    rfl
                  refine one_ (i := 12) (N := some 59) #[true, true, true, true, true, true, true, true, true, true, true, true, true, false, false, false, false] rfl rfl (by kernel_rfl) (by decide) (fun K hK => ?_)
                  refine on_ (by rfl) ?_
                  refine wp_append_lies _ _ _ 25 (by rfl) w5.heap.size 2 i0 _ 1 8 Try.underlying25 HI.out.1 HI.out.2.1 HI.out.2.2.1 HI.out.2.2.2 (by rfl) (by decide) _ nf (nums .i64 x.2) (by rfl) HQ.out ⟨(w0.heap.size), 0, none⟩ 1 1 [.int .i64 (m : Int)] (by rfl) (by rfl) (World.news_of_block HBJ.out) (by intro u hu; simp at hu; subst hu; rfl) (by decide) (by unfold maxLen; omega) (by omega) (Below.size HX4.out) _ rfl ?_
                  intro g' cap' w3 hown hgrow hat hlt'
                  have HU : Aside0 ((Kd.int .i64).R 2 w3 w.heap.size (fun k_ => w5.heap.size ≤ k_) (.slice (some ⟨g', 0, none⟩) (nf + 1) cap') (x.2 ++ [(m : Int)])) := ⟨Kd.R_of_own (by have h_ := own_weaken (base' := w.heap.size) hown (Below.size HF5.out.2); rw [nums_snoc] at h_; rw [List.length_append, HF.out]; exact h_) (fun k_ e_ => own_base hown k_ e_)⟩
                  have HX5 := Aside0.mk (pw_below_grown HX4.out _ (Below.size HX4.out) hgrow (fun k_ e_ => own_base HQ.out k_ e_))
                  clear HX4
                  clear hown hgrow hat hlt' HQ HBJ
                  refine hK.out _ _ (HS5.out _ HX5.out) (fun hHeld => ?_)
                  clear hK K
                  refine norm_ (a' := ?_) ?_ ?_
                  rotate_left
                  · show Act.put _ (some 59) _ = _
                    simp only [Act.put, List.setIfInBounds_toArray, List.set_cons_zero, List.set_cons_succ, i64_w, i32_w]
                    rfl
                  refine one_ (i := 13) (N := some 60) #[true, true, true, true, true, true, true, true, true, true, true, true, true, true, false, false, false] rfl rfl (by kernel_rfl) (by decide) (fun K hK => ?_)
                  refine value_ (v := ?_) (w1 := ?_) (by rfl) rfl ?_ ?_
                  rotate_left
                  rotate_left
                  · go_simp
                    first | (refine ⟨?_, ?_⟩ <;> rfl) | rfl
                  have HBF : Aside0 (Blk (w3.alloc (.cells #[.slice (some ⟨g', 0, none⟩) (nf + 1) cap'] 25)) w3.heap.size 25 [.slice (some ⟨g', 0, none⟩) (nf + 1) cap']) := ⟨Blk.new w3 _ _⟩
                  have HX6 := Aside0.mk (below_alloc HX5.out (.cells #[.slice (some ⟨g', 0, none⟩) (nf + 1) cap'] 25))
                  clear HX5
                  refine hK.out _ _ (HS5.out _ HX6.out) (fun hHeld => ?_)
                  clear hK K
                  refine norm_ (a' := ?_) ?_ ?_
                  rotate_left
                  · show Act.put _ (some 60) _ = _
                    simp only [Act.put, List.setIfInBounds_toArray, List.set_cons_zero, List.set_cons_succ, i64_w, i32_w]
                    rfl
                  refine last_ (i := 14) (N := some 61) #[true, true, true, true, true, true, true, true, true, true, true, true, true, true, true, false, false] rfl rfl (by kernel_rfl) (by decide) (fun K hK => ?_)
                  refine on_ (by rfl) ?_
                  refine wp_app (Kd.slice 2 (Kd.int .i64)) w.heap.size (.tmp 51) (.tmp 60) 65 25 (.slice none 0 0) 24 (by rfl) Try.underlying65 infoIs rfl (by decide) (.slice (some ⟨gf, 0, none⟩) LJ.length cf) (LJ.map (·.2)) (x.2 ++ [(m : Int)]) [.slice (some ⟨g', 0, none⟩) (nf + 1) cap'] (fun _ => True) (fun k_ => w5.heap.size ≤ k_) (by rfl) (w3.heap.size) 25 (by rfl) HBF.out ⟨_, rfl, Kd.R_alloc HU.out _⟩ (fun k_ hk => ⟨trivial, fun e_ => by have h_ := HGF5.out; simp [Value.ownBlock] at e_; omega⟩) (fun _ _ => trivial) (Kd.R_below HF5.out.1 HX6.out) (Below.size (below_step HF5.out.2 HX6.out)) (by have h_ := HLL.out; rw [List.length_map]; omega) (by have h_ := HLL.out; rw [List.length_map]; unfold maxLen; omega) ?_
                  intro g6 c6 w4 hR6 hg6 hat6
                  have HNF : Aside0 (Fd w w4 g5 c5s g6 c6 (LJ ++ [(y, x.2 ++ [(m : Int)])])) := ⟨⟨by have h_ := sheets_far (Kd.R_below HR1.out HX6.out) (Kd.R_below HF5.out.1 HX6.out) hg6; rw [List.map_append, List.length_append]; rw [List.length_map] at h_; exact h_, by rw [List.map_append, List.length_append]; rw [List.length_map] at hR6; exact hR6, pw_below_grown (below_step HF5.out.2 HX6.out) _ (Below.size (below_step HF5.out.2 HX6.out)) hg6 (fun k_ e_ => Kd.R_base HF5.out.1 k_ e_)⟩⟩
                  clear hR6 hg6 hat6
                  skip
                  refine hK.out _ _ ?_
                  clear hK K
                  refine norm_ (a' := ?_) ?_ ?_
                  rotate_left
                  · show Act.put _ (some 61) _ = _
                    simp only [Act.put, List.setIfInBounds_toArray, List.set_cons_zero, List.set_cons_succ, i64_w, i32_w]
                    rfl
                  refine pure_ (i := 15) (N := some 4) (v := ?_) (a' := ?_) #[true, true, true, true, true, true, true, true, true, true, true, true, true, true, true, true, false] rfl rfl (by kernel_rfl) (fun _ _ _ h => h) (Or.inl ⟨by rfl, ?_⟩) ?_ ?_
                  rotate_left
                  · intro w'
                    go_simp
                    with_reducible rfl
                  rotate_left
                  · simp only [Act.put, List.setIfInBounds_toArray, List.set_cons_zero, List.set_cons_succ, i64_w, i32_w]
                    rfl
                  refine pure_ (i := 16) (N := some 5) (v := ?_) (a' := ?_) #[true, true, true, true, true, true, true, true, true, true, true, true, true, true, true, true, true] rfl rfl (by kernel_rfl) (fun _ _ _ h => h) (Or.inl ⟨by rfl, ?_⟩) ?_ ?_
                  rotate_left
                  · intro w'
                    go_simp
                    with_reducible rfl
                  rotate_left
                  · simp only [Act.put, List.setIfInBounds_toArray, List.set_cons_zero, List.set_cons_succ, i64_w, i32_w]
                    rfl
                  refine done_ (by kernel_rfl) ?_
                  go_wp2
                  go_roundw
                  case rel => first | exact ⟨m + 1, g5, c5s, g6, c6, by omega, by go_num, by first | (rw [HJ1.out, List.length_append, List.length_map]; rfl) | (rw [HJ1.out, List.length_append]; first | rfl | (rw [List.length_map]; rfl)), by first | (rw [HJ1.out, List.length_append, List.length_map]; rfl) | (rw [HJ1.out, List.length_append]; first | rfl | (rw [List.length_map]; rfl)), ⟨by rw [HJ1.out]; exact HNF.out⟩⟩ | exact ⟨m + 1, by omega, by go_num, g5, c5s, g6, c6, ⟨rfl, by rw [HJ1.out, List.length_append]; simp, rfl⟩, ⟨rfl, by rw [HJ1.out, List.length_append]; simp, rfl⟩, ⟨by rw [HJ1.out]; exact HNF.out⟩⟩ | (refine ⟨m + 1, by omega, by go_num, g5, c5s, g6, c6, ?_, ?_⟩; (simp [HJ1.out]; done); exact ⟨by rw [HJ1.out]; exact HNF.out⟩)
                  case measure => simp [intOf] <;> omega
            · have hm2 : bTry mkS x LJ (m : Int) = LJ := by unfold bTry; rw [HMK.out, if_neg hcode]
              rw [hm2] at HJ1
              clear HCD hsm HMK
              have hc3 : (r3 == 0) = false := beq_eq_false_iff_ne.2 hcode
              go_wp2_with (first | (go_at_call 57; refine (HMD.out _).mono ?_; rintro e wd ⟨rfl, hb⟩; have HNd0 := Aside0.mk (HN.out.below hb); have HGS : Aside0 (gs < wd.heap.size) := ⟨HNd0.out.lt.1⟩; clear hb HN e0 e1 e2 e3) | (refine wl_store (by rfl) 26 _ _ (by rfl) (wd.heap.size) 0 (by rfl) 26 3 [.int .i16 0, .int .i16 0, .int .i16 0] [.int .i16 r0, .int .i16 r1, .int .i16 r2] (by rfl) (Blk.new wd 26 [.int .i16 0, .int .i16 0, .int .i16 0]) (by rfl) (by decide) (by kernel_rfl) (by rfl) ?_; intro ws hBs hgs; have HNs := Aside0.mk (HNd0.out.below (stored_below hgs)); have HBs : Aside0 (Blk ws wd.heap.size 26 [.int .i16 r0, .int .i16 r1, .int .i16 r2]) := ⟨Blk.all hBs (by decide)⟩; clear hBs hgs HNd0))
              go_roundw
              case rel => first | exact ⟨m + 1, gs, cs, gf, cf, by omega, by go_num, by rw [HJ1.out], by rw [HJ1.out], ⟨by rw [HJ1.out]; exact HNs.out⟩⟩ | (refine ⟨m + 1, by omega, by go_num, gs, cs, gf, cf, ?_, ?_⟩; (simp [HJ1.out]; done); exact ⟨by rw [HJ1.out]; exact HNs.out⟩)
              case measure => simp [intOf] <;> omega
          · have hm4e : m = 4 := by omega
            have hm4i : ¬ (m : Int) ≤ 3 := by omega
            go_wp2
            go_roundw
            case rel => exact ⟨k + 1, gs, cs, gf, cf, by omega, by go_num, by rw [HEX.out, hm4e], by rw [HEX.out, hm4e], ⟨by rw [HEX.out, ← hm4e]; exact HN.out⟩⟩
            case measure => simp [intOf] <;> omega
    · obtain rfl : k = K := by omega
      have hki : ¬ (k : Int) < ((bN mkS s k).length : Int) := by omega
      have HFIN : Aside0 (Fd w wo gs cs gf cf (allS s)) := ⟨by rw [HA.out]; exact HN.out⟩
      have HLN : Aside0 ((allS s).length = k) := ⟨by rw [HA.out]; exact hKl⟩
      have HRF : Aside0 (Kd.R k26 26 wo w.heap.size (fun _ => True) (.slice (some ⟨gs, 0, none⟩) k cs) ((allS s).map (·.1)) ∧ Kd.R (Kd.slice 2 (Kd.int .i64)) 25 wo w.heap.size (fun _ => True) (.slice (some ⟨gf, 0, none⟩) k cf) ((allS s).map (·.2))) := ⟨by
        have h_ := HFIN.out
        unfold Fd at h_
        rw [HLN.out] at h_
        exact ⟨h_.1, h_.2.1⟩⟩
      go_wp2
      go_ret2
      exact ⟨_, _, rfl, HRF.out.1, HRF.out.2, HFIN.out.2.2⟩
end Go.Proofs.Ytjegcpagdpjidaa.X
