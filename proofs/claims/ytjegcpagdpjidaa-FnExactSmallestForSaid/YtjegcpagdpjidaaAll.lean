/- Contracts of functions, and plain facts: what each call answers, and what it leaves as it was. -/
import Derived.Test.YtjegcpagdpjidaaNd
import Derived.Test.YtjegcpagdpjidaaF3
import Derived.Test.YtjegcpagdpjidaaHSeq
import Derived.Test.YtjegcpagdpjidaaX5
import Derived.Test.YtjegcpagdpjidaaX6
set_option linter.unusedVariables false
set_option linter.unusedSimpArgs false
namespace Go.Proofs.Ytjegcpagdpjidaa.X
open Go.RowKit Go.Proofs.YtjegcpagdpjidaaW.PrintWords Go.Proofs.YtjegcpagdpjidaaW.PrintLast Go.Proofs.YtjegcpagdpjidaaW.PrintMore
attribute [local go_sem] max2_int min2_int max_two min_two max_three min_three max_four min_four
set_option maxHeartbeats 8000000 in
set_option maxRecDepth 100000 in
theorem l04All_calls (s : S26) (hs : ShS s) (w : World) :
    Calls Try.prog 40 #[.agg #[.int .i16 s.f0, .int .i16 s.f1, .int .i16 s.f2]] w fun e w' => ∃ v0_ : Value, e = .returned v0_ ∧ Kd.R k63 63 w' w.heap.size (fun _ => True) v0_ ((allS s).map nd) ∧ Below w.heap.size w w' := by
  obtain ⟨K, hA, hKM, hKl, hKk⟩ := allK_ex hs
  have HSH := Aside0.mk (bN_sh hs)
  have HMX := Aside0.mk (bN_M hs)
  have HDP := Aside0.mk (fun k => (bN_deep mkS s k).2.2)
  obtain ⟨i0, hi_, hz0, hz1, hz2⟩ := info_parts infoI64
  have HI := Aside0.mk (And.intro hi_ (And.intro hz0 (And.intro hz1 hz2)))
  have HA := Aside0.mk hA
  have HKK := Aside0.mk hKk
  rw [hA] at hKl
  have hu26 := Try.underlying26
  have HB0 := Aside0.mk (Blk.new w 26 [.int .i16 s.f0, .int .i16 s.f1, .int .i16 s.f2])
  have c0 := HB0.out.cell 0 (v := .int .i16 s.f0) rfl
  have c1 := HB0.out.cell 1 (v := .int .i16 s.f1) rfl
  have c2 := HB0.out.cell 2 (v := .int .i16 s.f2) rfl
  have HN0 : Aside0 (Nd w (((w.alloc (.cells #[.int .i16 s.f0, .int .i16 s.f1, .int .i16 s.f2] 26)).alloc (.cells #[] 2)).alloc (.cells #[.int .i16 s.f0, .int .i16 s.f1, .int .i16 s.f2, .slice (some ⟨w.heap.size + 1, 0, none⟩) 0 0] 63)) (w.heap.size + 1 + 1) 1 (bN mkS s 0)) := ⟨by
    have h_ := Nd.start (w := w) (W := (w.alloc (.cells #[.int .i16 s.f0, .int .i16 s.f1, .int .i16 s.f2] 26)).alloc (.cells #[] 2)) (s := s) (q := w.heap.size + 1) (below_alloc (below_alloc (Below.refl _ _) _) _) (Kd.R_of_own (by
      have h2_ := World.ownsRow_made (w.alloc (.cells #[.int .i16 s.f0, .int .i16 s.f1, .int .i16 s.f2] 26)) (base := w.heap.size) (e := 2) (size := 1) #[] 0 (by simp) (by decide) (by rfl)
      simpa [encs] using h2_) (fun _ _ => trivial))
    simpa [bN] using h_⟩
  clear hA hKk hi_ hz0 hz1 hz2 HB0
  go_enter Try.func40, Try.ntmps40
  go_wp2
  go_loopw [3, 4] (fun v3 v4 w' => ∃ (k go co : Nat), k ≤ K ∧ v4 = .int .i64 k ∧ v3 = .slice (some ⟨go, 0, none⟩) (bN mkS s k).length co ∧ Aside0 (Nd w w' go co (bN mkS s k))) (fun _ v4 _ => K - (intOf v4).toNat)
  case atStart => exact ⟨0, _, 1, by omega, rfl, rfl, HN0⟩
  case round =>
    clear HN0 c0 c1 c2
    obtain ⟨k, go, co, hk, rfl, rfl, HN⟩ := hrel
    obtain ⟨wo, rfl⟩ : ∃ wo : World, wo = wr := ⟨_, rfl⟩
    have hk9 : IntKind.i64.wrap ((k : Int) + 1) = (k : Int) + 1 := IntWalk.i64_in _ ⟨by omega, by omega⟩
    have hmx := HMX.out k
    by_cases hlt : k < K
    · have hkl := HKK.out k hlt
      have HEX : Aside0 (bN mkS s (k + 1) = bEx mkS (bN mkS s k) k) := ⟨rfl⟩
      have HLk : Aside0 ((bN mkS s k)[k]? = some (bN mkS s k)[k]) := ⟨List.getElem?_eq_getElem hkl⟩
      have hxs := HSH.out k (bN mkS s k)[k] (List.getElem_mem _)
      have hx12 := HDP.out k (bN mkS s k)[k] (List.getElem_mem _)
      generalize (bN mkS s k)[k] = x at *
      generalize bN mkS s k = L at *
      have hki : (k : Int) < (L.length : Int) := by omega
      obtain ⟨e0, e1, e2, A3, c3, e3, hc3, hC3⟩ := HN.out.cells HLk.out
      by_cases h12 : x.2.length = 12
      · have hEx : bEx mkS L k = L := by unfold bEx; rw [HLk.out]; exact if_pos h12
        rw [hEx] at HEX
        rw [h12] at e3
        clear e0 e1 e2 hC3
        go_wp2
        go_roundw
        case rel => exact ⟨k + 1, go, co, by omega, by go_num, by rw [HEX.out], ⟨by rw [HEX.out]; exact HN.out⟩⟩
        case measure => simp [intOf] <;> omega
      · have hEx : bEx mkS L k = bJ mkS x L 4 := by unfold bEx; rw [HLk.out]; exact if_neg h12
        rw [hEx] at HEX
        have hn12 : ¬ (x.2.length : Int) = 12 := by omega
        have hb12 : ((x.2.length : Int) == 12) = false := beq_eq_false_iff_ne.2 hn12
        have HJ0 : Aside0 (bJ mkS x L 0 = L) := ⟨rfl⟩
        have HPre := Aside0.mk (fun m => bJ_pre mkS x L m)
        have HML : Aside0 (∀ m, m ≤ 4 → (bJ mkS x L m).length ≤ L.length + m) := ⟨fun m hm => by
          clear hm
          induction m with
          | zero => exact Nat.le_refl _
          | succ m ih =>
            unfold bJ bTry
            split
            · omega
            · split
              · omega
              · rw [List.length_append, List.length_cons, List.length_nil]; omega⟩
        clear e0 e1 e2 hC3
        go_wp2
        clear e3
        go_loopw [3, 5] (fun v3 v5 w' => ∃ (m go co : Nat), m ≤ 4 ∧ v5 = .int .i64 m ∧ v3 = .slice (some ⟨go, 0, none⟩) (bJ mkS x L m).length co ∧ Aside0 (Nd w w' go co (bJ mkS x L m))) (fun _ v5 _ => 4 - (intOf v5).toNat)
        case atStart => exact ⟨0, go, co, by omega, rfl, rfl, HN⟩
        case round =>
          clear HN
          obtain ⟨m, go, co, hm, rfl, rfl, HN⟩ := hrel
          obtain ⟨wi, rfl⟩ : ∃ wi : World, wi = wr := ⟨_, rfl⟩
          have hm9 : IntKind.i64.wrap ((m : Int) + 1) = (m : Int) + 1 := IntWalk.i64_in _ ⟨by omega, by omega⟩
          by_cases hm4 : m < 4
          · have hm4i : (m : Int) < 4 := by omega
            have hml := HML.out m hm
            obtain ⟨tl, htl⟩ := HPre.out m
            have HLJk : Aside0 ((bJ mkS x L m)[k]? = some x) := ⟨by rw [← htl, List.getElem?_append_left (by omega)]; exact HLk.out⟩
            have HJ1 : Aside0 (bJ mkS x L (m + 1) = bTry mkS x (bJ mkS x L m) (m : Int)) := ⟨rfl⟩
            have hLJl : L.length ≤ (bJ mkS x L m).length := by rw [← htl]; simp
            clear htl
            generalize bJ mkS x L m = LJ at *
            have hkj : (k : Int) < (LJ.length : Int) := by omega
            obtain ⟨e0, e1, e2, A3, c3, e3, hc3, hC3⟩ := HN.out.cells HLJk.out
            have HMD : Aside0 (∀ W, Calls Try.prog 52 #[.agg #[.int .i16 x.1.f0, .int .i16 x.1.f1, .int .i16 x.1.f2], .int .i64 (m : Int)] W fun e w' => e = .returned (.tuple #[.agg #[.int .i16 (madeF x.1.f0 x.1.f1 x.1.f2 (m : Int)).1, .int .i16 (madeF x.1.f0 x.1.f1 x.1.f2 (m : Int)).2.1, .int .i16 (madeF x.1.f0 x.1.f1 x.1.f2 (m : Int)).2.2.1], .int .i64 (madeF x.1.f0 x.1.f1 x.1.f2 (m : Int)).2.2.2]) ∧ Below W.heap.size W w') := ⟨fun W => spec_l04Made.calls 1 _ _ _ _ _ _ _ _ W (l04Made_k hxs (m : Int) (by decide))⟩
            have hsm := madeF_sh hxs (m : Int)
            have HCD := Aside0.mk (madeF_code x.1.f0 x.1.f1 x.1.f2 (m : Int))
            have HMK : Aside0 (mkS x.1 (m : Int) = if (madeF x.1.f0 x.1.f1 x.1.f2 (m : Int)).2.2.2 = 0 then some ⟨(madeF x.1.f0 x.1.f1 x.1.f2 (m : Int)).1, (madeF x.1.f0 x.1.f1 x.1.f2 (m : Int)).2.1, (madeF x.1.f0 x.1.f1 x.1.f2 (m : Int)).2.2.1⟩ else none) := ⟨rfl⟩
            generalize madeF x.1.f0 x.1.f1 x.1.f2 (m : Int) = M at *
            obtain ⟨r0, r1, r2, r3⟩ := M
            simp only at HMK hsm HCD HMD
            by_cases hcode : r3 = 0
            · subst hcode
              obtain ⟨y, rfl, rfl, rfl⟩ : ∃ y : S26, r0 = y.f0 ∧ r1 = y.f1 ∧ r2 = y.f2 := ⟨⟨r0, r1, r2⟩, rfl, rfl, rfl⟩
              rw [if_pos rfl] at HMK
              clear HCD hsm
              obtain ⟨nf, hnf⟩ : ∃ nf, x.2.length = nf := ⟨_, rfl⟩
              rw [hnf] at e3 hc3 hC3
              have HF := Aside0.mk hnf
              have HC3 := Aside0.mk hC3
              have HC9 := Aside0.mk hc3
              have hnf12 : nf ≤ 12 := by omega
              have E3 := Aside0.mk (fun (W : World) (h : Nd w W go co LJ) => h.cells HLJk.out)
              clear hnf hC3
              go_wp2_with (first | (go_at_call 52; refine (HMD.out _).mono ?_; rintro e wd ⟨rfl, hb⟩; have HNd0 := Aside0.mk (HN.out.below hb); clear hb HN e0 e1 e2 e3) | (refine wl_store (by rfl) 26 _ _ (by rfl) (wd.heap.size) 0 (by rfl) 26 3 [.int .i16 0, .int .i16 0, .int .i16 0] [.int .i16 y.f0, .int .i16 y.f1, .int .i16 y.f2] (by rfl) (Blk.new wd 26 [.int .i16 0, .int .i16 0, .int .i16 0]) (by rfl) (by decide) (by kernel_rfl) (by rfl) ?_; intro ws hBs hgs; have HNs := Aside0.mk (HNd0.out.below (stored_below hgs)); have HBs : Aside0 (Blk ws wd.heap.size 26 [.int .i16 y.f0, .int .i16 y.f1, .int .i16 y.f2]) := ⟨Blk.all hBs (by decide)⟩; clear hBs hgs HNd0))
              go_loopw [8, 9] (fun v8 v9 w' => ∃ q : Nat, q ≤ LJ.length ∧ v9 = .int .i64 q ∧ v8 = .bool (frB LJ y q) ∧ Aside0 (Nd w w' go co LJ) ∧ Aside0 (Blk w' wd.heap.size 26 [.int .i16 y.f0, .int .i16 y.f1, .int .i16 y.f2])) (fun _ v9 _ => LJ.length - (intOf v9).toNat)
              case atStart => exact ⟨0, by omega, rfl, rfl, HNs, HBs⟩
              case round =>
                clear HNs HBs
                obtain ⟨q, hq, rfl, rfl, HN2, HB2⟩ := hrel
                obtain ⟨wf, rfl⟩ : ∃ wf : World, wf = wr := ⟨_, rfl⟩
                have hq9 : IntKind.i64.wrap ((q : Int) + 1) = (q : Int) + 1 := IntWalk.i64_in _ ⟨by omega, by omega⟩
                have d0 := HB2.out.cell 0 (v := .int .i16 y.f0) rfl
                have d1 := HB2.out.cell 1 (v := .int .i16 y.f1) rfl
                have d2 := HB2.out.cell 2 (v := .int .i16 y.f2) rfl
                by_cases hql : q < LJ.length
                · have hqi : (q : Int) < (LJ.length : Int) := by omega
                  have HZ : Aside0 (LJ[q]? = some LJ[q]) := ⟨List.getElem?_eq_getElem hql⟩
                  generalize LJ[q] = z at *
                  obtain ⟨f0, f1, f2, _⟩ := HN2.out.cells HZ.out
                  have HFS := Aside0.mk (frB_succ (y := y) HZ.out)
                  cases hfr : frB LJ y q
                  · rw [hfr] at HFS
                    go_wp2_with fail
                    refine seq_all (by kernel_rfl) (by kernel_rfl) (fun w1 hw1 => ?_)
                    have HN3 : Aside0 (Nd w w1 go co LJ) := ⟨by rw [hw1]; exact HN2.out.below (below_drew (Below.refl _ _))⟩
                    have HB3 : Aside0 (Blk w1 wd.heap.size 26 [.int .i16 y.f0, .int .i16 y.f1, .int .i16 y.f2]) := ⟨by rw [hw1]; exact HB2.out.drew⟩
                    clear hw1 HN2 HB2 d0 d1 d2 f0 f1 f2
                    iterate 2 ((with_reducible refine wpStill_step (fun K hK => ?_)); go_simp; (with_reducible refine hK _ ?_); clear hK K)
                    iterate 7 ((with_reducible refine still_off ?hw_ ?_); (case hw_ => kernel_rfl))
                    iterate 2 ((with_reducible refine wpStill_step (fun K hK => ?_)); go_simp; (with_reducible refine hK _ ?_); clear hK K)
                    refine wpStill_nil ?_
                    go_wp2
                    go_roundw
                    case rel => exact ⟨q + 1, by omega, by go_num, by rw [HFS.out]; rfl, HN3, HB3⟩
                    case measure => simp [intOf] <;> omega
                  · rw [hfr, neS] at HFS
                    have P0 : (z.1.f0 = y.f0) = True ∨ (z.1.f0 = y.f0) = False := by by_cases h : z.1.f0 = y.f0; exact .inl (eq_true h); exact .inr (eq_false h)
                    have P1 : (z.1.f1 = y.f1) = True ∨ (z.1.f1 = y.f1) = False := by by_cases h : z.1.f1 = y.f1; exact .inl (eq_true h); exact .inr (eq_false h)
                    have P2 : (z.1.f2 = y.f2) = True ∨ (z.1.f2 = y.f2) = False := by by_cases h : z.1.f2 = y.f2; exact .inl (eq_true h); exact .inr (eq_false h)
                    rcases P0 with P0 | P0 <;> rcases P1 with P1 | P1 <;> rcases P2 with P2 | P2
                    all_goals
                      go_wp2_with fail
                      refine seq_all (by kernel_rfl) (by kernel_rfl) (fun w1 hw1 => ?_)
                      have HN3 : Aside0 (Nd w w1 go co LJ) := ⟨by rw [hw1]; exact HN2.out.below (below_drew (Below.refl _ _))⟩
                      have HB3 : Aside0 (Blk w1 wd.heap.size 26 [.int .i16 y.f0, .int .i16 y.f1, .int .i16 y.f2]) := ⟨by rw [hw1]; exact HB2.out.drew⟩
                      replace d0 : w1.cell? ⟨wd.heap.size, 0, none⟩ = some (.int .i16 y.f0) := by rw [hw1]; exact d0
                      replace d1 : w1.cell? ⟨wd.heap.size, 1, none⟩ = some (.int .i16 y.f1) := by rw [hw1]; exact d1
                      replace d2 : w1.cell? ⟨wd.heap.size, 2, none⟩ = some (.int .i16 y.f2) := by rw [hw1]; exact d2
                      replace f0 : w1.cell? ⟨go, q * 4, none⟩ = some (.int .i16 z.1.f0) := by rw [hw1]; exact f0
                      replace f1 : w1.cell? ⟨go, q * 4 + 1, none⟩ = some (.int .i16 z.1.f1) := by rw [hw1]; exact f1
                      replace f2 : w1.cell? ⟨go, q * 4 + 2, none⟩ = some (.int .i16 z.1.f2) := by rw [hw1]; exact f2
                      clear hw1 HN2 HB2
                      iterate 2 ((with_reducible refine wpStill_step (fun K hK => ?_)); go_simp; (with_reducible refine hK _ ?_); clear hK K)
                      iterate 7 ((with_reducible refine still_on ?hw_ (fun K hK => ?_)); (case hw_ => kernel_rfl); go_simp; (with_reducible refine hK _ ?_); clear hK K)
                      iterate 2 ((with_reducible refine wpStill_step (fun K hK => ?_)); go_simp; (with_reducible refine hK _ ?_); clear hK K)
                      refine wpStill_nil ?_
                      go_wp2
                      go_roundw
                      case rel => exact ⟨q + 1, by omega, by go_num, by rw [HFS.out]; simp [P0, P1, P2], HN3, HB3⟩
                      case measure => simp [intOf] <;> omega
                · have hqe : q = LJ.length := by omega
                  have HFA : Aside0 (frB LJ y q = decide (¬ y ∈ LJ.map (·.1))) := ⟨by rw [hqe]; exact frB_all LJ y⟩
                  have hqi : ¬ (q : Int) < (LJ.length : Int) := by omega
                  by_cases hmem : y ∈ LJ.map (·.1)
                  · have hb : bTry mkS x LJ (m : Int) = LJ := by unfold bTry; rw [HMK.out]; exact if_pos hmem
                    rw [hb] at HJ1
                    have hfr : frB LJ y q = false := by rw [HFA.out]; exact decide_eq_false (fun h => h hmem)
                    rw [hfr]
                    go_wp2
                    go_roundw
                    case rel => first | exact ⟨m + 1, go, co, by omega, by go_num, by rw [HJ1.out], ⟨by rw [HJ1.out]; exact HN2.out⟩⟩ | exact ⟨m + 1, by omega, by go_num, go, co, ⟨rfl, by rw [HJ1.out], rfl⟩, ⟨by rw [HJ1.out]; exact HN2.out⟩⟩
                    case measure => simp [intOf] <;> omega
                  · have hb : bTry mkS x LJ (m : Int) = LJ ++ [(y, x.2 ++ [(m : Int)])] := by unfold bTry; rw [HMK.out]; exact if_neg hmem
                    rw [hb] at HJ1
                    have hfr : frB LJ y q = true := by rw [HFA.out]; exact decide_eq_true hmem
                    rw [hfr]
                    have HLL : Aside0 (LJ.length ≤ 241864712) := ⟨by omega⟩
                    obtain ⟨_, _, _, A5, c5, ck3, hc5, hC5⟩ := E3.out _ HN2.out
                    rw [HF.out] at ck3 hc5 hC5
                    replace HC9 := Aside0.mk hc5
                    replace HC3 := Aside0.mk hC5
                    clear hc5 hC5
                    go_wp2
                    refine start_ (n := 15) (S := (fun w' => w'.cell? ⟨wd.heap.size, 0, none⟩ = some (.int .i16 y.f0) ∧ w'.cell? ⟨wd.heap.size, 1, none⟩ = some (.int .i16 y.f1) ∧ w'.cell? ⟨wd.heap.size, 2, none⟩ = some (.int .i16 y.f2) ∧ w'.cell? ⟨go, k * 4 + 3, none⟩ = some (.slice A5 nf c5))) (ds := [13]) #[false, false, false, false, false, false, false, false, false, false, false, false, false, false, false] (by kernel_rfl) rfl rfl ⟨d0, d1, d2, ck3⟩ (fun hHeld => ?_)
                    obtain ⟨w0, hw0⟩ : ∃ w0, wf.drew = w0 := ⟨_, rfl⟩
                    rw [hw0] at hHeld ⊢
                    have HNd : Aside0 (Nd w w0 go co LJ) := ⟨by rw [← hw0]; exact HN2.out.below (below_drew (Below.refl _ _))⟩
                    have HGO : Aside0 (go < w0.heap.size) := ⟨HNd.out.lt⟩
                    replace HC3 : Aside0 ((Kd.int .i64).C w0 A5 nf x.2) := ⟨by rw [← hw0]; exact Kd.C_drew HC3.out⟩
                    have HX0 : Aside0 (Below w0.heap.size w0 w0) := ⟨Below.refl _ _⟩
                    have HS : Aside0 (∀ W, Below w0.heap.size w0 W → (fun w' : World => w'.cell? ⟨wd.heap.size, 0, none⟩ = some (.int .i16 y.f0) ∧ w'.cell? ⟨wd.heap.size, 1, none⟩ = some (.int .i16 y.f1) ∧ w'.cell? ⟨wd.heap.size, 2, none⟩ = some (.int .i16 y.f2) ∧ w'.cell? ⟨go, k * 4 + 3, none⟩ = some (.slice A5 nf c5)) W) := ⟨fun W hb => ⟨pw_cell_below hb hHeld.1, pw_cell_below hb hHeld.2.1, pw_cell_below hb hHeld.2.2.1, pw_cell_below hb hHeld.2.2.2⟩⟩
                    have HOWN : Aside0 (∀ W, Below w0.heap.size w0 W → Calls Try.prog 66 #[.slice A5 nf c5] W fun e w' => ∃ v0_ : Value, e = .returned v0_ ∧ Kd.R (Kd.int .i64) 2 w' W.heap.size (fun _ => True) v0_ x.2 ∧ Below W.heap.size W w') := ⟨fun W hb => by have h_ := Kd.C_below HC3.out hb; rw [← HF.out] at h_ ⊢; exact spec_l00Own.calls A5 c5 x.2 x.2 W h_ (by rw [HF.out]; exact HC9.out) (l00Own_f (by rw [HF.out]; omega))⟩
                    clear hw0 HN2 HB2 d0 d1 d2 ck3
                    refine pure_ (i := 0) (N := some 60) (v := ?_) (a' := ?_) #[true, false, false, false, false, false, false, false, false, false, false, false, false, false, false] rfl rfl (by kernel_rfl) (fun _ _ _ h => h) (Or.inl ⟨by rfl, ?_⟩) ?_ ?_
                    rotate_left
                    · intro w'
                      go_simp
                      with_reducible rfl
                    rotate_left
                    · simp only [Act.put, List.setIfInBounds_toArray, List.set_cons_zero, List.set_cons_succ, i64_w, i32_w]
                      rfl
                    refine take_ (i := 1) (N := some 61) (v := ?_) (a' := ?_) #[true, true, false, false, false, false, false, false, false, false, false, false, false, false, false] rfl rfl (by kernel_rfl) (fun _ _ _ h => h) (Or.inl ⟨by rfl, ?_⟩) hHeld ?_ ?_
                    rotate_left
                    · rintro w' ⟨s0, s1, s2, s3⟩
                      go_simp
                      with_reducible rfl
                    rotate_left
                    · simp only [Act.put, List.setIfInBounds_toArray, List.set_cons_zero, List.set_cons_succ, i64_w, i32_w]
                      rfl
                    refine pure_ (i := 2) (N := some 62) (v := ?_) (a' := ?_) #[true, true, true, false, false, false, false, false, false, false, false, false, false, false, false] rfl rfl (by kernel_rfl) (fun _ _ _ h => h) (Or.inl ⟨by rfl, ?_⟩) ?_ ?_
                    rotate_left
                    · intro w'
                      go_simp
                      with_reducible rfl
                    rotate_left
                    · simp only [Act.put, List.setIfInBounds_toArray, List.set_cons_zero, List.set_cons_succ, i64_w, i32_w]
                      rfl
                    refine pure_ (i := 3) (N := some 63) (v := ?_) (a' := ?_) #[true, true, true, true, false, false, false, false, false, false, false, false, false, false, false] rfl rfl (by kernel_rfl) (fun _ _ _ h => h) (Or.inl ⟨by rfl, ?_⟩) ?_ ?_
                    rotate_left
                    · intro w'
                      go_simp
                      with_reducible rfl
                    rotate_left
                    · simp only [Act.put, List.setIfInBounds_toArray, List.set_cons_zero, List.set_cons_succ, i64_w, i32_w]
                      rfl
                    refine pure_ (i := 4) (N := some 64) (v := ?_) (a' := ?_) #[true, true, true, true, true, false, false, false, false, false, false, false, false, false, false] rfl rfl (by kernel_rfl) (fun _ _ _ h => h) (Or.inl ⟨by rfl, ?_⟩) ?_ ?_
                    rotate_left
                    · intro w'
                      go_simp
                      with_reducible rfl
                    rotate_left
                    · simp only [Act.put, List.setIfInBounds_toArray, List.set_cons_zero, List.set_cons_succ, i64_w, i32_w]
                      rfl
                    refine pure_ (i := 5) (N := some 65) (v := ?_) (a' := ?_) #[true, true, true, true, true, true, false, false, false, false, false, false, false, false, false] rfl rfl (by kernel_rfl) (fun _ _ _ h => h) (Or.inl ⟨by rfl, ?_⟩) ?_ ?_
                    rotate_left
                    · intro w'
                      go_simp
                      with_reducible rfl
                    rotate_left
                    · simp only [Act.put, List.setIfInBounds_toArray, List.set_cons_zero, List.set_cons_succ, i64_w, i32_w]
                      rfl
                    refine take_ (i := 6) (N := some 66) (v := ?_) (a' := ?_) #[true, true, true, true, true, true, true, false, false, false, false, false, false, false, false] rfl rfl (by kernel_rfl) (fun _ _ _ h => h) (Or.inl ⟨by rfl, ?_⟩) hHeld ?_ ?_
                    rotate_left
                    · rintro w' ⟨s0, s1, s2, s3⟩
                      go_simp
                      with_reducible rfl
                    rotate_left
                    · simp only [Act.put, List.setIfInBounds_toArray, List.set_cons_zero, List.set_cons_succ, i64_w, i32_w]
                      rfl
                    refine pure_ (i := 8) (N := some 68) (v := ?_) (a' := ?_) #[true, true, true, true, true, true, true, false, true, false, false, false, false, false, false] rfl rfl (by kernel_rfl) (fun _ _ _ h => h) (Or.inl ⟨by rfl, ?_⟩) ?_ ?_
                    rotate_left
                    · intro w'
                      go_simp
                      with_reducible rfl
                    rotate_left
                    · simp only [Act.put, List.setIfInBounds_toArray, List.set_cons_zero, List.set_cons_succ, i64_w, i32_w]
                      rfl
                    refine two_ (i := 7) (j := 9) (Ni := some 67) (Nj := some 69) #[true, true, true, true, true, true, true, true, true, false, false, false, false, false, false] #[true, true, true, true, true, true, true, false, true, true, false, false, false, false, false] rfl rfl rfl rfl (by kernel_rfl) (by decide) (by decide) (fun K hK => ?_) (fun K hK => ?_)
                    · refine goes_ Try.func66 (by kernel_rfl) rfl #[.slice A5 nf c5] (by rfl) rfl rfl (by (try simp only [List.map_toArray, List.map_cons, List.map_nil]); first | done | rfl) ?_
                      refine (HOWN.out _ HX0.out).mono ?_
                      rintro e wq ⟨vq, rfl, hRq, hbq⟩
                      refine ⟨_, rfl, ?_⟩
                      have HX1 := Aside0.mk (below_step HX0.out hbq)
                      have HQ : Aside0 (wq.ownsRow w0.heap.size 2 1 vq nf (nums .i64 x.2)) := ⟨by have h_ := own_weaken (base' := w0.heap.size) (Kd.own_of_R hRq) (Below.size HX0.out); rw [HF.out] at h_; exact h_⟩
                      refine hK.out _ _ (HS.out _ HX1.out) (fun hHeld => ?_)
                      clear hK K HX0 hRq hbq
                      refine norm_ (a' := ?_) ?_ ?_
                      rotate_left
                      · show Act.put _ (some 67) _ = _
                        simp only [Act.put, List.setIfInBounds_toArray, List.set_cons_zero, List.set_cons_succ, i64_w, i32_w]
                        rfl
                      refine one_ (i := 9) (N := some 69) #[true, true, true, true, true, true, true, true, true, true, false, false, false, false, false] rfl rfl (by kernel_rfl) (by decide) (fun K hK => ?_)
                      refine value_ (v := ?_) (w1 := ?_) (by rfl) rfl ?_ ?_
                      rotate_left
                      rotate_left
                      · go_simp
                        first | (refine ⟨?_, ?_⟩ <;> rfl) | rfl
                      have HX2 := Aside0.mk (below_alloc HX1.out (.cells #[.int .i64 (m : Int)] 2))
                      have HBJ : Aside0 (Blk (wq.alloc (.cells #[.int .i64 (m : Int)] 2)) wq.heap.size 2 [.int .i64 (m : Int)]) := ⟨Blk.new wq _ _⟩
                      have HQ2 : Aside0 ((wq.alloc (.cells #[.int .i64 (m : Int)] 2)).ownsRow w0.heap.size 2 1 vq nf (nums .i64 x.2)) := ⟨own_alloc HQ.out _⟩
                      clear HQ
                      have HQ := HQ2
                      clear HQ2
                      refine hK.out _ _ (HS.out _ HX2.out) (fun hHeld => ?_)
                      clear hK K HX1
                      refine norm_ (a' := ?_) ?_ ?_
                      rotate_left
                      · show Act.put _ (some 69) _ = _
                        simp only [Act.put, List.setIfInBounds_toArray, List.set_cons_zero, List.set_cons_succ, i64_w, i32_w]
                        rfl
                      refine one_ (i := 10) (N := some 70) #[true, true, true, true, true, true, true, true, true, true, true, false, false, false, false] rfl rfl (by kernel_rfl) (by decide) (fun K hK => ?_)
                      refine on_ (by rfl) ?_
                      refine wp_append_lies _ _ _ 25 (by rfl) w0.heap.size 2 i0 _ 1 8 Try.underlying25 HI.out.1 HI.out.2.1 HI.out.2.2.1 HI.out.2.2.2 (by rfl) (by decide) _ nf (nums .i64 x.2) (by rfl) HQ.out ⟨wq.heap.size, 0, none⟩ 1 1 [.int .i64 (m : Int)] (by rfl) (by rfl) (World.news_of_block HBJ.out) (by intro u hu; simp at hu; subst hu; rfl) (by decide) (by unfold maxLen; omega) (by omega) (Below.size HX2.out) _ rfl ?_
                      intro g' cap' w3 hown hgrow hat hlt'
                      have HX3 := Aside0.mk (pw_below_grown HX2.out _ (Below.size HX2.out) hgrow (fun k_ e_ => own_base HQ.out k_ e_))
                      have HU : Aside0 ((Kd.int .i64).R 2 w3 w.heap.size (fun k_ => w0.heap.size ≤ k_) (.slice (some ⟨g', 0, none⟩) (nf + 1) cap') (x.2 ++ [(m : Int)])) := ⟨Kd.R_of_own (by have h_ := own_weaken (base' := w.heap.size) hown (Below.size HNd.out.2); rw [nums_snoc] at h_; rw [List.length_append, HF.out]; exact h_) (fun k_ e_ => own_base hown k_ e_)⟩
                      clear hown hgrow hat hlt' HQ HBJ
                      refine hK.out _ _ (HS.out _ HX3.out) (fun hHeld => ?_)
                      clear hK K HX2
                      refine norm_ (a' := ?_) ?_ ?_
                      rotate_left
                      · show Act.put _ (some 70) _ = _
                        simp only [Act.put, List.setIfInBounds_toArray, List.set_cons_zero, List.set_cons_succ, i64_w, i32_w]
                        rfl
                      refine pure_ (i := 11) (N := some 71) (v := ?_) (a' := ?_) #[true, true, true, true, true, true, true, true, true, true, true, true, false, false, false] rfl rfl (by kernel_rfl) (fun _ _ _ h => h) (Or.inl ⟨by rfl, ?_⟩) ?_ ?_
                      rotate_left
                      · intro w'
                        go_simp
                        with_reducible rfl
                      rotate_left
                      · simp only [Act.put, List.setIfInBounds_toArray, List.set_cons_zero, List.set_cons_succ, i64_w, i32_w]
                        rfl
                      refine one_ (i := 12) (N := some 72) #[true, true, true, true, true, true, true, true, true, true, true, true, true, false, false] rfl rfl (by kernel_rfl) (by decide) (fun K hK => ?_)
                      refine value_ (v := ?_) (w1 := ?_) (by rfl) rfl ?_ ?_
                      rotate_left
                      rotate_left
                      · go_simp
                        first | (refine ⟨?_, ?_⟩ <;> rfl) | rfl
                      have HX4 := Aside0.mk (below_alloc HX3.out (.cells #[.int .i16 y.f0, .int .i16 y.f1, .int .i16 y.f2, .slice (some ⟨g', 0, none⟩) (nf + 1) cap'] 63))
                      refine hK.out _ _ (HS.out _ HX4.out) (fun hHeld => ?_)
                      clear hK K
                      refine norm_ (a' := ?_) ?_ ?_
                      rotate_left
                      · show Act.put _ (some 72) _ = _
                        simp only [Act.put, List.setIfInBounds_toArray, List.set_cons_zero, List.set_cons_succ, i64_w, i32_w]
                        rfl
                      refine last_ (i := 13) (N := some 73) #[true, true, true, true, true, true, true, true, true, true, true, true, true, true, false] rfl rfl (by kernel_rfl) (by decide) (fun K hK => ?_)
                      refine Kd.R_append_step k63 (w0 := w) w.heap.size (by rfl) (.tmp 60) (.tmp 72) 60 63 (.agg #[(.int .i16 0), (.int .i16 0), (.int .i16 0), (.slice none 0 0)]) 32 rfl Try.underlying60 infoNd rfl (by decide) (by omega) _ (LJ.map nd) (nd (y, x.2 ++ [(m : Int)])) [.int .i16 y.f0, .int .i16 y.f1, .int .i16 y.f2, .slice (some ⟨g', 0, none⟩) (nf + 1) cap'] (fun _ => True) (fun k_ => w0.heap.size ≤ k_) (by rfl) (by rfl) (k63_mkM w3 w.heap.size _ (nd (y, x.2 ++ [(m : Int)])) (HU.out)) (fun k_ hk => ⟨trivial, fun e_ => by have h_ := HGO.out; simp [Value.ownBlock] at e_; omega⟩) (fun _ _ => trivial) (Kd.R_below HNd.out.1 HX3.out) (below_step HNd.out.2 HX3.out) (Below.size (below_step HNd.out.2 HX3.out)) (by have h_ := HLL.out; rw [List.length_map]; omega) ?_
                      intro v1 w4 hR4 hB4 hg4 hat4
                      have HR4 := Aside0.mk hR4
                      have HB4 := Aside0.mk hB4
                      clear hR4 hB4 hg4 hat4
                      refine hK.out _ _ ?_
                      clear hK K
                      refine norm_ (a' := ?_) ?_ ?_
                      rotate_left
                      · show Act.put _ (some 73) _ = _
                        simp only [Act.put, List.setIfInBounds_toArray, List.set_cons_zero, List.set_cons_succ, i64_w, i32_w]
                        rfl
                      refine pure_ (i := 14) (N := some 3) (v := ?_) (a' := ?_) #[true, true, true, true, true, true, true, true, true, true, true, true, true, true, true] rfl rfl (by kernel_rfl) (fun _ _ _ h => h) (Or.inl ⟨by rfl, ?_⟩) ?_ ?_
                      rotate_left
                      · intro w'
                        go_simp
                        with_reducible rfl
                      rotate_left
                      · simp only [Act.put, List.setIfInBounds_toArray, List.set_cons_zero, List.set_cons_succ, i64_w, i32_w]
                        rfl
                      refine done_ (by kernel_rfl) ?_
                      obtain ⟨go4, co4, e4, _⟩ := Kd.R_form HR4.out (by simp)
                      subst e4
                      have hl4 : (LJ.map nd ++ [nd (y, x.2 ++ [(m : Int)])]).length = LJ.length + 1 := by simp
                      rw [hl4] at HR4 ⊢
                      have HNF : Aside0 (Nd w w4 go4 co4 (LJ ++ [(y, x.2 ++ [(m : Int)])])) := ⟨⟨by have h_ := HR4.out; rw [List.map_append, List.length_append]; exact h_, HB4.out⟩⟩
                      clear hl4 HR4 HB4
                      go_wp2
                      go_roundw
                      case rel => first | exact ⟨m + 1, go4, co4, by omega, by go_num, by rw [HJ1.out, List.length_append]; rfl, ⟨by rw [HJ1.out]; exact HNF.out⟩⟩ | exact ⟨m + 1, by omega, by go_num, go4, co4, ⟨rfl, by rw [HJ1.out, List.length_append]; rfl, rfl⟩, ⟨by rw [HJ1.out]; exact HNF.out⟩⟩
                      case measure => simp [intOf] <;> omega
                    · refine value_ (v := ?_) (w1 := ?_) (by rfl) rfl ?_ ?_
                      rotate_left
                      rotate_left
                      · go_simp
                        first | (refine ⟨?_, ?_⟩ <;> rfl) | rfl
                      have HX1 := Aside0.mk (below_alloc HX0.out (.cells #[.int .i64 (m : Int)] 2))
                      have HBJ : Aside0 (Blk (w0.alloc (.cells #[.int .i64 (m : Int)] 2)) w0.heap.size 2 [.int .i64 (m : Int)]) := ⟨Blk.new w0 _ _⟩
                      refine hK.out _ _ (HS.out _ HX1.out) (fun hHeld => ?_)
                      clear hK K HX0
                      refine norm_ (a' := ?_) ?_ ?_
                      rotate_left
                      · show Act.put _ (some 69) _ = _
                        simp only [Act.put, List.setIfInBounds_toArray, List.set_cons_zero, List.set_cons_succ, i64_w, i32_w]
                        rfl
                      refine one_ (i := 7) (N := some 67) #[true, true, true, true, true, true, true, true, true, true, false, false, false, false, false] rfl rfl (by kernel_rfl) (by decide) (fun K hK => ?_)
                      refine goes_ Try.func66 (by kernel_rfl) rfl #[.slice A5 nf c5] (by rfl) rfl rfl (by (try simp only [List.map_toArray, List.map_cons, List.map_nil]); first | done | rfl) ?_
                      refine (HOWN.out _ HX1.out).mono ?_
                      rintro e wq ⟨vq, rfl, hRq, hbq⟩
                      refine ⟨_, rfl, ?_⟩
                      have HX2 := Aside0.mk (below_step HX1.out hbq)
                      have HQ : Aside0 (wq.ownsRow w0.heap.size 2 1 vq nf (nums .i64 x.2)) := ⟨by have h_ := own_weaken (base' := w0.heap.size) (Kd.own_of_R hRq) (Below.size HX1.out); rw [HF.out] at h_; exact h_⟩
                      have HBJ2 := Aside0.mk (HBJ.out.below hbq)
                      clear HBJ
                      have HBJ := HBJ2
                      clear HBJ2
                      refine hK.out _ _ (HS.out _ HX2.out) (fun hHeld => ?_)
                      clear hK K HX1 hRq hbq
                      refine norm_ (a' := ?_) ?_ ?_
                      rotate_left
                      · show Act.put _ (some 67) _ = _
                        simp only [Act.put, List.setIfInBounds_toArray, List.set_cons_zero, List.set_cons_succ, i64_w, i32_w]
                        rfl
                      refine one_ (i := 10) (N := some 70) #[true, true, true, true, true, true, true, true, true, true, true, false, false, false, false] rfl rfl (by kernel_rfl) (by decide) (fun K hK => ?_)
                      refine on_ (by rfl) ?_
                      refine wp_append_lies _ _ _ 25 (by rfl) w0.heap.size 2 i0 _ 1 8 Try.underlying25 HI.out.1 HI.out.2.1 HI.out.2.2.1 HI.out.2.2.2 (by rfl) (by decide) _ nf (nums .i64 x.2) (by rfl) HQ.out ⟨w0.heap.size, 0, none⟩ 1 1 [.int .i64 (m : Int)] (by rfl) (by rfl) (World.news_of_block HBJ.out) (by intro u hu; simp at hu; subst hu; rfl) (by decide) (by unfold maxLen; omega) (by omega) (Below.size HX2.out) _ rfl ?_
                      intro g' cap' w3 hown hgrow hat hlt'
                      have HX3 := Aside0.mk (pw_below_grown HX2.out _ (Below.size HX2.out) hgrow (fun k_ e_ => own_base HQ.out k_ e_))
                      have HU : Aside0 ((Kd.int .i64).R 2 w3 w.heap.size (fun k_ => w0.heap.size ≤ k_) (.slice (some ⟨g', 0, none⟩) (nf + 1) cap') (x.2 ++ [(m : Int)])) := ⟨Kd.R_of_own (by have h_ := own_weaken (base' := w.heap.size) hown (Below.size HNd.out.2); rw [nums_snoc] at h_; rw [List.length_append, HF.out]; exact h_) (fun k_ e_ => own_base hown k_ e_)⟩
                      clear hown hgrow hat hlt' HQ HBJ
                      refine hK.out _ _ (HS.out _ HX3.out) (fun hHeld => ?_)
                      clear hK K HX2
                      refine norm_ (a' := ?_) ?_ ?_
                      rotate_left
                      · show Act.put _ (some 70) _ = _
                        simp only [Act.put, List.setIfInBounds_toArray, List.set_cons_zero, List.set_cons_succ, i64_w, i32_w]
                        rfl
                      refine pure_ (i := 11) (N := some 71) (v := ?_) (a' := ?_) #[true, true, true, true, true, true, true, true, true, true, true, true, false, false, false] rfl rfl (by kernel_rfl) (fun _ _ _ h => h) (Or.inl ⟨by rfl, ?_⟩) ?_ ?_
                      rotate_left
                      · intro w'
                        go_simp
                        with_reducible rfl
                      rotate_left
                      · simp only [Act.put, List.setIfInBounds_toArray, List.set_cons_zero, List.set_cons_succ, i64_w, i32_w]
                        rfl
                      refine one_ (i := 12) (N := some 72) #[true, true, true, true, true, true, true, true, true, true, true, true, true, false, false] rfl rfl (by kernel_rfl) (by decide) (fun K hK => ?_)
                      refine value_ (v := ?_) (w1 := ?_) (by rfl) rfl ?_ ?_
                      rotate_left
                      rotate_left
                      · go_simp
                        first | (refine ⟨?_, ?_⟩ <;> rfl) | rfl
                      have HX4 := Aside0.mk (below_alloc HX3.out (.cells #[.int .i16 y.f0, .int .i16 y.f1, .int .i16 y.f2, .slice (some ⟨g', 0, none⟩) (nf + 1) cap'] 63))
                      refine hK.out _ _ (HS.out _ HX4.out) (fun hHeld => ?_)
                      clear hK K
                      refine norm_ (a' := ?_) ?_ ?_
                      rotate_left
                      · show Act.put _ (some 72) _ = _
                        simp only [Act.put, List.setIfInBounds_toArray, List.set_cons_zero, List.set_cons_succ, i64_w, i32_w]
                        rfl
                      refine last_ (i := 13) (N := some 73) #[true, true, true, true, true, true, true, true, true, true, true, true, true, true, false] rfl rfl (by kernel_rfl) (by decide) (fun K hK => ?_)
                      refine Kd.R_append_step k63 (w0 := w) w.heap.size (by rfl) (.tmp 60) (.tmp 72) 60 63 (.agg #[(.int .i16 0), (.int .i16 0), (.int .i16 0), (.slice none 0 0)]) 32 rfl Try.underlying60 infoNd rfl (by decide) (by omega) _ (LJ.map nd) (nd (y, x.2 ++ [(m : Int)])) [.int .i16 y.f0, .int .i16 y.f1, .int .i16 y.f2, .slice (some ⟨g', 0, none⟩) (nf + 1) cap'] (fun _ => True) (fun k_ => w0.heap.size ≤ k_) (by rfl) (by rfl) (k63_mkM w3 w.heap.size _ (nd (y, x.2 ++ [(m : Int)])) (HU.out)) (fun k_ hk => ⟨trivial, fun e_ => by have h_ := HGO.out; simp [Value.ownBlock] at e_; omega⟩) (fun _ _ => trivial) (Kd.R_below HNd.out.1 HX3.out) (below_step HNd.out.2 HX3.out) (Below.size (below_step HNd.out.2 HX3.out)) (by have h_ := HLL.out; rw [List.length_map]; omega) ?_
                      intro v1 w4 hR4 hB4 hg4 hat4
                      have HR4 := Aside0.mk hR4
                      have HB4 := Aside0.mk hB4
                      clear hR4 hB4 hg4 hat4
                      refine hK.out _ _ ?_
                      clear hK K
                      refine norm_ (a' := ?_) ?_ ?_
                      rotate_left
                      · show Act.put _ (some 73) _ = _
                        simp only [Act.put, List.setIfInBounds_toArray, List.set_cons_zero, List.set_cons_succ, i64_w, i32_w]
                        rfl
                      refine pure_ (i := 14) (N := some 3) (v := ?_) (a' := ?_) #[true, true, true, true, true, true, true, true, true, true, true, true, true, true, true] rfl rfl (by kernel_rfl) (fun _ _ _ h => h) (Or.inl ⟨by rfl, ?_⟩) ?_ ?_
                      rotate_left
                      · intro w'
                        go_simp
                        with_reducible rfl
                      rotate_left
                      · simp only [Act.put, List.setIfInBounds_toArray, List.set_cons_zero, List.set_cons_succ, i64_w, i32_w]
                        rfl
                      refine done_ (by kernel_rfl) ?_
                      obtain ⟨go4, co4, e4, _⟩ := Kd.R_form HR4.out (by simp)
                      subst e4
                      have hl4 : (LJ.map nd ++ [nd (y, x.2 ++ [(m : Int)])]).length = LJ.length + 1 := by simp
                      rw [hl4] at HR4 ⊢
                      have HNF : Aside0 (Nd w w4 go4 co4 (LJ ++ [(y, x.2 ++ [(m : Int)])])) := ⟨⟨by have h_ := HR4.out; rw [List.map_append, List.length_append]; exact h_, HB4.out⟩⟩
                      clear hl4 HR4 HB4
                      go_wp2
                      go_roundw
                      case rel => first | exact ⟨m + 1, go4, co4, by omega, by go_num, by rw [HJ1.out, List.length_append]; rfl, ⟨by rw [HJ1.out]; exact HNF.out⟩⟩ | exact ⟨m + 1, by omega, by go_num, go4, co4, ⟨rfl, by rw [HJ1.out, List.length_append]; rfl, rfl⟩, ⟨by rw [HJ1.out]; exact HNF.out⟩⟩
                      case measure => simp [intOf] <;> omega
            · have hm2 : bTry mkS x LJ (m : Int) = LJ := by unfold bTry; rw [HMK.out, if_neg hcode]
              rw [hm2] at HJ1
              clear HCD hsm HMK
              have hc3 : (r3 != 0) = true := bne_iff_ne.2 hcode
              go_wp2_with (first | (go_at_call 52; refine (HMD.out _).mono ?_; rintro e wd ⟨rfl, hb⟩; have HNd0 := Aside0.mk (HN.out.below hb); clear hb HN e0 e1 e2 e3) | (refine wl_store (by rfl) 26 _ _ (by rfl) (wd.heap.size) 0 (by rfl) 26 3 [.int .i16 0, .int .i16 0, .int .i16 0] [.int .i16 r0, .int .i16 r1, .int .i16 r2] (by rfl) (Blk.new wd 26 [.int .i16 0, .int .i16 0, .int .i16 0]) (by rfl) (by decide) (by kernel_rfl) (by rfl) ?_; intro ws hBs hgs; have HNs := Aside0.mk (HNd0.out.below (stored_below hgs)); have HBs : Aside0 (Blk ws wd.heap.size 26 [.int .i16 r0, .int .i16 r1, .int .i16 r2]) := ⟨Blk.all hBs (by decide)⟩; clear hBs hgs HNd0))
              go_roundw
              case rel => first | exact ⟨m + 1, go, co, by omega, by go_num, by rw [HJ1.out], ⟨by rw [HJ1.out]; exact HNs.out⟩⟩ | exact ⟨m + 1, by omega, by go_num, go, co, ⟨rfl, by rw [HJ1.out], rfl⟩, ⟨by rw [HJ1.out]; exact HNs.out⟩⟩
              case measure => simp [intOf] <;> omega
          · have hm4e : m = 4 := by omega
            have hm4i : ¬ (m : Int) < 4 := by omega
            go_wp2
            go_roundw
            case rel => exact ⟨k + 1, go, co, by omega, by go_num, by rw [HEX.out, hm4e], ⟨by rw [HEX.out, ← hm4e]; exact HN.out⟩⟩
            case measure => simp [intOf] <;> omega
    · obtain rfl : k = K := by omega
      have hki : ¬ (k : Int) < ((bN mkS s k).length : Int) := by omega
      have HFIN : Aside0 (Kd.R k63 63 wo w.heap.size (fun _ => True) (.slice (some ⟨go, 0, none⟩) k co) ((allS s).map nd)) := ⟨by
        have h_ := HN.out.1
        rw [hKl] at h_
        rw [HA.out]; exact h_⟩
      go_wp2
      go_ret
      exact ⟨_, rfl, HFIN.out, HN.out.2⟩
end Go.Proofs.Ytjegcpagdpjidaa.X
