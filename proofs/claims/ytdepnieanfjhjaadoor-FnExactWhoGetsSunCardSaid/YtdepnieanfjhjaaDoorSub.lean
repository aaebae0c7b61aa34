/- Contracts of functions, and plain facts: what each call answers, and what it leaves as it was. -/
import Derived.Test.YtdepnieanfjhjaaDoorScw
import Derived.Test.YtdepnieanfjhjaaDoorBit
set_option linter.unusedVariables false
set_option linter.unusedSimpArgs false
namespace Go.Proofs.YtdepnieanfjhjaaDoor.X
open Go.RowKit Go.Proofs.YtdepnieanfjhjaaDoorW.PrintWords Go.Proofs.YtdepnieanfjhjaaDoorW.PrintLast Go.Proofs.YtdepnieanfjhjaaDoorW.PrintMore
attribute [local go_sem] max2_int min2_int max_two min_two max_three min_three max_four min_four
set_option maxHeartbeats 8000000 in
set_option maxRecDepth 100000 in
theorem subset_calls (L : List Int) (hL : L.length = 72) (hd : dayOk L = true) (ws : List S52) (hw : ∀ x ∈ ws, washOk x.f0 x.f1 = true) (h m : Nat) (hm : h + m ≤ 24) (t1 : Int) (ht1 : t1 = (h : Int) + m) (n : Nat) (hn : n = ws.length) (hn6 : n ≤ 6) (places : Int) (A : Option Addr) (cw : Nat) (gP gL gD gF gT gW : Nat) (b : List Int) (l : Int) (hb : scanW (cS L ws h m) n places (2 ^ n) = some (b, l)) (w : World) (ht : TabD w) (hP : Blk w gP 2 [.int .i64 places]) (hLi : Blk w gL 35 [.slice A n cw]) (hD : Blk w gD 33 (nums .i8 L)) (hF : Blk w gF 2 [.int .i64 (h : Int)]) (hT : Blk w gT 2 [.int .i64 t1]) (hW : Blk w gW 2 [.int .i64 6000]) (hC : Kd.C k52 w A n ws) :
    Calls Tryd.prog 26 #[.int .i64 (n : Int), .func (.func 27) #[] #[.pointer (some ⟨gP, 0, none⟩), .pointer (some ⟨gL, 0, none⟩), .pointer (some ⟨gD, 0, none⟩), .pointer (some ⟨gF, 0, none⟩), .pointer (some ⟨gT, 0, none⟩), .pointer (some ⟨gW, 0, none⟩)]] w fun e w' => ∃ v, e = .returned (.tuple #[v, .int .i64 (6000 - l)]) ∧ Ir w' w.heap.size v b ∧ Below w.heap.size w w' := by
  have HSC := Aside0.mk (fun (mm : Nat) (hmm : mm < 64) Ao co (hco : (ownL mm).length ≤ co) W (hB : Below w.heap.size w W) hO => scoreW_calls L hL hd ws hw h m hm t1 ht1 n hn hn6 places A cw mm Ao co hco (ownL_range mm hmm) gP gL gD gF gT gW W (hP.below hB) (hLi.below hB) (hD.below hB) (hF.below hB) (hT.below hB) (hW.below hB) (Kd.C_below hC hB) hO)
  have HCO := Aside0.mk (fun mm => costB_range (cS_ok hd hw h m) mm n)
  have HTD := Aside0.mk ht
  have HBB := Aside0.mk hb
  have hp64 : 2 ^ n ≤ 64 := by
    have : 2 ^ n ≤ 2 ^ 6 := Nat.pow_le_pow_right (by decide) hn6
    simpa using this
  obtain ⟨M2, hM2⟩ : ∃ M2, 2 ^ n = M2 := ⟨_, rfl⟩
  rw [hM2] at hp64 HBB
  have hsh : IntKind.u64.wrap ((2 : Int) ^ n) = (M2 : Int) := by
    have e : (2 : Int) ^ n = ((2 ^ n : Nat) : Int) := by simp
    rw [e, hM2, IntKind.wrap_u64]
    omega
  have HM2 := Aside0.mk hM2
  clear hn hL hd hw ht hb hM2 hP hLi hD hF hT hW hC ht1
  generalize cS L ws h m = c at *
  go_enter Tryd.func26, Tryd.ntmps26
  go_wp2
  clear hsh
  go_loopw [6, 7, 14] (fun v6 v7 v14 w' => ∃ M : Nat, M ≤ M2 ∧ v14 = .int .u64 (M : Int) ∧ Aside0 ((scanW c n places M = none ∧ v6 = .slice none 0 0 ∧ v7 = .int .i64 (-1)) ∨ ∃ b l, scanW c n places M = some (b, l) ∧ Ir w' w.heap.size v6 b ∧ v7 = .int .i64 (6000 - l) ∧ 0 ≤ l ∧ l ≤ 6000 ∧ b.length ≤ 6) ∧ Aside0 (Below w.heap.size w w')) (fun _ _ v14 _ => M2 - (intOf v14).toNat)
  case atStart => exact ⟨0, by omega, rfl, ⟨.inl ⟨rfl, rfl, rfl⟩⟩, ⟨Below.refl _ _⟩⟩
  case round =>
    obtain ⟨M, hM, rfl, HS, HB⟩ := hrel
    obtain ⟨wo, rfl⟩ : ∃ wo : World, wo = wr := ⟨_, rfl⟩
    obtain ⟨v6, rfl⟩ : ∃ v6, v6 = u6 := ⟨_, rfl⟩
    obtain ⟨v7, rfl⟩ : ∃ v7, v7 = u7 := ⟨_, rfl⟩
    have hbw := Below.size HB.out
    by_cases hlt : M < M2
    · have hMi : (M : Int) < (M2 : Int) := by omega
      have hM64 : M < 64 := by omega
      have hM9 : IntKind.u64.wrap ((M : Int) + 1) = (M : Int) + 1 := by rw [IntKind.wrap_u64]; omega
      have HCL := Aside0.mk (clrL_all M hM64)
      have HLN := Aside0.mk (ownL_range M hM64)
      have HSCo := Aside0.mk (fun Ao co hco W hB hO => HSC.out M hM64 Ao co hco W hB hO)
      have hcost := HCO.out M
      have HSCN : Aside0 (scanW c n places (M + 1) = if ((ownL M).length : Int) ≤ places then updW (scanW c n places M) (ownL M) (costB c M n) else scanW c n places M) := ⟨rfl⟩
      generalize ownL M = o at *
      generalize costB c M n = K at *
      go_wp2_with ((with_reducible refine gate_dst (N := 17) rfl ?_); refine Kd.R_lit (Kd.int .i64) wo.heap.size 2 ?hg (N := 17) ?hd (xs := ([] : List Int)) (inner := []) (ok := fun _ => True) (okp := fun _ => True) ?hr ?hp (fun _ hk => hk) trivial (Below.refl _ _) (Nat.le_refl _) (by simp) ?_; (case hd => rfl); (case hg => rfl); (case hr => first | (go_simp; done) | (go_simp; rfl)); (case hp => exact (Reps.none _ _)); intro v1 w1 ho hb hg_ hnew_; clear hg_ hnew_; have HI1 : Aside0 (Ir w1 wo.heap.size v1 (o.take 0)) := ⟨Ir.of_row ho⟩; have HG1 := Aside0.mk hb; clear ho hb)
      go_loopw [9, 10] (fun v9 v10 w' => ∃ j : Nat, j ≤ o.length ∧ v10 = .int .u64 ((clrL M j : Nat) : Int) ∧ Aside0 (Ir w' wo.heap.size v9 (o.take j)) ∧ Aside0 (Below wo.heap.size wo w')) (fun v9 v10 _ => (intOf v10).toNat)
      case atStart => exact ⟨0, by omega, rfl, HI1, HG1⟩
      case round =>
        clear HI1 HG1
        obtain ⟨j, hj, rfl, HI, HG⟩ := hrel
        obtain ⟨wi, rfl⟩ : ∃ wi : World, wi = wr := ⟨_, rfl⟩
        have hcl := HCL.out j (by have := HLN.out; omega)
        by_cases hjl : j < o.length
        · have hz : ¬ clrL M j = 0 := fun e => by have := hcl.2.1.1 e; omega
          have hz1 : (0 : Int) < ((clrL M j : Nat) : Int) := by omega
          have HTZ := Aside0.mk (fun W ht => tz_calls (clrL M j) hz (by omega) W ht)
          rw [hcl.2.2 hjl] at HTZ
          have HTK : Aside0 (o.take (j + 1) = o.take j ++ [o.getD j 0]) := ⟨by rw [List.take_add_one, List.getElem?_eq_getElem hjl, List.getD_eq_getElem?_getD, List.getElem?_eq_getElem hjl]; rfl⟩
          have hsub : IntKind.u64.wrap (((clrL M j : Nat) : Int) - 1) = ((clrL M j - 1 : Nat) : Int) := by rw [IntKind.wrap_u64]; omega
          have hand : bits .and .u64 ((clrL M j : Nat) : Int) ((clrL M j - 1 : Nat) : Int) = ((clrL M (j + 1) : Nat) : Int) := bits_and_u64_nat _ _ (by omega) (by omega)
          have hdec : clrL M (j + 1) < clrL M j := Nat.lt_of_le_of_lt Nat.and_le_right (by omega)
          generalize o.getD j 0 = x at *
          clear hcl
          go_wp2_with fail
          refine (HTZ.out _ (HTD.out.below (below_step HB.out HG.out))).mono ?_
          rintro e w2 ⟨rfl, rfl⟩
          go_wp2_with ((with_reducible refine gate_builtin (b := .append) (xs := #[.tmp 25, .tmp 28]) rfl ?_); at_builtin; refine Kd.R_append (Kd.int .i64) (w0 := wo) wo.heap.size rfl (.tmp 25) (.tmp 28) 28 2 (.int .i64 0) 8 rfl Tryd.underlying28 (by kernel_rfl) rfl (by decide) (by decide) _ (o.take j) x [.int .i64 x] (fun q => u9.ownBlock = some q ∨ w2.heap.size ≤ q) (fun _ => False) rfl rfl rfl (fun _ hk => hk.elim) (fun _ hk => .inr hk) (Kd.R_mono HI.out.row (fun _ hk => .inl hk)) HG.out (below_size HG.out) (by rw [List.length_take]; have := HLN.out; omega) ?_; intro v4 w4 hr4 hb4 hg4 _; have HI4 : Aside0 (Ir w4 wo.heap.size v4 (o.take (j + 1))) := ⟨by rw [HTK.out]; exact Ir.of_row hr4⟩; have HG4 := Aside0.mk hb4; clear hr4 hb4 hg4)
          go_roundw
          case rel => exact ⟨j + 1, by omega, rfl, HI4, HG4⟩
          case measure => simp [intOf] <;> omega
        · have hje : j = o.length := by omega
          have hz : clrL M j = 0 := hcl.2.1.2 (by omega)
          have hz1 : ¬ (0 : Int) < ((clrL M j : Nat) : Int) := by omega
          have hIo := HI.out
          rw [List.take_of_length_le (by omega)] at hIo
          obtain ⟨Ao, co, rfl, hco, hCo⟩ := Kd.R_reads hIo.row
          have HIO := Aside0.mk hIo
          have HCo := Aside0.mk hCo
          have HBI := Aside0.mk (below_step HB.out HG.out)
          have hl6 := HLN.out
          clear hcl hz hIo hCo HI hje
          by_cases hpl : (o.length : Int) ≤ places
          · rw [if_pos hpl] at HSCN HSCo
            have hk0 : IntKind.i64.wrap 0 = 0 := rfl
            have hs0 : (0 : Int) ≤ 6000 - K := by omega
            rcases HS.out with ⟨h1, rfl, rfl⟩ | ⟨b', l', h1, hI, rfl, hl0, hl1, hb6⟩
            · rw [h1] at HSCN
              have hg1 : (-1 : Int) < 6000 - K := by omega
              clear h1 HS
              go_wp2_with fail
              refine (HSCo.out Ao co hco _ HBI.out HCo.out).mono ?_
              rintro e w3 ⟨rfl, hb3⟩
              have HB3 := Aside0.mk (below_step HBI.out hb3)
              have HG3 := Aside0.mk (below_step HG.out hb3)
              have HIO3 := Aside0.mk (HIO.out.below hb3)
              have HCo3 := Aside0.mk (Kd.C_below HCo.out hb3)
              clear hb3
              go_wp2
              go_roundw
              case rel => exact ⟨M + 1, by omega, by go_num, ⟨.inr ⟨o, K, HSCN.out, HIO3.out.lower hbw, rfl, by omega, by omega, hl6⟩⟩, HB3⟩
              case measure => simp [intOf] <;> omega
            · rw [h1] at HSCN
              obtain ⟨Ab, cb, rfl, hcb, hCb⟩ := Kd.R_reads hI.row
              have HIb := Aside0.mk hI
              clear hI hCb HS
              by_cases hKl : K < l'
              · have hu : updW (some (b', l')) o K = some (o, K) := if_pos (.inl hKl)
                rw [hu] at HSCN
                have hg1 : 6000 - l' < 6000 - K := by omega
                clear hu h1
                go_wp2_with fail
                refine (HSCo.out Ao co hco _ HBI.out HCo.out).mono ?_
                rintro e w3 ⟨rfl, hb3⟩
                have HB3 := Aside0.mk (below_step HBI.out hb3)
                have HG3 := Aside0.mk (below_step HG.out hb3)
                have HIO3 := Aside0.mk (HIO.out.below hb3)
                have HCo3 := Aside0.mk (Kd.C_below HCo.out hb3)
                clear hb3
                go_wp2
                go_roundw
                case rel => exact ⟨M + 1, by omega, by go_num, ⟨.inr ⟨o, K, HSCN.out, HIO3.out.lower hbw, rfl, by omega, by omega, hl6⟩⟩, HB3⟩
                case measure => simp [intOf] <;> omega
              · have hg1 : ¬ 6000 - l' < 6000 - K := by omega
                by_cases hKe : K = l'
                · subst hKe
                  have HCM := Aside0.mk (compare_f o b' (by omega))
                  have hcm := cmpL_bef o b'
                  cases hbf : befL o b'
                  · have hu : updW (some (b', K)) o K = some (b', K) := if_neg (by rw [hbf]; simp)
                    rw [hu] at HSCN
                    have hc0 : ¬ cmpL o b' < 0 := by rw [hcm, hbf]; simp
                    generalize cmpL o b' = r at *
                    clear hu h1 hcm hbf hKl
                    go_wp2_with fail
                    refine (HSCo.out Ao co hco _ HBI.out HCo.out).mono ?_
                    rintro e w3 ⟨rfl, hb3⟩
                    have HB3 := Aside0.mk (below_step HBI.out hb3)
                    have HG3 := Aside0.mk (below_step HG.out hb3)
                    have HIO3 := Aside0.mk (HIO.out.below hb3)
                    have HCo3 := Aside0.mk (Kd.C_below HCo.out hb3)
                    clear hb3
                    have HIb3 := Aside0.mk (HIb.out.below HG3.out)
                    go_wp2_with fail
                    refine (slices_Compare_int64_int64.calls (o.length + 1) Ao co o Ab cb b' r _ HCo3.out hco (Kd.R_reads' HIb3.out.row).2.2 hcb HCM.out).mono ?_
                    rintro e w4 ⟨rfl, hd4⟩
                    replace HB3 := Aside0.mk (below_step HB3.out hd4.below)
                    replace HG3 := Aside0.mk (below_step HG3.out hd4.below)
                    replace HIO3 := Aside0.mk (HIO3.out.below hd4.below)
                    clear hd4 HIb3 HCo3
                    go_wp2
                    go_roundw
                    case rel => exact ⟨M + 1, by omega, by go_num, ⟨.inr ⟨b', _, HSCN.out, HIb.out.below HG3.out, rfl, hl0, hl1, hb6⟩⟩, HB3⟩
                    case measure => simp [intOf] <;> omega
                  · have hu : updW (some (b', K)) o K = some (o, K) := if_pos (.inr ⟨rfl, hbf⟩)
                    rw [hu] at HSCN
                    have hc0 : cmpL o b' < 0 := by rw [hcm]; exact hbf
                    generalize cmpL o b' = r at *
                    clear hu h1 hcm hbf hKl
                    go_wp2_with fail
                    refine (HSCo.out Ao co hco _ HBI.out HCo.out).mono ?_
                    rintro e w3 ⟨rfl, hb3⟩
                    have HB3 := Aside0.mk (below_step HBI.out hb3)
                    have HG3 := Aside0.mk (below_step HG.out hb3)
                    have HIO3 := Aside0.mk (HIO.out.below hb3)
                    have HCo3 := Aside0.mk (Kd.C_below HCo.out hb3)
                    clear hb3
                    have HIb3 := Aside0.mk (HIb.out.below HG3.out)
                    go_wp2_with fail
                    refine (slices_Compare_int64_int64.calls (o.length + 1) Ao co o Ab cb b' r _ HCo3.out hco (Kd.R_reads' HIb3.out.row).2.2 hcb HCM.out).mono ?_
                    rintro e w4 ⟨rfl, hd4⟩
                    replace HB3 := Aside0.mk (below_step HB3.out hd4.below)
                    replace HG3 := Aside0.mk (below_step HG3.out hd4.below)
                    replace HIO3 := Aside0.mk (HIO3.out.below hd4.below)
                    clear hd4 HIb3 HCo3
                    go_wp2
                    go_roundw
                    case rel => exact ⟨M + 1, by omega, by go_num, ⟨.inr ⟨o, K, HSCN.out, HIO3.out.lower hbw, rfl, by omega, by omega, hl6⟩⟩, HB3⟩
                    case measure => simp [intOf] <;> omega
                · have hu : updW (some (b', l')) o K = some (b', l') := if_neg (by rintro (e | ⟨e, _⟩); exact hKl e; exact hKe e)
                  rw [hu] at HSCN
                  have hg2 : (6000 - K == 6000 - l') = false := beq_eq_false_iff_ne.2 (by omega)
                  have hg3 : ¬ 6000 - K = 6000 - l' := by omega
                  clear hu h1 hKl hKe
                  go_wp2_with fail
                  refine (HSCo.out Ao co hco _ HBI.out HCo.out).mono ?_
                  rintro e w3 ⟨rfl, hb3⟩
                  have HB3 := Aside0.mk (below_step HBI.out hb3)
                  have HG3 := Aside0.mk (below_step HG.out hb3)
                  have HIO3 := Aside0.mk (HIO.out.below hb3)
                  have HCo3 := Aside0.mk (Kd.C_below HCo.out hb3)
                  clear hb3
                  go_wp2
                  go_roundw
                  case rel => exact ⟨M + 1, by omega, by go_num, ⟨.inr ⟨b', _, HSCN.out, HIb.out.below HG3.out, rfl, hl0, hl1, hb6⟩⟩, HB3⟩
                  case measure => simp [intOf] <;> omega
          · rw [if_neg hpl] at HSCN HSCo
            rcases HS.out with ⟨h1, rfl, rfl⟩ | ⟨b', l', h1, hI, rfl, hl0, hl1, hb6⟩
            · clear HS
              go_wp2_with fail
              refine (HSCo.out Ao co hco _ HBI.out HCo.out).mono ?_
              rintro e w3 ⟨rfl, hb3⟩
              have HB3 := Aside0.mk (below_step HBI.out hb3)
              have HG3 := Aside0.mk (below_step HG.out hb3)
              have HIO3 := Aside0.mk (HIO.out.below hb3)
              have HCo3 := Aside0.mk (Kd.C_below HCo.out hb3)
              clear hb3
              have HS3 := Aside0.mk h1
              clear h1
              go_wp2
              go_roundw
              case rel => exact ⟨M + 1, by omega, by go_num, ⟨.inl ⟨by rw [HSCN.out]; exact HS3.out, rfl, rfl⟩⟩, HB3⟩
              case measure => simp [intOf] <;> omega
            · have hg1 : ¬ 6000 - l' < -1 := by omega
              have hg2 : ((-1 : Int) == 6000 - l') = false := beq_eq_false_iff_ne.2 (by omega)
              have hg3 : ¬ (-1 : Int) = 6000 - l' := by omega
              rw [h1] at HSCN
              obtain ⟨Ab, cb, rfl, hcb, hCb⟩ := Kd.R_reads hI.row
              have HIb := Aside0.mk hI
              clear hI hCb HS h1
              go_wp2_with fail
              refine (HSCo.out Ao co hco _ HBI.out HCo.out).mono ?_
              rintro e w3 ⟨rfl, hb3⟩
              have HB3 := Aside0.mk (below_step HBI.out hb3)
              have HG3 := Aside0.mk (below_step HG.out hb3)
              have HIO3 := Aside0.mk (HIO.out.below hb3)
              have HCo3 := Aside0.mk (Kd.C_below HCo.out hb3)
              clear hb3
              go_wp2
              go_roundw
              case rel => exact ⟨M + 1, by omega, by go_num, ⟨.inr ⟨b', _, HSCN.out, HIb.out.below HG3.out, rfl, hl0, hl1, hb6⟩⟩, HB3⟩
              case measure => simp [intOf] <;> omega
    · have hMe : M = M2 := by omega
      subst hMe
      have hMi : ¬ (M : Int) < (M : Int) := by omega
      rcases HS.out with ⟨h1, _⟩ | ⟨b', l', h1, hI, rfl, _⟩
      · rw [h1] at HBB
        cases HBB.out
      · have h2 := HBB.out
        rw [h1] at h2
        injection h2 with h2
        injection h2 with e1 e2
        subst e1 e2
        have HI := Aside0.mk hI
        clear h1 hI HS HBB
        go_wp2
        go_ret2
        exact ⟨_, rfl, HI.out, HB.out⟩
end Go.Proofs.YtdepnieanfjhjaaDoor.X
