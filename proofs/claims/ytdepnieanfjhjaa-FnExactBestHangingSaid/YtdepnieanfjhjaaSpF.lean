/- Contracts of functions, and plain facts: what each call answers, and what it leaves as it was. -/
import Derived.Test.YtdepnieanfjhjaaIr
import Derived.Test.YtdepnieanfjhjaaLeft
import Derived.Test.YtdepnieanfjhjaaX5
set_option linter.unusedVariables false
set_option linter.unusedSimpArgs false
namespace Go.Proofs.Ytdepnieanfjhjaa.X
open Go.RowKit Go.Proofs.YtdepnieanfjhjaaW.PrintWords Go.Proofs.YtdepnieanfjhjaaW.PrintLast Go.Proofs.YtdepnieanfjhjaaW.PrintMore
attribute [local go_sem] max2_int min2_int max_two min_two max_three min_three max_four min_four
/-- the state of the search: what is the best order, and what it costs -/
def HgS (B gs gd : Nat) (A : Option Addr) (n cw : Nat) (h : Int) (W : World) (σ : BSt) : Prop :=
  ∃ (v : Value) (least : Int) (found : Bool), Blk W gs 47 [.pointer (some ⟨gd, 0, none⟩), .slice A n cw, .int .i64 h, v, .int .i64 least, .bool found] ∧
    ((σ = none ∧ v = .slice none 0 0 ∧ least = 0 ∧ found = false) ∨ ∃ b, σ = some (b, least) ∧ found = true ∧ Ir W B v b ∧ v.ownBlock ≠ some gs)
theorem HgS.below {B gs gd : Nat} {A : Option Addr} {n cw : Nat} {h : Int} {W W' : World} {σ : BSt} (hh : HgS B gs gd A n cw h W σ) (hb : Below W.heap.size W W') : HgS B gs gd A n cw h W' σ := by
  obtain ⟨v, l, f, h1, h2⟩ := hh
  refine ⟨v, l, f, h1.below hb, ?_⟩
  rcases h2 with h2 | ⟨b, e, ef, h3, h4⟩
  · exact .inl h2
  · exact .inr ⟨b, e, ef, h3.below hb, h4⟩
theorem w64s {i : Nat} (h : i < 4611686018427387904) : wrap64 ((i : Int) + 1) = ((i + 1 : Nat) : Int) := by unfold wrap64; omega
theorem rd_eq {l : List Int} {i : Nat} (h : i < l.length) : rd l (i : Int) = l[i] := by simp [rd, List.getElem?_eq_getElem h]
theorem l00Has_loop (s : List Int) (v : Int) (hn : s.length ≤ 4611686018427387903) : ∀ (d k i : Nat), i + d = s.length → d < k → spec_l00Has.l0 k s v i = some (decide (v ∈ s.drop i)) := by
  intro d
  induction d with
  | zero =>
    intro k i hi hk
    obtain ⟨k, rfl⟩ : ∃ m, k = m + 1 := ⟨k - 1, by omega⟩
    rw [spec_l00Has.l0, if_neg (by omega), List.drop_eq_nil_of_le (by omega)]
    simp
  | succ d ih =>
    intro k i hi hk
    obtain ⟨k, rfl⟩ : ∃ m, k = m + 1 := ⟨k - 1, by omega⟩
    rw [spec_l00Has.l0, if_pos (by omega), if_pos (by omega), rd_eq (by omega), List.drop_eq_getElem_cons (by omega)]
    by_cases h : s[i] = v
    · rw [if_pos h]; simp [h]
    · rw [if_neg h, w64s (by omega), ih k (i + 1) (by omega) (by omega)]
      generalize List.drop (i + 1) s = T
      have h' : ¬ v = s[i] := fun e => h e.symm
      generalize s[i] = u at *
      simp [h']
theorem l00Has_f (s : List Int) (v : Int) (hn : s.length ≤ 4611686018427387903) : spec_l00Has.f (s.length + 1) s v = some (decide (v ∈ s)) := by
  unfold spec_l00Has.f
  have h := l00Has_loop s v hn s.length (s.length + 1) 0 (by omega) (by omega)
  simpa using h
set_option maxHeartbeats 8000000 in
set_option maxRecDepth 100000 in
theorem hangFrom_calls (L : List Int) (hL : L.length = 72) (hd : dayOk L = true) (ws : List S52) (hws : ∀ x ∈ ws, washOk x.f0 x.f1 = true) (h : Nat) (hh : h ≤ 24) (gd gs n cw B : Nat) (hne : gd ≠ gs) (hn : n = ws.length) (hn6 : n ≤ 6) (A : Option Addr) : ∀ (d : Nat) (o : List Int) (s : Int) (σ : BSt) (Bo : Nat) (vo : Value) (w : World), d + o.length = n → s = scoreO (lfF L ws h) 0 o → Ir w Bo vo o → vo.ownBlock ≠ some gs → gs < w.heap.size → B ≤ w.heap.size → HgS B gs gd A n cw h w σ → Blk w gd 33 (nums .i8 L) → (∀ W', Kept w W' (fun k => k = gs) → Kd.C k52 W' A n ws) →
    Calls Try.prog 16 #[.pointer (some ⟨gs, 0, none⟩), vo, .int .i64 s] w fun e w' => e = .returned (.tuple #[]) ∧ HgS B gs gd A n cw h w' (bo n (lfF L ws h) d o σ) ∧ KpG w w' (fun k => k = gs) := by
  have hlf := lfF_ok hd hws h
  have HWS : Aside0 (∀ k, k < n → washOk (ws.getD k z52).f0 (ws.getD k z52).f1 = true) := ⟨fun k hk => by rw [List.getD_eq_getElem?_getD, List.getElem?_eq_getElem (by omega)]; exact hws _ (List.getElem_mem _)⟩
  have HNW := Aside0.mk hn
  clear hn hws
  intro d
  induction d with

  | zero =>
    intro o s σ Bo vo w hlen hs hI hvn hgs hB hH hD hC
    obtain ⟨Ao, co, rfl, hco, hCo⟩ := Kd.R_reads hI.row
    have hsr0 := scoreO_range hlf o 0
    rw [← hs] at hsr0
    have HCo := Aside0.mk hCo
    have HCo2 := Aside0.mk (Kd.C_kept_own (S := fun k => k = gs) hI.row (fun k hk e => hvn (by rw [hk, e])))
    have HH := Aside0.mk hH
    have HD := Aside0.mk hD
    have HC := Aside0.mk hC
    have HSC := Aside0.mk hs
    have hon : (o.length : Int) = (n : Int) := by omega
    have hob : ((o.length : Int) == (n : Int)) = true := by rw [hon]; exact beq_self_eq_true _
    obtain ⟨v, least, found, hBk, hM⟩ := hH
    have HBk := Aside0.mk hBk
    have c0 := hBk.cell 0 (v := .pointer (some ⟨gd, 0, none⟩)) rfl
    have c1 := hBk.cell 1 (v := .slice A n cw) rfl
    have c2 := hBk.cell 2 (v := .int .i64 (h : Int)) rfl
    have c3 := hBk.cell 3 (v := v) rfl
    have c4 := hBk.cell 4 (v := .int .i64 least) rfl
    have c5 := hBk.cell 5 (v := .bool found) rfl
    clear hBk hI hCo hD hC hs
    by_cases hcut : found = true ∧ least ≤ s
    · obtain ⟨rfl, hle⟩ := hcut
      obtain ⟨b, hσ⟩ : ∃ b, σ = some (b, least) := by
        rcases hM with ⟨_, _, _, hf⟩ | ⟨b, hσ, _⟩
        · cases hf
        · exact ⟨b, hσ⟩
      have HE : Aside0 (bo n (lfF L ws h) 0 o σ = σ) := ⟨by rw [hσ]; exact bo_cut n hlf _ o (by rw [← HSC.out]; exact hle)⟩
      clear hσ hM HBk
      go_enter Try.func16, Try.ntmps16
      go_wp2
      ((try simp only [Exit.inBlock, Exit.then]); first | refine bodyPost_ret (results_none rfl _ _ _) rfl ?_ | refine bodyPost_end (results_none rfl _ _ _) rfl ?_)
      exact ⟨rfl, by rw [HE.out]; exact HH.out, KpG.refl _ _⟩
    · have hbo : bo n (lfF L ws h) 0 o σ = some (o, s) := by
        show updB σ o (scoreO (lfF L ws h) 0 o) = _
        rw [← HSC.out]
        rcases hM with ⟨rfl, _⟩ | ⟨b, rfl, hf, _⟩
        · rfl
        · exact if_pos (by rcases Int.lt_or_le s least with h_ | h_; exact h_; exact absurd ⟨hf, h_⟩ hcut)
      clear hM
      cases found
      · clear hcut
        go_enter Try.func16, Try.ntmps16
        go_wp2_with (first | ((with_reducible refine gate_dst (N := 29) rfl ?_); refine Kd.R_lit (Kd.int .i64) w.heap.size 2 ?hg (N := 29) ?hd (xs := ([] : List Int)) (inner := []) (ok := fun _ => True) (okp := fun _ => True) ?hr ?hp (fun _ hk => hk) trivial (Below.refl _ _) (Nat.le_refl _) (by simp) ?_; (case hd => rfl); (case hg => rfl); (case hr => first | (go_simp; done) | (go_simp; rfl)); (case hp => exact (Reps.none _ _)); intro v1 w2 ho hb hg_ hnew_; clear hg_ hnew_; have HO := Aside0.mk ho; have HB1 := Aside0.mk hb; clear ho hb) | ((with_reducible refine gate_builtin (b := .append) (xs := #[.tmp 29, .tmp 30]) rfl ?_); at_builtin; refine Kd.R_append_rows (Kd.int .i64) (w0 := w) w.heap.size rfl (.tmp 29) (.tmp 30) 28 2 (.int .i64 0) 8 rfl Try.underlying28 info2 rfl (by decide) (by omega) v1 [] o _ _ _ (fun _ => True) (fun _ => False) rfl rfl ?aO ?aR (fun _ _ h => h) (fun _ h => h.elim) ?aF ?aB ?aS ?aL ?_; (case aR => exact (Kd.C_below HCo.out HB1.out)); (case aB => exact HB1.out); (case aF => exact (fun _ _ => trivial)); (case aO => exact HO.out); (case aS => exact below_size HB1.out); (case aL => simp; omega); intro v5 w5 ho hb hg hat; obtain ⟨A5, c5_, rfl⟩ := Kd.R_slice ho; have HBk5 := Aside0.mk (HBk.out.below hb); have HD5 := Aside0.mk hb; have HI5 : Aside0 (Ir w5 w.heap.size (.slice A5 o.length c5_) o) := ⟨Ir.of_row ho⟩; have d3 := HBk5.out.cell 3 (v := v) rfl; have d4 := HBk5.out.cell 4 (v := .int .i64 least) rfl; have d5 := HBk5.out.cell 5 rfl; have f3 := HBk5.out.frozen 3; have f4 := HBk5.out.frozen 4; have f5 := HBk5.out.frozen 5; clear ho hb hg hat))
        ((try simp only [Exit.inBlock, Exit.then]); first | refine bodyPost_ret (results_none rfl _ _ _) rfl ?_ | refine bodyPost_end (results_none rfl _ _ _) rfl ?_)
        refine ⟨rfl, ?_⟩
        have ne5 := HI5.out.ne hgs
        have B1 := HBk5.out.set 3 (.slice A5 o.length c5_)
        have B2 := B1.set 4 (.int .i64 s)
        have B3 := B2.set 5 (.bool true)
        have I1 := Ir.grown (HI5.out.lower hB) (grown_set w5 gs 3 (.slice A5 o.length c5_)) (.inr ne5)
        have I2 := I1.grown (grown_set _ gs 4 (.int .i64 s)) (.inr ne5)
        have I3 := I2.grown (grown_set _ gs 5 (.bool true)) (.inr ne5)
        have K1 := KpG.of_below HD5.out (fun k => k = gs)
        have K2 := K1.setCell (p := ⟨gs, 3, none⟩) (.inl rfl) (.slice A5 o.length c5_)
        have K3 := K2.setCell (p := ⟨gs, 4, none⟩) (.inl rfl) (.int .i64 s)
        have K4 := K3.setCell (p := ⟨gs, 5, none⟩) (.inl rfl) (.bool true)
        refine ⟨?_, K4⟩
        try rw [hbo]
        exact ⟨_, _, _, B3, .inr ⟨o, rfl, rfl, I3, ne5⟩⟩
      · have hle : s < least := by rcases Int.lt_or_le s least with h_ | h_; exact h_; exact absurd ⟨rfl, h_⟩ hcut
        have hle2 : ¬ least ≤ s := by omega
        clear hcut
        go_enter Try.func16, Try.ntmps16
        go_wp2_with (first | ((with_reducible refine gate_dst (N := 29) rfl ?_); refine Kd.R_lit (Kd.int .i64) w.heap.size 2 ?hg (N := 29) ?hd (xs := ([] : List Int)) (inner := []) (ok := fun _ => True) (okp := fun _ => True) ?hr ?hp (fun _ hk => hk) trivial (Below.refl _ _) (Nat.le_refl _) (by simp) ?_; (case hd => rfl); (case hg => rfl); (case hr => first | (go_simp; done) | (go_simp; rfl)); (case hp => exact (Reps.none _ _)); intro v1 w2 ho hb hg_ hnew_; clear hg_ hnew_; have HO := Aside0.mk ho; have HB1 := Aside0.mk hb; clear ho hb) | ((with_reducible refine gate_builtin (b := .append) (xs := #[.tmp 29, .tmp 30]) rfl ?_); at_builtin; refine Kd.R_append_rows (Kd.int .i64) (w0 := w) w.heap.size rfl (.tmp 29) (.tmp 30) 28 2 (.int .i64 0) 8 rfl Try.underlying28 info2 rfl (by decide) (by omega) v1 [] o _ _ _ (fun _ => True) (fun _ => False) rfl rfl ?aO ?aR (fun _ _ h => h) (fun _ h => h.elim) ?aF ?aB ?aS ?aL ?_; (case aR => exact (Kd.C_below HCo.out HB1.out)); (case aB => exact HB1.out); (case aF => exact (fun _ _ => trivial)); (case aO => exact HO.out); (case aS => exact below_size HB1.out); (case aL => simp; omega); intro v5 w5 ho hb hg hat; obtain ⟨A5, c5_, rfl⟩ := Kd.R_slice ho; have HBk5 := Aside0.mk (HBk.out.below hb); have HD5 := Aside0.mk hb; have HI5 : Aside0 (Ir w5 w.heap.size (.slice A5 o.length c5_) o) := ⟨Ir.of_row ho⟩; have d3 := HBk5.out.cell 3 (v := v) rfl; have d4 := HBk5.out.cell 4 (v := .int .i64 least) rfl; have d5 := HBk5.out.cell 5 rfl; have f3 := HBk5.out.frozen 3; have f4 := HBk5.out.frozen 4; have f5 := HBk5.out.frozen 5; clear ho hb hg hat))
        ((try simp only [Exit.inBlock, Exit.then]); first | refine bodyPost_ret (results_none rfl _ _ _) rfl ?_ | refine bodyPost_end (results_none rfl _ _ _) rfl ?_)
        refine ⟨rfl, ?_⟩
        have ne5 := HI5.out.ne hgs
        have B1 := HBk5.out.set 3 (.slice A5 o.length c5_)
        have B2 := B1.set 4 (.int .i64 s)
        have B3 := B2.set 5 (.bool true)
        have I1 := Ir.grown (HI5.out.lower hB) (grown_set w5 gs 3 (.slice A5 o.length c5_)) (.inr ne5)
        have I2 := I1.grown (grown_set _ gs 4 (.int .i64 s)) (.inr ne5)
        have I3 := I2.grown (grown_set _ gs 5 (.bool true)) (.inr ne5)
        have K1 := KpG.of_below HD5.out (fun k => k = gs)
        have K2 := K1.setCell (p := ⟨gs, 3, none⟩) (.inl rfl) (.slice A5 o.length c5_)
        have K3 := K2.setCell (p := ⟨gs, 4, none⟩) (.inl rfl) (.int .i64 s)
        have K4 := K3.setCell (p := ⟨gs, 5, none⟩) (.inl rfl) (.bool true)
        refine ⟨?_, K4⟩
        try rw [hbo]
        exact ⟨_, _, _, B3, .inr ⟨o, rfl, rfl, I3, ne5⟩⟩
  | succ d ih =>
    intro o s σ Bo vo w hlen hs hI hvn hgs hB hH hD hC
    obtain ⟨Ao, co, rfl, hco, hCo⟩ := Kd.R_reads hI.row
    have hsr0 := scoreO_range hlf o 0
    rw [← hs] at hsr0
    have HCo := Aside0.mk hCo
    have HCo2 := Aside0.mk (Kd.C_kept_own (S := fun k => k = gs) hI.row (fun k hk e => hvn (by rw [hk, e])))
    have HH := Aside0.mk hH
    have HD := Aside0.mk hD
    have HC := Aside0.mk hC
    have HSC := Aside0.mk hs
    have hon : ¬ (o.length : Int) = (n : Int) := by omega
    have hob : ((o.length : Int) == (n : Int)) = false := by exact beq_eq_false_iff_ne.2 hon
    obtain ⟨v, least, found, hBk, hM⟩ := hH
    have HBk := Aside0.mk hBk
    have c0 := hBk.cell 0 (v := .pointer (some ⟨gd, 0, none⟩)) rfl
    have c1 := hBk.cell 1 (v := .slice A n cw) rfl
    have c2 := hBk.cell 2 (v := .int .i64 (h : Int)) rfl
    have c3 := hBk.cell 3 (v := v) rfl
    have c4 := hBk.cell 4 (v := .int .i64 least) rfl
    have c5 := hBk.cell 5 (v := .bool found) rfl
    clear hBk hI hCo hD hC hs
    by_cases hcut : found = true ∧ least ≤ s
    · obtain ⟨rfl, hle⟩ := hcut
      obtain ⟨b, hσ⟩ : ∃ b, σ = some (b, least) := by
        rcases hM with ⟨_, _, _, hf⟩ | ⟨b, hσ, _⟩
        · cases hf
        · exact ⟨b, hσ⟩
      have HE : Aside0 (bo n (lfF L ws h) (d + 1) o σ = σ) := ⟨by rw [hσ]; exact bo_cut n hlf _ o (by rw [← HSC.out]; exact hle)⟩
      clear hσ hM HBk
      go_enter Try.func16, Try.ntmps16
      go_wp2
      ((try simp only [Exit.inBlock, Exit.then]); first | refine bodyPost_ret (results_none rfl _ _ _) rfl ?_ | refine bodyPost_end (results_none rfl _ _ _) rfl ?_)
      exact ⟨rfl, by rw [HE.out]; exact HH.out, KpG.refl _ _⟩
    · have HBO0 : Aside0 (bo n (lfF L ws h) (d + 1) o σ = boK (fun i σ => bo n (lfF L ws h) d (o ++ [(i : Int)]) σ) o n σ) := ⟨rfl⟩
      rw [HBO0.out]
      clear HBO0
      clear hM
      cases found
      · clear hcut
        go_enter Try.func16, Try.ntmps16
        go_wp2
        clear c0 c1 c2 c3 c4 c5
        go_loopw [6] (fun v6 w' => ∃ k : Nat, k ≤ n ∧ v6 = .int .i64 k ∧ Aside0 (HgS B gs gd A n cw h w' (boK (fun i σ => bo n (lfF L ws h) d (o ++ [(i : Int)]) σ) o k σ)) ∧ Aside0 (KpG w w' (fun k => k = gs))) (fun v6 _ => n - (intOf v6).toNat)
        case atStart => exact ⟨0, by omega, rfl, HH, ⟨KpG.refl _ _⟩⟩
        case round =>
          clear HBk
          obtain ⟨k, hk, rfl, HS, HK⟩ := hrel
          obtain ⟨wo, rfl⟩ : ∃ wo : World, wo = wr := ⟨_, rfl⟩
          have hk9 : IntKind.i64.wrap ((k : Int) + 1) = (k : Int) + 1 := IntWalk.i64_in _ ⟨by omega, by omega⟩
          have HCk := Aside0.mk (HCo2.out wo HK.out.2)
          have HCw := HC.out wo HK.out.2
          have HDk : Aside0 (Blk wo gd 33 (nums .i8 L)) := ⟨(HK.out.2.2 gd HD.out.lt hne).trans HD.out⟩
          obtain ⟨v2, least2, found2, HBk2, HM2⟩ := HS.out
          have HB2 := Aside0.mk HBk2
          clear HM2 HBk2
          have c0 := HB2.out.cell 0 (v := .pointer (some ⟨gd, 0, none⟩)) rfl
          have c1 := HB2.out.cell 1 (v := .slice A n cw) rfl
          have c2 := HB2.out.cell 2 (v := .int .i64 (h : Int)) rfl
          by_cases hlt : k < n
          · have hki : (k : Int) < (n : Int) := by omega
            obtain ⟨ad, eA, hx0, hx1⟩ := at_T52 HCw (k : Int) (by omega) (by omega)
            have HXk := Aside0.mk (HWS.out k hlt)
            rw [show rd_T52 ws k = ws.getD k z52 from rfl] at hx0 hx1
            replace hx0 := (show (k : Int).toNat = k from rfl) ▸ hx0
            replace hx1 := (show (k : Int).toNat = k from rfl) ▸ hx1
            have HL1 : Aside0 (lfF L ws h k o.length = leftF L (ws.getD k z52).f0 (ws.getD k z52).f1 (h + o.length)) := ⟨by rw [HNW.out] at hlt; unfold lfF; simp [List.getD_eq_getElem?_getD, List.getElem?_eq_getElem hlt]⟩
            generalize ws.getD k z52 = x at hx0 hx1 HXk HL1
            have HR := hlf (k : Int).toNat (0 + o.length)
            have HSN := Aside0.mk (scoreO_snoc (lfF L ws h) (k : Int) o 0)
            rw [Int.toNat_natCast, Nat.zero_add, HL1.out] at HSN HR
            have hio : IntKind.i64.wrap ((h : Int) + (o.length : Int)) = (h : Int) + (o.length : Int) := IntWalk.i64_in _ ⟨by omega, by omega⟩
            have HLF : Aside0 (∀ W, Blk W gd 33 (nums .i8 L) → Calls Try.prog 31 #[.pointer (some ⟨gd, 0, none⟩), .agg #[.int .i16 x.f0, .int .i8 x.f1], .int .i64 ((h : Int) + (o.length : Int))] W fun e w' => e = .returned (.int .i64 (leftF L x.f0 x.f1 (h + o.length))) ∧ Below W.heap.size W w') := ⟨fun W hW => by
              have := l03Left_calls L hL hd x.f0 x.f1 HXk.out (h + o.length) (by omega) gd W hW
              rwa [Int.natCast_add] at this⟩
            generalize leftF L x.f0 x.f1 (h + o.length) = r at HLF HSN HR
            have hsr : IntKind.i64.wrap (s + r) = s + r := IntWalk.i64_in _ ⟨by omega, by omega⟩
            have HM := Aside0.mk (l00Has_f o (k : Int) (by omega))
            by_cases hin : (k : Int) ∈ o
            · rw [decide_eq_true hin] at HM
              have HBO : Aside0 (boK (fun i σ => bo n (lfF L ws h) d (o ++ [(i : Int)]) σ) o (k + 1) σ = boK (fun i σ => bo n (lfF L ws h) d (o ++ [(i : Int)]) σ) o k σ) := ⟨if_pos hin⟩
              clear hin hx0 hx1 eA HLF HSN
              go_wp2_with fail
              refine (spec_l00Has.calls (o.length + 1) Ao co o (k : Int) true _ HCk.out hco HM.out).mono ?_
              rintro e w1 ⟨rfl, hd1⟩
              have hb1 := hd1.below
              clear hd1 c0 c1 c2
              go_wp2
              go_roundw
              case rel => exact ⟨k + 1, by omega, by go_num, ⟨by rw [HBO.out]; exact HS.out.below hb1⟩, ⟨HK.out.below hb1⟩⟩
              case measure => simp [intOf] <;> omega
            · rw [decide_eq_false hin] at HM
              have HBO : Aside0 (boK (fun i σ => bo n (lfF L ws h) d (o ++ [(i : Int)]) σ) o (k + 1) σ = bo n (lfF L ws h) d (o ++ [(k : Int)]) (boK (fun i σ => bo n (lfF L ws h) d (o ++ [(i : Int)]) σ) o k σ)) := ⟨if_neg hin⟩
              clear hin
              go_wp2_with fail
              refine (spec_l00Has.calls (o.length + 1) Ao co o (k : Int) false _ HCk.out hco HM.out).mono ?_
              rintro e w1 ⟨rfl, hd1⟩
              have hb1 := hd1.below
              replace c0 := pw_cell_below hb1 c0
              replace c1 := pw_cell_below hb1 c1
              replace c2 := pw_cell_below hb1 c2
              replace hx0 := pw_cell_below hb1 hx0
              replace hx1 := pw_cell_below hb1 hx1
              have HD1 := Aside0.mk (HDk.out.below hb1)
              have HCk1 := Aside0.mk (Kd.C_below HCk.out hb1)
              have HS1 := Aside0.mk (HS.out.below hb1)
              have HK1 := Aside0.mk (HK.out.below hb1)
              clear hd1 hb1 HS HK HDk HCk HB2
              subst eA
              go_wp2_with fail
              go_region_held3 (fun w' => w'.cell? ⟨gs, 0, none⟩ = some (.pointer (some ⟨gd, 0, none⟩)) ∧ w'.cell? ⟨gs, 1, none⟩ = some (.slice (some ad) n cw) ∧ w'.cell? ⟨gs, 2, none⟩ = some (.int .i64 (h : Int)) ∧ w'.cell? (ad.add (k * 2)) = some (.int .i16 x.f0) ∧ w'.cell? ⟨(ad.add (k * 2)).block, (ad.add (k * 2)).off + 1, none⟩ = some (.int .i8 x.f1)) (first | exact ⟨c0, c1, c2, hx0, hx1⟩ | exact ⟨d0, d1, d2, y0, y1⟩ | go_keep) ((go_at_call 31; refine (HLF.out _ (by repeat (first | exact HD1.out | apply Blk.drewN | apply Blk.drew | apply Blk.alloc))).mono ?_; rintro e w2 ⟨rfl, hb⟩; replace hb := below_step (w := w1) (below_drew (Below.refl _ _)) hb; have d0 := pw_cell_below hb c0; have d1 := pw_cell_below hb c1; have d2 := pw_cell_below hb c2; have y0 := pw_cell_below hb hx0; have y1 := pw_cell_below hb hx1))
              have HD2 := Aside0.mk (HD1.out.below hb)
              have HCk2 := Aside0.mk (Kd.C_below HCk1.out hb)
              have HS2 := Aside0.mk (HS1.out.below hb)
              have HK2 := Aside0.mk (HK1.out.below hb)
              clear HS1 HK1 HD1 HCk1 hb c0 c1 c2 hx0 hx1 d0 d1 d2 y0 y1 HLF HCw
              go_wp2_with (first | ((with_reducible refine gate_dst (N := 74) rfl ?_); refine Kd.R_lit (Kd.int .i64) w2.heap.size 2 ?hg (N := 74) ?hd (xs := ([] : List Int)) (inner := []) (ok := fun _ => True) (okp := fun _ => True) ?hr ?hp (fun _ hk => hk) trivial (Below.refl _ _) (Nat.le_refl _) (by simp) ?_; (case hd => rfl); (case hg => rfl); (case hr => first | (go_simp; done) | (go_simp; rfl)); (case hp => exact (Reps.none _ _)); intro v3 w3 ho hb hg_ hnew_; clear hg_ hnew_; have HO := Aside0.mk ho; have HB1 := Aside0.mk hb; clear ho hb) | ((with_reducible refine gate_builtin (b := .append) (xs := #[.tmp 74, .tmp 75]) rfl ?_); at_builtin; refine Kd.R_append_rows (Kd.int .i64) (w0 := w2) w2.heap.size rfl (.tmp 74) (.tmp 75) 28 2 (.int .i64 0) 8 rfl Try.underlying28 info2 rfl (by decide) (by omega) v3 [] o _ _ _ (fun _ => True) (fun _ => False) rfl rfl ?aO ?aR (fun _ _ h => h) (fun _ h => h.elim) ?aF ?aB ?aS ?aL ?_; (case aR => exact (Kd.C_below HCk2.out HB1.out)); (case aB => exact HB1.out); (case aF => exact (fun _ _ => trivial)); (case aO => exact HO.out); (case aS => exact below_size HB1.out); (case aL => simp; omega); intro v4 w4 ho hb hg hat; have HO4 := Aside0.mk ho; have HB4 := Aside0.mk hb; clear ho hb hg hat) | ((with_reducible refine gate_builtin (b := .append) (xs := #[.tmp 76, .tmp 78]) rfl ?_); at_builtin; refine Kd.R_append (Kd.int .i64) (w0 := w2) w2.heap.size rfl (.tmp 76) (.tmp 78) 28 2 (.int .i64 0) 8 rfl Try.underlying28 (by kernel_rfl) rfl (by decide) (by decide) _ ([] ++ o) (k : Int) [.int .i64 (k : Int)] (fun _ => True) (fun _ => False) rfl rfl rfl (fun _ hk => hk.elim) (fun _ _ => trivial) HO4.out HB4.out (below_size HB4.out) (by simp; omega) ?_; intro v5 w5 hr5 hb5 hg5 _; have HI5 : Aside0 (Ir w5 w2.heap.size v5 (o ++ [(k : Int)])) := ⟨Ir.of_row hr5⟩; have HD5 := Aside0.mk (HD2.out.below hb5); have HS5 := Aside0.mk (HS2.out.below hb5); have HK5 := Aside0.mk (HK2.out.below hb5); have HC5 : Aside0 (∀ W', Kept w5 W' (fun k => k = gs) → Kd.C k52 W' (some ad) n ws) := ⟨Kd.C_kept_step HC.out HK5.out.2⟩; clear hr5 hb5 hg5 HO4 HB4 HB1 HO HS2 HD2 HCk2))
              refine (ih (o ++ [(k : Int)]) (s + r) _ w2.heap.size _ w5 (by simp; omega) (by rw [HSN.out, HSC.out]) HI5.out (fun e => by have := HI5.out.ne (g := gs) (by have := HK2.out.size; omega); exact this e) (by have := HK5.out.size; omega) (by have := HK5.out.size; omega) HS5.out HD5.out HC5.out).mono ?_
              rintro e w6 ⟨rfl, hS6, hK6⟩
              have HS6 := Aside0.mk hS6
              have HK6 := Aside0.mk (HK5.out.trans hK6)
              clear hS6 hK6 HS5 HD5 HC5 HI5 HK5
              go_wp2
              go_roundw
              case rel => exact ⟨k + 1, by omega, by go_num, ⟨by rw [HBO.out]; exact HS6.out⟩, HK6⟩
              case measure => simp [intOf] <;> omega
          · have hkn : k = n := by omega
            subst hkn
            have hki : ¬ (k : Int) < (k : Int) := by omega
            go_wp2
            ((try simp only [Exit.inBlock, Exit.then]); first | refine bodyPost_ret (results_none rfl _ _ _) rfl ?_ | refine bodyPost_end (results_none rfl _ _ _) rfl ?_)
            exact ⟨rfl, HS.out, HK.out⟩
      · have hle : s < least := by rcases Int.lt_or_le s least with h_ | h_; exact h_; exact absurd ⟨rfl, h_⟩ hcut
        have hle2 : ¬ least ≤ s := by omega
        clear hcut
        go_enter Try.func16, Try.ntmps16
        go_wp2
        clear c0 c1 c2 c3 c4 c5
        go_loopw [6] (fun v6 w' => ∃ k : Nat, k ≤ n ∧ v6 = .int .i64 k ∧ Aside0 (HgS B gs gd A n cw h w' (boK (fun i σ => bo n (lfF L ws h) d (o ++ [(i : Int)]) σ) o k σ)) ∧ Aside0 (KpG w w' (fun k => k = gs))) (fun v6 _ => n - (intOf v6).toNat)
        case atStart => exact ⟨0, by omega, rfl, HH, ⟨KpG.refl _ _⟩⟩
        case round =>
          clear HBk
          obtain ⟨k, hk, rfl, HS, HK⟩ := hrel
          obtain ⟨wo, rfl⟩ : ∃ wo : World, wo = wr := ⟨_, rfl⟩
          have hk9 : IntKind.i64.wrap ((k : Int) + 1) = (k : Int) + 1 := IntWalk.i64_in _ ⟨by omega, by omega⟩
          have HCk := Aside0.mk (HCo2.out wo HK.out.2)
          have HCw := HC.out wo HK.out.2
          have HDk : Aside0 (Blk wo gd 33 (nums .i8 L)) := ⟨(HK.out.2.2 gd HD.out.lt hne).trans HD.out⟩
          obtain ⟨v2, least2, found2, HBk2, HM2⟩ := HS.out
          have HB2 := Aside0.mk HBk2
          clear HM2 HBk2
          have c0 := HB2.out.cell 0 (v := .pointer (some ⟨gd, 0, none⟩)) rfl
          have c1 := HB2.out.cell 1 (v := .slice A n cw) rfl
          have c2 := HB2.out.cell 2 (v := .int .i64 (h : Int)) rfl
          by_cases hlt : k < n
          · have hki : (k : Int) < (n : Int) := by omega
            obtain ⟨ad, eA, hx0, hx1⟩ := at_T52 HCw (k : Int) (by omega) (by omega)
            have HXk := Aside0.mk (HWS.out k hlt)
            rw [show rd_T52 ws k = ws.getD k z52 from rfl] at hx0 hx1
            replace hx0 := (show (k : Int).toNat = k from rfl) ▸ hx0
            replace hx1 := (show (k : Int).toNat = k from rfl) ▸ hx1
            have HL1 : Aside0 (lfF L ws h k o.length = leftF L (ws.getD k z52).f0 (ws.getD k z52).f1 (h + o.length)) := ⟨by rw [HNW.out] at hlt; unfold lfF; simp [List.getD_eq_getElem?_getD, List.getElem?_eq_getElem hlt]⟩
            generalize ws.getD k z52 = x at hx0 hx1 HXk HL1
            have HR := hlf (k : Int).toNat (0 + o.length)
            have HSN := Aside0.mk (scoreO_snoc (lfF L ws h) (k : Int) o 0)
            rw [Int.toNat_natCast, Nat.zero_add, HL1.out] at HSN HR
            have hio : IntKind.i64.wrap ((h : Int) + (o.length : Int)) = (h : Int) + (o.length : Int) := IntWalk.i64_in _ ⟨by omega, by omega⟩
            have HLF : Aside0 (∀ W, Blk W gd 33 (nums .i8 L) → Calls Try.prog 31 #[.pointer (some ⟨gd, 0, none⟩), .agg #[.int .i16 x.f0, .int .i8 x.f1], .int .i64 ((h : Int) + (o.length : Int))] W fun e w' => e = .returned (.int .i64 (leftF L x.f0 x.f1 (h + o.length))) ∧ Below W.heap.size W w') := ⟨fun W hW => by
              have := l03Left_calls L hL hd x.f0 x.f1 HXk.out (h + o.length) (by omega) gd W hW
              rwa [Int.natCast_add] at this⟩
            generalize leftF L x.f0 x.f1 (h + o.length) = r at HLF HSN HR
            have hsr : IntKind.i64.wrap (s + r) = s + r := IntWalk.i64_in _ ⟨by omega, by omega⟩
            have HM := Aside0.mk (l00Has_f o (k : Int) (by omega))
            by_cases hin : (k : Int) ∈ o
            · rw [decide_eq_true hin] at HM
              have HBO : Aside0 (boK (fun i σ => bo n (lfF L ws h) d (o ++ [(i : Int)]) σ) o (k + 1) σ = boK (fun i σ => bo n (lfF L ws h) d (o ++ [(i : Int)]) σ) o k σ) := ⟨if_pos hin⟩
              clear hin hx0 hx1 eA HLF HSN
              go_wp2_with fail
              refine (spec_l00Has.calls (o.length + 1) Ao co o (k : Int) true _ HCk.out hco HM.out).mono ?_
              rintro e w1 ⟨rfl, hd1⟩
              have hb1 := hd1.below
              clear hd1 c0 c1 c2
              go_wp2
              go_roundw
              case rel => exact ⟨k + 1, by omega, by go_num, ⟨by rw [HBO.out]; exact HS.out.below hb1⟩, ⟨HK.out.below hb1⟩⟩
              case measure => simp [intOf] <;> omega
            · rw [decide_eq_false hin] at HM
              have HBO : Aside0 (boK (fun i σ => bo n (lfF L ws h) d (o ++ [(i : Int)]) σ) o (k + 1) σ = bo n (lfF L ws h) d (o ++ [(k : Int)]) (boK (fun i σ => bo n (lfF L ws h) d (o ++ [(i : Int)]) σ) o k σ)) := ⟨if_neg hin⟩
              clear hin
              go_wp2_with fail
              refine (spec_l00Has.calls (o.length + 1) Ao co o (k : Int) false _ HCk.out hco HM.out).mono ?_
              rintro e w1 ⟨rfl, hd1⟩
              have hb1 := hd1.below
              replace c0 := pw_cell_below hb1 c0
              replace c1 := pw_cell_below hb1 c1
              replace c2 := pw_cell_below hb1 c2
              replace hx0 := pw_cell_below hb1 hx0
              replace hx1 := pw_cell_below hb1 hx1
              have HD1 := Aside0.mk (HDk.out.below hb1)
              have HCk1 := Aside0.mk (Kd.C_below HCk.out hb1)
              have HS1 := Aside0.mk (HS.out.below hb1)
              have HK1 := Aside0.mk (HK.out.below hb1)
              clear hd1 hb1 HS HK HDk HCk HB2
              subst eA
              go_wp2_with fail
              go_region_held3 (fun w' => w'.cell? ⟨gs, 0, none⟩ = some (.pointer (some ⟨gd, 0, none⟩)) ∧ w'.cell? ⟨gs, 1, none⟩ = some (.slice (some ad) n cw) ∧ w'.cell? ⟨gs, 2, none⟩ = some (.int .i64 (h : Int)) ∧ w'.cell? (ad.add (k * 2)) = some (.int .i16 x.f0) ∧ w'.cell? ⟨(ad.add (k * 2)).block, (ad.add (k * 2)).off + 1, none⟩ = some (.int .i8 x.f1)) (first | exact ⟨c0, c1, c2, hx0, hx1⟩ | exact ⟨d0, d1, d2, y0, y1⟩ | go_keep) ((go_at_call 31; refine (HLF.out _ (by repeat (first | exact HD1.out | apply Blk.drewN | apply Blk.drew | apply Blk.alloc))).mono ?_; rintro e w2 ⟨rfl, hb⟩; replace hb := below_step (w := w1) (below_drew (Below.refl _ _)) hb; have d0 := pw_cell_below hb c0; have d1 := pw_cell_below hb c1; have d2 := pw_cell_below hb c2; have y0 := pw_cell_below hb hx0; have y1 := pw_cell_below hb hx1))
              have HD2 := Aside0.mk (HD1.out.below hb)
              have HCk2 := Aside0.mk (Kd.C_below HCk1.out hb)
              have HS2 := Aside0.mk (HS1.out.below hb)
              have HK2 := Aside0.mk (HK1.out.below hb)
              clear HS1 HK1 HD1 HCk1 hb c0 c1 c2 hx0 hx1 d0 d1 d2 y0 y1 HLF HCw
              go_wp2_with (first | ((with_reducible refine gate_dst (N := 74) rfl ?_); refine Kd.R_lit (Kd.int .i64) w2.heap.size 2 ?hg (N := 74) ?hd (xs := ([] : List Int)) (inner := []) (ok := fun _ => True) (okp := fun _ => True) ?hr ?hp (fun _ hk => hk) trivial (Below.refl _ _) (Nat.le_refl _) (by simp) ?_; (case hd => rfl); (case hg => rfl); (case hr => first | (go_simp; done) | (go_simp; rfl)); (case hp => exact (Reps.none _ _)); intro v3 w3 ho hb hg_ hnew_; clear hg_ hnew_; have HO := Aside0.mk ho; have HB1 := Aside0.mk hb; clear ho hb) | ((with_reducible refine gate_builtin (b := .append) (xs := #[.tmp 74, .tmp 75]) rfl ?_); at_builtin; refine Kd.R_append_rows (Kd.int .i64) (w0 := w2) w2.heap.size rfl (.tmp 74) (.tmp 75) 28 2 (.int .i64 0) 8 rfl Try.underlying28 info2 rfl (by decide) (by omega) v3 [] o _ _ _ (fun _ => True) (fun _ => False) rfl rfl ?aO ?aR (fun _ _ h => h) (fun _ h => h.elim) ?aF ?aB ?aS ?aL ?_; (case aR => exact (Kd.C_below HCk2.out HB1.out)); (case aB => exact HB1.out); (case aF => exact (fun _ _ => trivial)); (case aO => exact HO.out); (case aS => exact below_size HB1.out); (case aL => simp; omega); intro v4 w4 ho hb hg hat; have HO4 := Aside0.mk ho; have HB4 := Aside0.mk hb; clear ho hb hg hat) | ((with_reducible refine gate_builtin (b := .append) (xs := #[.tmp 76, .tmp 78]) rfl ?_); at_builtin; refine Kd.R_append (Kd.int .i64) (w0 := w2) w2.heap.size rfl (.tmp 76) (.tmp 78) 28 2 (.int .i64 0) 8 rfl Try.underlying28 (by kernel_rfl) rfl (by decide) (by decide) _ ([] ++ o) (k : Int) [.int .i64 (k : Int)] (fun _ => True) (fun _ => False) rfl rfl rfl (fun _ hk => hk.elim) (fun _ _ => trivial) HO4.out HB4.out (below_size HB4.out) (by simp; omega) ?_; intro v5 w5 hr5 hb5 hg5 _; have HI5 : Aside0 (Ir w5 w2.heap.size v5 (o ++ [(k : Int)])) := ⟨Ir.of_row hr5⟩; have HD5 := Aside0.mk (HD2.out.below hb5); have HS5 := Aside0.mk (HS2.out.below hb5); have HK5 := Aside0.mk (HK2.out.below hb5); have HC5 : Aside0 (∀ W', Kept w5 W' (fun k => k = gs) → Kd.C k52 W' (some ad) n ws) := ⟨Kd.C_kept_step HC.out HK5.out.2⟩; clear hr5 hb5 hg5 HO4 HB4 HB1 HO HS2 HD2 HCk2))
              refine (ih (o ++ [(k : Int)]) (s + r) _ w2.heap.size _ w5 (by simp; omega) (by rw [HSN.out, HSC.out]) HI5.out (fun e => by have := HI5.out.ne (g := gs) (by have := HK2.out.size; omega); exact this e) (by have := HK5.out.size; omega) (by have := HK5.out.size; omega) HS5.out HD5.out HC5.out).mono ?_
              rintro e w6 ⟨rfl, hS6, hK6⟩
              have HS6 := Aside0.mk hS6
              have HK6 := Aside0.mk (HK5.out.trans hK6)
              clear hS6 hK6 HS5 HD5 HC5 HI5 HK5
              go_wp2
              go_roundw
              case rel => exact ⟨k + 1, by omega, by go_num, ⟨by rw [HBO.out]; exact HS6.out⟩, HK6⟩
              case measure => simp [intOf] <;> omega
          · have hkn : k = n := by omega
            subst hkn
            have hki : ¬ (k : Int) < (k : Int) := by omega
            go_wp2
            ((try simp only [Exit.inBlock, Exit.then]); first | refine bodyPost_ret (results_none rfl _ _ _) rfl ?_ | refine bodyPost_end (results_none rfl _ _ _) rfl ?_)
            exact ⟨rfl, HS.out, HK.out⟩
end Go.Proofs.Ytdepnieanfjhjaa.X
