/- Contracts of functions, and plain facts: what each call answers, and what it leaves as it was. -/
import Derived.Test.YtdepnieanfjhjaaSco
import Derived.Test.YtdepnieanfjhjaaIr
set_option linter.unusedVariables false
set_option linter.unusedSimpArgs false
namespace Go.Proofs.Ytdepnieanfjhjaa.X
open Go.RowKit Go.Proofs.YtdepnieanfjhjaaW.PrintWords Go.Proofs.YtdepnieanfjhjaaW.PrintLast Go.Proofs.YtdepnieanfjhjaaW.PrintMore
attribute [local go_sem] max2_int min2_int max_two min_two max_three min_three max_four min_four
theorem on_ {ops : Array Oper} {oi : Oper} {a : Act} {X Y : Prop} (hw : Region.wanted oi (yielded ops a.tmps) = true) (h : X) : if Region.wanted oi (yielded ops a.tmps) = true then X else Y := by rw [if_pos hw]; exact h
/-- what stays while orders are tried: the day, the things, the hour, and what the closures have caught -/
def Fx (L : List Int) (ws : List S52) (A : Option Addr) (n cw h gD gli gfr gn gsc gb gl gch : Nat) (W : World) : Prop :=
  Blk W gD 33 (nums .i8 L) ∧ Blk W gli 35 [.slice A n cw] ∧ Blk W gfr 2 [.int .i64 (h : Int)] ∧ Blk W gn 3 [.int .i64 (n : Int)] ∧
  Blk W gsc 60 [.func (.func 23) #[] #[.pointer (some ⟨gD, 0, none⟩), .pointer (some ⟨gli, 0, none⟩), .pointer (some ⟨gfr, 0, none⟩)]] ∧
  Blk W gch 71 [(.func (.func 38) #[] #[.pointer (some ⟨gn, 0, none⟩), .pointer (some ⟨gsc, 0, none⟩), .pointer (some ⟨gl, 0, none⟩), .pointer (some ⟨gb, 0, none⟩), .pointer (some ⟨gch, 0, none⟩)])] ∧ (∀ W', Kept W W' (fun k => k = gb ∨ k = gl) → Kd.C k52 W' A n ws) ∧ (∀ g, (g = gD ∨ g = gli ∨ g = gfr ∨ g = gn ∨ g = gsc ∨ g = gch) → ¬ (g = gb ∨ g = gl))
theorem Fx.kept {L : List Int} {ws : List S52} {A : Option Addr} {n cw h gD gli gfr gn gsc gb gl gch : Nat} {W W' : World} (f : Fx L ws A n cw h gD gli gfr gn gsc gb gl gch W) (hk : Kept W W' (fun k => k = gb ∨ k = gl)) : Fx L ws A n cw h gD gli gfr gn gsc gb gl gch W' := by
  obtain ⟨f1, f2, f3, f4, f5, f6, f7, f8⟩ := f
  exact ⟨blk_kept f1 hk (f8 _ (by simp)), blk_kept f2 hk (f8 _ (by simp)), blk_kept f3 hk (f8 _ (by simp)), blk_kept f4 hk (f8 _ (by simp)), blk_kept f5 hk (f8 _ (by simp)), blk_kept f6 hk (f8 _ (by simp)), Kd.C_kept_step f7 hk, f8⟩
/-- the state of the search: what is the best order, and what it costs -/
def HgI (B gb gl : Nat) (W : World) (σ : BSt) : Prop :=
  ∃ (v : Value) (l : Int), Blk W gb 28 [v] ∧ Blk W gl 2 [.int .i64 l] ∧ ((σ = none ∧ v = .slice none 0 0 ∧ l = -1) ∨ ∃ b, σ = some (b, l) ∧ Ir W B v b ∧ v.ownBlock ≠ some gb ∧ v.ownBlock ≠ some gl)
theorem HgI.below {B gb gl : Nat} {W W' : World} {σ : BSt} (hh : HgI B gb gl W σ) (hb : Below W.heap.size W W') : HgI B gb gl W' σ := by
  obtain ⟨v, l, h1, h2, h3⟩ := hh
  refine ⟨v, l, h1.below hb, h2.below hb, ?_⟩
  rcases h3 with h3 | ⟨b, e, h3, h4⟩
  · exact .inl h3
  · exact .inr ⟨b, e, h3.below hb, h4⟩
theorem score_fx {L : List Int} (hL : L.length = 72) (hd : dayOk L = true) {ws : List S52} (hws : ∀ x ∈ ws, washOk x.f0 x.f1 = true) {h : Nat} (hh : h ≤ 24) {n cw : Nat} (hn : n = ws.length) (hn6 : n ≤ 6) {A : Option Addr} {gD gli gfr gn gsc gb gl gch : Nat} {o : List Int} (ho : ∀ x ∈ o, 0 ≤ x ∧ x < (n : Int)) (hol : o.length ≤ 6) (Ao : Option Addr) (co : Nat) (hco : o.length ≤ co) (w : World) (f : Fx L ws A n cw h gD gli gfr gn gsc gb gl gch w) (hO : Kd.C (Kd.int .i64) w Ao o.length o) :
    Calls Try.prog 23 #[.slice Ao o.length co, .pointer (some ⟨gD, 0, none⟩), .pointer (some ⟨gli, 0, none⟩), .pointer (some ⟨gfr, 0, none⟩)] w fun e w' => e = .returned (.int .i64 (scoreO (lfF L ws h) 0 o)) ∧ Below w.heap.size w w' :=
  score_calls L hL hd ws hws h hh n cw hn hn6 A o ho hol Ao co hco gD gli gfr w f.1 f.2.1 f.2.2.1 (f.2.2.2.2.2.2.1 w (Kept.refl _ _)) hO
set_option maxHeartbeats 8000000 in
set_option maxRecDepth 100000 in
theorem choose_calls (L : List Int) (hL : L.length = 72) (hd : dayOk L = true) (ws : List S52) (hws : ∀ x ∈ ws, washOk x.f0 x.f1 = true) (h : Nat) (hh : h ≤ 24) (n cw : Nat) (hn : n = ws.length) (hn6 : n ≤ 6) (A : Option Addr) (gD gli gfr gn gsc gb gl gch B : Nat) (hbl : gb ≠ gl) : ∀ (d : Nat) (o : List Int) (σ : BSt) (Bo : Nat) (vo : Value) (w : World), d + o.length = n → Ir w Bo vo o → (∀ x ∈ o, 0 ≤ x ∧ x < (n : Int)) → gb < Bo → gl < Bo → B ≤ Bo → B ≤ w.heap.size → HgI B gb gl w σ → BOk n σ → Fx L ws A n cw h gD gli gfr gn gsc gb gl gch w →
    Calls Try.prog 38 #[vo, .pointer (some ⟨gn, 0, none⟩), .pointer (some ⟨gsc, 0, none⟩), .pointer (some ⟨gl, 0, none⟩), .pointer (some ⟨gb, 0, none⟩), .pointer (some ⟨gch, 0, none⟩)] w fun e w' => e = .returned (.tuple #[]) ∧ HgI B gb gl w' (bo n (lfF L ws h) d o σ) ∧ KpG w w' (fun k => k = gb ∨ k = gl) := by
  have hlf := lfF_ok hd hws h
  have hbl2 : gl ≠ gb := fun e => hbl e.symm
  have HSCO := Aside0.mk (fun {o : List Int} ho hol Ao co hco w f hO => score_fx (o := o) hL hd hws hh (n := n) (cw := cw) hn hn6 (A := A) (gD := gD) (gli := gli) (gfr := gfr) (gn := gn) (gsc := gsc) (gb := gb) (gl := gl) (gch := gch) ho hol Ao co hco w f hO)
  clear hn hws hL hd
  obtain ⟨i0, hi_, hz0, hz1, hz2⟩ := info_parts int64Info
  have HI := Aside0.mk (And.intro hi_ (And.intro hz0 (And.intro hz1 hz2)))
  clear hi_ hz0 hz1 hz2
  intro d
  induction d with
  | zero =>
    intro o σ Bo vo w hlen hI ho hgb hgl hB hBw hH hO hF
    obtain ⟨Ao, co, rfl, hco, hCo⟩ := Kd.R_reads hI.row
    have hsr0 := scoreO_range hlf o 0
    have hF0 := hF
    have HH := Aside0.mk hH
    have HII := Aside0.mk hI
    have HSX := Aside0.mk (HSCO.out ho (by omega) Ao co hco w hF hCo)
    have ngb := hI.ne hgb
    have ngl := hI.ne hgl
    obtain ⟨v, l, hb1, hb2, hM⟩ := hH
    obtain ⟨_, _, _, f4, f5, _, _, _⟩ := hF
    have c0 := f4.cell 0 (v := .int .i64 (n : Int)) rfl
    have c1 := f5.cell 0 rfl
    have HBB := Aside0.mk hb1
    have HBL := Aside0.mk hb2
    have hon : (o.length : Int) = (n : Int) := by omega
    have HBO0 : Aside0 (bo n (lfF L ws h) 0 o σ = updB σ o (scoreO (lfF L ws h) 0 o)) := ⟨rfl⟩
    rw [HBO0.out]
    clear HBO0
    generalize scoreO (lfF L ws h) 0 o = s at *
    clear hI ho hCo f4 f5 HSCO hF0 hb1 hb2
    have hs0 : 0 ≤ s := hsr0.1
    rcases hM with ⟨rfl, rfl, rfl⟩ | ⟨b, rfl, hIb, hvb⟩
    · rw [show updB none o s = some (o, s) from rfl]
      go_enter Try.func38, Try.ntmps38
      go_wp2_with fail
      refine HSX.out.mono ?_
      rintro e w1 ⟨rfl, hb1⟩
      have HBB1 := Aside0.mk (HBB.out.below hb1)
      have HBL1 := Aside0.mk (HBL.out.below hb1)
      have c3 := HBL1.out.cell 0 rfl
      have c4 := HBB1.out.cell 0 rfl
      have f3 := HBL1.out.frozen 0
      have f4 := HBB1.out.frozen 0
      clear c0 c1
      go_wp2
      ((try simp only [Exit.inBlock, Exit.then]); first | refine bodyPost_ret (results_none rfl _ _ _) rfl ?_ | refine bodyPost_end (results_none rfl _ _ _) rfl ?_)
      have I1 := (HII.out.below hb1).lower hB
      have B1 := HBB1.out.set 0 (.slice Ao o.length co)
      have B2 := B1.grown (grown_set _ gl 0 (.int .i64 s)) (by simpa using hbl)
      have L1 := HBL1.out.grown (grown_set w1 gb 0 (.slice Ao o.length co)) (by simpa using hbl2)
      have L2 := L1.set 0 (.int .i64 s)
      have I2 := I1.grown (grown_set w1 gb 0 (.slice Ao o.length co)) (.inr ngb)
      have I3 := I2.grown (grown_set _ gl 0 (.int .i64 s)) (.inr ngl)
      have K1 := (KpG.of_below hb1 (fun k => k = gb ∨ k = gl)).setCell (p := ⟨gb, 0, none⟩) (.inl (.inl rfl)) (.slice Ao o.length co)
      have K2 := K1.setCell (p := ⟨gl, 0, none⟩) (.inl (.inr rfl)) (.int .i64 s)
      exact ⟨rfl, ⟨_, _, B2, L2, .inr ⟨o, rfl, I3, ngb, ngl⟩⟩, K2⟩
    · have hl0 := (hO b l rfl).2.1
      by_cases hsl : s < l
      · rw [show updB (some (b, l)) o s = some (o, s) from if_pos hsl]
        have hl1 : ¬ l < 0 := by omega
        go_enter Try.func38, Try.ntmps38
        go_wp2_with fail
        refine HSX.out.mono ?_
        rintro e w1 ⟨rfl, hb1⟩
        have HBB1 := Aside0.mk (HBB.out.below hb1)
        have HBL1 := Aside0.mk (HBL.out.below hb1)
        have c3 := HBL1.out.cell 0 rfl
        have c4 := HBB1.out.cell 0 rfl
        have f3 := HBL1.out.frozen 0
        have f4 := HBB1.out.frozen 0
        clear c0 c1
        go_wp2
        ((try simp only [Exit.inBlock, Exit.then]); first | refine bodyPost_ret (results_none rfl _ _ _) rfl ?_ | refine bodyPost_end (results_none rfl _ _ _) rfl ?_)
        have I1 := (HII.out.below hb1).lower hB
        have B1 := HBB1.out.set 0 (.slice Ao o.length co)
        have B2 := B1.grown (grown_set _ gl 0 (.int .i64 s)) (by simpa using hbl)
        have L1 := HBL1.out.grown (grown_set w1 gb 0 (.slice Ao o.length co)) (by simpa using hbl2)
        have L2 := L1.set 0 (.int .i64 s)
        have I2 := I1.grown (grown_set w1 gb 0 (.slice Ao o.length co)) (.inr ngb)
        have I3 := I2.grown (grown_set _ gl 0 (.int .i64 s)) (.inr ngl)
        have K1 := (KpG.of_below hb1 (fun k => k = gb ∨ k = gl)).setCell (p := ⟨gb, 0, none⟩) (.inl (.inl rfl)) (.slice Ao o.length co)
        have K2 := K1.setCell (p := ⟨gl, 0, none⟩) (.inl (.inr rfl)) (.int .i64 s)
        exact ⟨rfl, ⟨_, _, B2, L2, .inr ⟨o, rfl, I3, ngb, ngl⟩⟩, K2⟩
      · rw [show updB (some (b, l)) o s = some (b, l) from if_neg hsl]
        have hl1 : ¬ l < 0 := by omega
        go_enter Try.func38, Try.ntmps38
        go_wp2_with fail
        refine HSX.out.mono ?_
        rintro e w1 ⟨rfl, hb1⟩
        have HBB1 := Aside0.mk (HBB.out.below hb1)
        have HBL1 := Aside0.mk (HBL.out.below hb1)
        have c3 := HBL1.out.cell 0 rfl
        have c4 := HBB1.out.cell 0 rfl
        have f3 := HBL1.out.frozen 0
        have f4 := HBB1.out.frozen 0
        clear c0 c1
        go_wp2
        ((try simp only [Exit.inBlock, Exit.then]); first | refine bodyPost_ret (results_none rfl _ _ _) rfl ?_ | refine bodyPost_end (results_none rfl _ _ _) rfl ?_)
        exact ⟨rfl, HH.out.below hb1, KpG.of_below hb1 _⟩
  | succ d ih =>
    intro o σ Bo vo w hlen hI ho hgb hgl hB hBw hH hO hF
    obtain ⟨Ao, co, rfl, hco, hCo⟩ := Kd.R_reads hI.row
    have ngb := hI.ne hgb
    have ngl := hI.ne hgl
    have HWW : Aside0 (gb < w.heap.size ∧ gl < w.heap.size ∧ B ≤ w.heap.size) := ⟨by
      obtain ⟨_, _, h1, h2, h3⟩ := hH
      exact ⟨h1.lt, h2.lt, hBw⟩⟩
    have HCO2 := Aside0.mk (Kd.C_kept_own (S := (fun k => k = gb ∨ k = gl)) hI.row (fun k hk e => by rcases e with rfl | rfl; exact ngb hk; exact ngl hk))
    have HBO : Aside0 (∀ k, BOk n (boK (fun i σ => bo n (lfF L ws h) d (o ++ [(i : Int)]) σ) o k σ)) := ⟨fun k => boK_ok (fun i σ' hσ => bo_ok hlf d _ (by simp; omega) hσ) k hO⟩
    have HOK : Aside0 (∀ {k : Nat}, k < n → ∀ x ∈ o ++ [(k : Int)], 0 ≤ x ∧ x < (n : Int)) := ⟨fun hk x hx => by
      rw [List.mem_append, List.mem_singleton] at hx
      rcases hx with hx | rfl
      · exact ho x hx
      · omega⟩
    have HH := Aside0.mk hH
    have HF := Aside0.mk hF
    have c0 := hF.2.2.2.1.cell 0 (v := .int .i64 (n : Int)) rfl
    have hon : ¬ (o.length : Int) = (n : Int) := by omega
    have hob : ((o.length : Int) == (n : Int)) = false := beq_eq_false_iff_ne.2 hon
    have HCL : Aside0 (∀ W, Kd.C (Kd.int .i64) W Ao o.length o → Calls Try.prog 40 #[.slice Ao o.length co] W fun e w' => ∃ v0_ : Value, e = .returned v0_ ∧ Kd.R (Kd.int .i64) 2 w' W.heap.size (fun _ => True) v0_ o ∧ Below W.heap.size W w') := ⟨fun W hC => slices_Clone_int64_int64.calls Ao co o o W hC hco (by unfold slices_Clone_int64_int64.f; rw [if_pos (by omega)])⟩
    have HBO0 : Aside0 (bo n (lfF L ws h) (d + 1) o σ = boK (fun i σ => bo n (lfF L ws h) d (o ++ [(i : Int)]) σ) o n σ) := ⟨rfl⟩
    rw [HBO0.out]
    clear HBO0 hI hCo ho hH hO hF HSCO
    go_enter Try.func38, Try.ntmps38
    go_wp2
    clear c0
    go_loopw [30] (fun v30 w' => ∃ k : Nat, k ≤ n ∧ v30 = .int .i64 k ∧ Aside0 (HgI B gb gl w' (boK (fun i σ => bo n (lfF L ws h) d (o ++ [(i : Int)]) σ) o k σ)) ∧ Aside0 (KpG w w' (fun k => k = gb ∨ k = gl))) (fun v30 _ => n - (intOf v30).toNat)
    case atStart => exact ⟨0, by omega, rfl, HH, ⟨KpG.refl _ _⟩⟩
    case round =>
      obtain ⟨k, hk, rfl, HS, HK⟩ := hrel
      obtain ⟨wo, rfl⟩ : ∃ wo : World, wo = wr := ⟨_, rfl⟩
      have hk9 : IntKind.i64.wrap ((k : Int) + 1) = (k : Int) + 1 := IntWalk.i64_in _ ⟨by omega, by omega⟩
      by_cases hlt : k < n
      · have hki : (k : Int) < (n : Int) := by omega
        have HCk := Aside0.mk (HCO2.out wo HK.out.2)
        have HM := Aside0.mk (contains_f (k : Int) (l := o) (by omega))
        by_cases hin : (k : Int) ∈ o
        · rw [decide_eq_true hin] at HM
          have HBK : Aside0 (boK (fun i σ => bo n (lfF L ws h) d (o ++ [(i : Int)]) σ) o (k + 1) σ = boK (fun i σ => bo n (lfF L ws h) d (o ++ [(i : Int)]) σ) o k σ) := ⟨if_pos hin⟩
          clear hin
          go_wp2_with fail
          refine (slices_Contains_int64_int64.calls (o.length + 1) Ao co o (k : Int) true _ HCk.out hco HM.out).mono ?_
          rintro e w1 ⟨rfl, hd1⟩
          have hb1 := hd1.below
          clear hd1
          go_wp2
          go_roundw
          case rel => exact ⟨k + 1, by omega, by go_num, ⟨by rw [HBK.out]; exact HS.out.below hb1⟩, ⟨HK.out.below hb1⟩⟩
          case measure => simp [intOf] <;> omega
        · rw [decide_eq_false hin] at HM
          have HBK : Aside0 (boK (fun i σ => bo n (lfF L ws h) d (o ++ [(i : Int)]) σ) o (k + 1) σ = bo n (lfF L ws h) d (o ++ [(k : Int)]) (boK (fun i σ => bo n (lfF L ws h) d (o ++ [(i : Int)]) σ) o k σ)) := ⟨if_neg hin⟩
          clear hin
          go_wp2_with fail
          refine (slices_Contains_int64_int64.calls (o.length + 1) Ao co o (k : Int) false _ HCk.out hco HM.out).mono ?_
          rintro e w1 ⟨rfl, hd1⟩
          have hb1 := hd1.below
          have HF1 := Aside0.mk ((HF.out.kept HK.out.2).kept (Kept.of_below hb1 _))
          have c5 := HF1.out.2.2.2.2.2.1.cell 0 rfl
          have HCo := Aside0.mk (Kd.C_below HCk.out hb1)
          have HS1 := Aside0.mk (HS.out.below hb1)
          have HK1 := Aside0.mk (HK.out.below hb1)
          have hw1 := HK1.out.2.1
          have HX0 : Aside0 (Below w1.heap.size w1 w1.drew) := ⟨below_drew (Below.refl _ _)⟩
          clear hd1 hb1 HS HK HCk
          go_wp2_with fail
          refine start_ (n := 7) (S := fun w' => w'.cell? ⟨gch, 0, none⟩ = some (.func (.func 38) #[] #[.pointer (some ⟨gn, 0, none⟩), .pointer (some ⟨gsc, 0, none⟩), .pointer (some ⟨gl, 0, none⟩), .pointer (some ⟨gb, 0, none⟩), .pointer (some ⟨gch, 0, none⟩)])) (ds := []) #[false, false, false, false, false, false, false] (by kernel_rfl) rfl rfl c5 (fun hHeld => ?_)
          generalize w1.drew = w9 at HX0 hHeld ⊢
          refine take_ (i := 0) (N := some 37) (v := ?_) (a' := ?_) #[true, false, false, false, false, false, false] rfl rfl (by kernel_rfl) (fun _ _ _ h => h) (Or.inl ⟨by rfl, ?_⟩) hHeld ?_ ?_
          rotate_left
          · intro w' s0
            go_simp
            with_reducible rfl
          rotate_left
          · simp only [Act.put, List.setIfInBounds_toArray, List.set_cons_zero, List.set_cons_succ, i64_w, i32_w]
            rfl
          refine pure_ (i := 1) (N := some 38) (v := ?_) (a' := ?_) #[true, true, false, false, false, false, false] rfl rfl (by kernel_rfl) (fun _ _ _ h => h) (Or.inl ⟨by rfl, ?_⟩) ?_ ?_
          rotate_left
          · intro w'
            go_simp
            with_reducible rfl
          rotate_left
          · simp only [Act.put, List.setIfInBounds_toArray, List.set_cons_zero, List.set_cons_succ, i64_w, i32_w]
            rfl
          refine pure_ (i := 3) (N := some 40) (v := ?_) (a' := ?_) #[true, true, false, true, false, false, false] rfl rfl (by kernel_rfl) (fun _ _ _ h => h) (Or.inl ⟨by rfl, ?_⟩) ?_ ?_
          rotate_left
          · intro w'
            go_simp
            with_reducible rfl
          rotate_left
          · simp only [Act.put, List.setIfInBounds_toArray, List.set_cons_zero, List.set_cons_succ, i64_w, i32_w]
            rfl
          refine two_ (i := 2) (j := 4) (Ni := some 39) (Nj := some 41) #[true, true, true, true, false, false, false] #[true, true, false, true, true, false, false] rfl rfl rfl rfl (by kernel_rfl) (by decide) (by decide) (fun K hK => ?_) (fun K hK => ?_)
          · refine goes_ Try.func40 (by kernel_rfl) rfl #[.slice Ao o.length co] (by rfl) rfl rfl (by (try simp only [List.map_toArray, List.map_cons, List.map_nil]); first | done | rfl) ?_
            refine (HCL.out _ (Kd.C_below HCo.out HX0.out)).mono ?_
            rintro e wq ⟨vq, rfl, hRq, hbq⟩
            refine ⟨_, rfl, ?_⟩
            have HX1 := Aside0.mk (below_step HX0.out hbq)
            have HQ : Aside0 (wq.ownsRow w1.heap.size 2 1 vq o.length (nums .i64 o)) := ⟨own_weaken (base' := w1.heap.size) (Kd.own_of_R hRq) (Below.size HX0.out)⟩
            refine hK.out _ _ (pw_cell_below HX1.out c5) (fun hHeld => ?_)
            clear hK K HX0 hRq hbq
            refine norm_ (a' := ?_) ?_ ?_
            rotate_left
            · show Act.put _ (some 39) _ = _
              simp only [Act.put, List.setIfInBounds_toArray, List.set_cons_zero, List.set_cons_succ, i64_w, i32_w]
              rfl
            refine one_ (i := 4) (N := some 41) #[true, true, true, true, true, false, false] rfl rfl (by kernel_rfl) (by decide) (fun K hK => ?_)
            refine value_ (v := ?_) (w1 := ?_) (by rfl) rfl ?_ ?_
            rotate_left
            rotate_left
            · go_simp
              first | (refine ⟨?_, ?_⟩ <;> rfl) | rfl
            have HX2 := Aside0.mk (below_alloc HX1.out (.cells #[.int .i64 (k : Int)] 2))
            have HBJ : Aside0 (Blk (wq.alloc (.cells #[.int .i64 (k : Int)] 2)) wq.heap.size 2 [.int .i64 (k : Int)]) := ⟨Blk.new wq _ _⟩
            have HQ2 : Aside0 ((wq.alloc (.cells #[.int .i64 (k : Int)] 2)).ownsRow w1.heap.size 2 1 vq o.length (nums .i64 o)) := ⟨own_alloc HQ.out _⟩
            clear HQ
            have HQ := HQ2
            clear HQ2
            refine hK.out _ _ (pw_cell_below HX2.out c5) (fun hHeld => ?_)
            clear hK K HX1
            refine norm_ (a' := ?_) ?_ ?_
            rotate_left
            · show Act.put _ (some 41) _ = _
              simp only [Act.put, List.setIfInBounds_toArray, List.set_cons_zero, List.set_cons_succ, i64_w, i32_w]
              rfl
            refine one_ (i := 5) (N := some 42) #[true, true, true, true, true, true, false] rfl rfl (by kernel_rfl) (by decide) (fun K hK => ?_)
            refine on_ (by rfl) ?_
            refine wp_append_lies _ _ _ 28 (by rfl) w1.heap.size 2 i0 _ 1 8 Try.underlying28 HI.out.1 HI.out.2.1 HI.out.2.2.1 HI.out.2.2.2 (by rfl) (by decide) _ o.length (nums .i64 o) (by rfl) HQ.out ⟨wq.heap.size, 0, none⟩ 1 1 [.int .i64 (k : Int)] (by rfl) (by rfl) (World.news_of_block HBJ.out) (by intro u hu; simp at hu; subst hu; rfl) (by decide) (by unfold maxLen; omega) (by omega) (Below.size HX2.out) _ rfl ?_
            intro g' cap' w3 hown hgrow hat hlt'
            have HX3 := Aside0.mk (pw_below_grown HX2.out _ (Below.size HX2.out) hgrow (fun k_ e_ => own_base HQ.out k_ e_))
            have HU : Aside0 (Ir w3 w1.heap.size (.slice (some ⟨g', 0, none⟩) (o.length + 1) cap') (o ++ [(k : Int)])) := ⟨by unfold Ir; rw [← nums_snoc, List.length_append, List.length_singleton]; exact hown⟩
            clear hown hgrow hat hlt' HQ HBJ
            refine hK.out _ _ (pw_cell_below HX3.out c5) (fun hHeld => ?_)
            clear hK K HX2
            refine norm_ (a' := ?_) ?_ ?_
            rotate_left
            · show Act.put _ (some 42) _ = _
              simp only [Act.put, List.setIfInBounds_toArray, List.set_cons_zero, List.set_cons_succ, i64_w, i32_w]
              rfl
            refine one_ (i := 6) (N := some 43) #[true, true, true, true, true, true, true] rfl rfl (by kernel_rfl) (by decide) (fun K hK => ?_)
            refine goesF_ Try.func38 (by kernel_rfl) rfl #[.pointer (some ⟨gn, 0, none⟩), .pointer (some ⟨gsc, 0, none⟩), .pointer (some ⟨gl, 0, none⟩), .pointer (some ⟨gb, 0, none⟩), .pointer (some ⟨gch, 0, none⟩)] #[.slice (some ⟨g', 0, none⟩) (o.length + 1) cap'] _ (by rfl) rfl rfl (by rfl) (by (try simp only [List.map_toArray, List.map_cons, List.map_nil]); first | done | rfl) (by rfl) ?_
            refine (ih (o ++ [(k : Int)]) (boK (fun i σ => bo n (lfF L ws h) d (o ++ [(i : Int)]) σ) o k σ) w1.heap.size _ w3 (by simp; omega) HU.out (HOK.out hlt) (by have := HWW.out.1; omega) (by have := HWW.out.2.1; omega) (by have := HWW.out.2.2; omega) (by have := HWW.out.2.2; have := Below.size HX3.out; omega) (HS1.out.below HX3.out) (HBO.out k) (HF1.out.kept (Kept.of_below HX3.out _))).mono ?_
            rintro e w4 ⟨rfl, hS4, hK4⟩
            refine ⟨_, rfl, ?_⟩
            have HS4 : Aside0 (HgI B gb gl w4 (boK (fun i σ => bo n (lfF L ws h) d (o ++ [(i : Int)]) σ) o (k + 1) σ)) := ⟨by rw [HBK.out]; exact hS4⟩
            have HK4 : Aside0 (KpG w w4 (fun k => k = gb ∨ k = gl)) := ⟨(HK1.out.below HX3.out).trans hK4⟩
            have HF4 : Aside0 (Fx L ws A n cw h gD gli gfr gn gsc gb gl gch w4) := ⟨(HF1.out.kept (Kept.of_below HX3.out _)).kept hK4.2⟩
            clear hS4 hK4 HU
            refine hK.out _ _ (HF4.out.2.2.2.2.2.1.cell 0 rfl) (fun hHeld => ?_)
            clear hK K HX3
            refine norm_ (a' := ?_) ?_ ?_
            rotate_left
            · show Act.put _ (some 43) _ = _
              simp only [Act.put, List.setIfInBounds_toArray, List.set_cons_zero, List.set_cons_succ, i64_w, i32_w]
              rfl
            refine done_ (by kernel_rfl) ?_
            clear hHeld
            go_wp2
            go_roundw
            case rel => exact ⟨k + 1, by omega, by go_num, HS4, HK4⟩
            case measure => simp [intOf] <;> omega
          · refine value_ (v := ?_) (w1 := ?_) (by rfl) rfl ?_ ?_
            rotate_left
            rotate_left
            · go_simp
              first | (refine ⟨?_, ?_⟩ <;> rfl) | rfl
            have HX1 := Aside0.mk (below_alloc HX0.out (.cells #[.int .i64 (k : Int)] 2))
            have HBJ : Aside0 (Blk (w9.alloc (.cells #[.int .i64 (k : Int)] 2)) w9.heap.size 2 [.int .i64 (k : Int)]) := ⟨Blk.new w9 _ _⟩
            refine hK.out _ _ (pw_cell_below HX1.out c5) (fun hHeld => ?_)
            clear hK K HX0
            refine norm_ (a' := ?_) ?_ ?_
            rotate_left
            · show Act.put _ (some 41) _ = _
              simp only [Act.put, List.setIfInBounds_toArray, List.set_cons_zero, List.set_cons_succ, i64_w, i32_w]
              rfl
            refine one_ (i := 2) (N := some 39) #[true, true, true, true, true, false, false] rfl rfl (by kernel_rfl) (by decide) (fun K hK => ?_)
            refine goes_ Try.func40 (by kernel_rfl) rfl #[.slice Ao o.length co] (by rfl) rfl rfl (by (try simp only [List.map_toArray, List.map_cons, List.map_nil]); first | done | rfl) ?_
            refine (HCL.out _ (Kd.C_below HCo.out HX1.out)).mono ?_
            rintro e wq ⟨vq, rfl, hRq, hbq⟩
            refine ⟨_, rfl, ?_⟩
            have HX2 := Aside0.mk (below_step HX1.out hbq)
            have HQ : Aside0 (wq.ownsRow w1.heap.size 2 1 vq o.length (nums .i64 o)) := ⟨own_weaken (base' := w1.heap.size) (Kd.own_of_R hRq) (Below.size HX1.out)⟩
            have HBJ2 := Aside0.mk (HBJ.out.below hbq)
            clear HBJ
            have HBJ := HBJ2
            clear HBJ2
            refine hK.out _ _ (pw_cell_below HX2.out c5) (fun hHeld => ?_)
            clear hK K HX1 hRq hbq
            refine norm_ (a' := ?_) ?_ ?_
            rotate_left
            · show Act.put _ (some 39) _ = _
              simp only [Act.put, List.setIfInBounds_toArray, List.set_cons_zero, List.set_cons_succ, i64_w, i32_w]
              rfl
            refine one_ (i := 5) (N := some 42) #[true, true, true, true, true, true, false] rfl rfl (by kernel_rfl) (by decide) (fun K hK => ?_)
            refine on_ (by rfl) ?_
            refine wp_append_lies _ _ _ 28 (by rfl) w1.heap.size 2 i0 _ 1 8 Try.underlying28 HI.out.1 HI.out.2.1 HI.out.2.2.1 HI.out.2.2.2 (by rfl) (by decide) _ o.length (nums .i64 o) (by rfl) HQ.out ⟨w9.heap.size, 0, none⟩ 1 1 [.int .i64 (k : Int)] (by rfl) (by rfl) (World.news_of_block HBJ.out) (by intro u hu; simp at hu; subst hu; rfl) (by decide) (by unfold maxLen; omega) (by omega) (Below.size HX2.out) _ rfl ?_
            intro g' cap' w3 hown hgrow hat hlt'
            have HX3 := Aside0.mk (pw_below_grown HX2.out _ (Below.size HX2.out) hgrow (fun k_ e_ => own_base HQ.out k_ e_))
            have HU : Aside0 (Ir w3 w1.heap.size (.slice (some ⟨g', 0, none⟩) (o.length + 1) cap') (o ++ [(k : Int)])) := ⟨by unfold Ir; rw [← nums_snoc, List.length_append, List.length_singleton]; exact hown⟩
            clear hown hgrow hat hlt' HQ HBJ
            refine hK.out _ _ (pw_cell_below HX3.out c5) (fun hHeld => ?_)
            clear hK K HX2
            refine norm_ (a' := ?_) ?_ ?_
            rotate_left
            · show Act.put _ (some 42) _ = _
              simp only [Act.put, List.setIfInBounds_toArray, List.set_cons_zero, List.set_cons_succ, i64_w, i32_w]
              rfl
            refine one_ (i := 6) (N := some 43) #[true, true, true, true, true, true, true] rfl rfl (by kernel_rfl) (by decide) (fun K hK => ?_)
            refine goesF_ Try.func38 (by kernel_rfl) rfl #[.pointer (some ⟨gn, 0, none⟩), .pointer (some ⟨gsc, 0, none⟩), .pointer (some ⟨gl, 0, none⟩), .pointer (some ⟨gb, 0, none⟩), .pointer (some ⟨gch, 0, none⟩)] #[.slice (some ⟨g', 0, none⟩) (o.length + 1) cap'] _ (by rfl) rfl rfl (by rfl) (by (try simp only [List.map_toArray, List.map_cons, List.map_nil]); first | done | rfl) (by rfl) ?_
            refine (ih (o ++ [(k : Int)]) (boK (fun i σ => bo n (lfF L ws h) d (o ++ [(i : Int)]) σ) o k σ) w1.heap.size _ w3 (by simp; omega) HU.out (HOK.out hlt) (by have := HWW.out.1; omega) (by have := HWW.out.2.1; omega) (by have := HWW.out.2.2; omega) (by have := HWW.out.2.2; have := Below.size HX3.out; omega) (HS1.out.below HX3.out) (HBO.out k) (HF1.out.kept (Kept.of_below HX3.out _))).mono ?_
            rintro e w4 ⟨rfl, hS4, hK4⟩
            refine ⟨_, rfl, ?_⟩
            have HS4 : Aside0 (HgI B gb gl w4 (boK (fun i σ => bo n (lfF L ws h) d (o ++ [(i : Int)]) σ) o (k + 1) σ)) := ⟨by rw [HBK.out]; exact hS4⟩
            have HK4 : Aside0 (KpG w w4 (fun k => k = gb ∨ k = gl)) := ⟨(HK1.out.below HX3.out).trans hK4⟩
            have HF4 : Aside0 (Fx L ws A n cw h gD gli gfr gn gsc gb gl gch w4) := ⟨(HF1.out.kept (Kept.of_below HX3.out _)).kept hK4.2⟩
            clear hS4 hK4 HU
            refine hK.out _ _ (HF4.out.2.2.2.2.2.1.cell 0 rfl) (fun hHeld => ?_)
            clear hK K HX3
            refine norm_ (a' := ?_) ?_ ?_
            rotate_left
            · show Act.put _ (some 43) _ = _
              simp only [Act.put, List.setIfInBounds_toArray, List.set_cons_zero, List.set_cons_succ, i64_w, i32_w]
              rfl
            refine done_ (by kernel_rfl) ?_
            clear hHeld
            go_wp2
            go_roundw
            case rel => exact ⟨k + 1, by omega, by go_num, HS4, HK4⟩
            case measure => simp [intOf] <;> omega
      · have hkn : k = n := by omega
        subst hkn
        have hki : ¬ (k : Int) < (k : Int) := by omega
        go_wp2
        ((try simp only [Exit.inBlock, Exit.then]); first | refine bodyPost_ret (results_none rfl _ _ _) rfl ?_ | refine bodyPost_end (results_none rfl _ _ _) rfl ?_)
        exact ⟨rfl, HS.out, HK.out⟩
end Go.Proofs.Ytdepnieanfjhjaa.X
