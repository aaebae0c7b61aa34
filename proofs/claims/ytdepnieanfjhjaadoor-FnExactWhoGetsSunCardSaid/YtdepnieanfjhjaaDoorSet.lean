/- Contracts of functions, and plain facts: what each call answers, and what it leaves as it was. -/
import Derived.Test.YtdepnieanfjhjaaDoorBit
import Derived.Test.YtdepnieanfjhjaaDoorG10
import Derived.Test.YtdepnieanfjhjaaDoorX7
set_option linter.unusedVariables false
set_option linter.unusedSimpArgs false
namespace Go.Proofs.YtdepnieanfjhjaaDoor.X
open Go.RowKit Go.Proofs.YtdepnieanfjhjaaDoorW.PrintWords Go.Proofs.YtdepnieanfjhjaaDoorW.PrintLast Go.Proofs.YtdepnieanfjhjaaDoorW.PrintMore
attribute [local go_sem] max2_int min2_int max_two min_two max_three min_three max_four min_four
theorem on_ {ops : Array Oper} {oi : Oper} {a : Act} {X Y : Prop} (hw : Region.wanted oi (yielded ops a.tmps) = true) (h : X) : if Region.wanted oi (yielded ops a.tmps) = true then X else Y := by rw [if_pos hw]; exact h
/-- what a thing costs, in the sun and in the shade, out of two rows -/
def cW (Sx Sy : List Int) (i : Nat) (b : Bool) : Int := if b = true then Sx.getD i 0 else Sy.getD i 0
/-- the state of the search -/
def HgW (B gs : Nat) (As Ay : Option Addr) (n cs cy : Nat) (places : Int) (W : World) (σ : BSt) : Prop :=
  ∃ (v : Value) (least : Int) (found : Bool), Blk W gs 48 [.slice As n cs, .slice Ay n cy, v, .int .i64 least, .bool found, .int .i64 places] ∧
    ((σ = none ∧ v = .slice none 0 0 ∧ least = 0 ∧ found = false) ∨ ∃ b, σ = some (b, least) ∧ found = true ∧ Ir W B v b ∧ v.ownBlock ≠ some gs ∧ b.length ≤ 6)
theorem HgW.below {B gs : Nat} {As Ay : Option Addr} {n cs cy : Nat} {places : Int} {W W' : World} {σ : BSt} (hh : HgW B gs As Ay n cs cy places W σ) (hb : Below W.heap.size W W') : HgW B gs As Ay n cs cy places W' σ := by
  obtain ⟨v, l, f, h1, h2⟩ := hh
  refine ⟨v, l, f, h1.below hb, ?_⟩
  rcases h2 with h2 | ⟨b, e, ef, h3, h4, h5⟩
  · exact .inl h2
  · exact .inr ⟨b, e, ef, h3.below hb, h4, h5⟩
theorem ownL_le6 {m k : Nat} (h : m < 2 ^ k) (hk : k ≤ 6) : (ownL m).length ≤ 6 := by
  have h1 : 2 ^ k ≤ 2 ^ 6 := Nat.pow_le_pow_right (by decide) hk
  exact ownL_range m (by omega)
theorem ir_nil (W : World) {base : Nat} (hb : base ≤ W.heap.size) : Ir (W.alloc (.cells #[] 2)) base (.slice (some ⟨W.heap.size, 0, none⟩) 0 0) [] := by
  have h2_ := World.ownsRow_made W (base := base) (e := 2) (size := 1) #[] 0 hb (by decide) (by rfl)
  simpa [Ir, nums] using h2_
set_option maxHeartbeats 8000000 in
set_option maxRecDepth 100000 in
theorem sets_calls (Sx Sy : List Int) (n : Nat) (hx : Sx.length = n) (hy : Sy.length = n) (hc : CstOk (cW Sx Sy)) (hn6 : n ≤ 6) (places : Int) (gs B : Nat) (As Ay : Option Addr) (cs cy : Nat) : ∀ (d k m : Nat) (σ : BSt) (Bo : Nat) (vo : Value) (w : World) (s : Int) (ki : Int), k + d = n → ki = k → m < 2 ^ k → ((ownL m).length : Int) ≤ places → 0 ≤ s → s ≤ 1000 * k → Ir w Bo vo (ownL m) → vo.ownBlock ≠ some gs → gs < w.heap.size → B ≤ w.heap.size → HgW B gs As Ay n cs cy places w σ → (∀ W', Kept w W' (fun q => q = gs) → Kd.C (Kd.int .i64) W' As n Sx) → (∀ W', Kept w W' (fun q => q = gs) → Kd.C (Kd.int .i64) W' Ay n Sy) →
    Calls Tryd.prog 18 #[.pointer (some ⟨gs, 0, none⟩), .int .i64 ki, vo, .int .i64 s] w fun e w' => e = .returned (.tuple #[]) ∧ HgW B gs As Ay n cs cy places w' (wsR (cW Sx Sy) n places d m s σ) ∧ KpG w w' (fun q => q = gs) := by
  have HLX := Aside0.mk hx
  have HLY := Aside0.mk hy
  obtain ⟨i0, hi_, hz0, hz1, hz2⟩ := info_parts int64Info
  have HI := Aside0.mk (And.intro hi_ (And.intro hz0 (And.intro hz1 hz2)))
  clear hi_ hz0 hz1 hz2 hx hy
  intro d
  induction d with
  | zero =>
    intro k m σ Bo vo w s ki hkd hki hm hol hs0 hs1 hI hvn hgs hB hH hCX hCY
    have ho6 : (ownL m).length ≤ 6 := ownL_le6 hm (by omega)
    obtain ⟨o, hom⟩ : ∃ o, ownL m = o := ⟨_, rfl⟩
    have HOM := Aside0.mk hom
    have hol' := hol
    rw [hom] at hI ho6 hol'
    obtain ⟨Ao, co, rfl, hco, hCo⟩ := Kd.R_reads hI.row
    have HCo := Aside0.mk hCo
    have HII := Aside0.mk hI
    have HCO2 := Aside0.mk (Kd.C_kept_own (S := fun q => q = gs) hI.row (fun q hq e => hvn (by rw [hq, e])))
    have HCX := Aside0.mk hCX
    have HCY := Aside0.mk hCY
    have HH := Aside0.mk hH
    clear hI hCo hCX hCY
    have hkn : ki = (n : Int) := by omega
    subst hkn
    have HB0 : Aside0 (wsR (cW Sx Sy) n places 0 m s σ = updW σ o s) := ⟨by rw [← HOM.out]; rfl⟩
    rw [HB0.out]
    clear HB0 hom hki
    obtain ⟨v, least, found, hBk, hM⟩ := hH
    have HBk := Aside0.mk hBk
    have c0 := hBk.cell 0 (v := .slice As n cs) rfl
    have c2 := hBk.cell 2 (v := v) rfl
    have c3 := hBk.cell 3 (v := .int .i64 least) rfl
    have c4 := hBk.cell 4 (v := .bool found) rfl
    clear hBk
    rcases hM with ⟨rfl, rfl, rfl, rfl⟩ | ⟨b, rfl, rfl, hIb, hvb, hb6⟩
    · rw [show updW none o s = some (o, s) from rfl]
      clear HCX HCY HH
      go_enter Tryd.func18, Tryd.ntmps18
      go_wp2_with (first | ((with_reducible refine gate_dst (N := 45) rfl ?_); refine Kd.R_lit (Kd.int .i64) w.heap.size 2 ?hg (N := 45) ?hd (xs := ([] : List Int)) (inner := []) (ok := fun _ => True) (okp := fun _ => True) ?hr ?hp (fun _ hk => hk) trivial (Below.refl _ _) (Nat.le_refl _) (by simp) ?_; (case hd => rfl); (case hg => rfl); (case hr => first | (go_simp; done) | (go_simp; rfl)); (case hp => exact (Reps.none _ _)); intro v1 w2 ho hb hg_ hnew_; clear hg_ hnew_; have HO := Aside0.mk ho; have HB1 := Aside0.mk hb; clear ho hb) | ((with_reducible refine gate_builtin (b := .append) (xs := #[.tmp 45, .tmp 46]) rfl ?_); at_builtin; refine Kd.R_append_rows (Kd.int .i64) (w0 := w) w.heap.size rfl (.tmp 45) (.tmp 46) 28 2 (.int .i64 0) 8 rfl Tryd.underlying28 info2 rfl (by decide) (by omega) v1 [] o _ _ _ (fun _ => True) (fun _ => False) rfl rfl ?aO ?aR (fun _ _ h => h) (fun _ h => h.elim) ?aF ?aB ?aS ?aL ?_; (case aR => exact (Kd.C_below HCo.out HB1.out)); (case aB => exact HB1.out); (case aF => exact (fun _ _ => trivial)); (case aO => exact HO.out); (case aS => exact below_size HB1.out); (case aL => simp; omega); intro v5 w5 ho hb hg hat; obtain ⟨A5, c5_, rfl⟩ := Kd.R_slice ho; have HBk5 := Aside0.mk (HBk.out.below hb); have HD5 := Aside0.mk hb; have HI5 : Aside0 (Ir w5 w.heap.size (.slice A5 o.length c5_) o) := ⟨Ir.of_row ho⟩; have d2 := HBk5.out.cell 2 (v := .slice none 0 0) rfl; have d3 := HBk5.out.cell 3 (v := .int .i64 0) rfl; have d4 := HBk5.out.cell 4 rfl; have f2 := HBk5.out.frozen 2; have f3 := HBk5.out.frozen 3; have f4 := HBk5.out.frozen 4; clear ho hb hg hat))
      ((try simp only [Exit.inBlock, Exit.then]); first | refine bodyPost_ret (results_none rfl _ _ _) rfl ?_ | refine bodyPost_end (results_none rfl _ _ _) rfl ?_)
      have ne5 := HI5.out.ne hgs
      have B1 := HBk5.out.set 2 (.slice A5 o.length c5_)
      have B2 := B1.set 3 (.int .i64 s)
      have B3 := B2.set 4 (.bool true)
      have I1 := Ir.grown (Ir.lower (base' := B) HI5.out hB) (grown_set w5 gs 2 (.slice A5 o.length c5_)) (.inr ne5)
      have I2 := I1.grown (grown_set _ gs 3 (.int .i64 s)) (.inr ne5)
      have I3 := I2.grown (grown_set _ gs 4 (.bool true)) (.inr ne5)
      have K1 := KpG.of_below (Below.refl _ _ |>.trans HD5.out) (fun k => k = gs)
      have K2 := K1.setCell (p := ⟨gs, 2, none⟩) (.inl rfl) (.slice A5 o.length c5_)
      have K3 := K2.setCell (p := ⟨gs, 3, none⟩) (.inl rfl) (.int .i64 s)
      have K4 := K3.setCell (p := ⟨gs, 4, none⟩) (.inl rfl) (.bool true)
      exact ⟨rfl, ⟨_, _, _, B3, .inr ⟨o, rfl, rfl, I3, ne5, ho6⟩⟩, K4⟩
    · obtain ⟨Ab, cb, rfl, hcb, hCb⟩ := Kd.R_reads hIb.row
      have HCb := Aside0.mk hCb
      clear hCb hIb hvb
      by_cases hsl : s < least
      · rw [show updW (some (b, least)) o s = some (o, s) from if_pos (.inl hsl)]
        clear HCX HCY HH
        go_enter Tryd.func18, Tryd.ntmps18
        go_wp2_with (first | ((with_reducible refine gate_dst (N := 45) rfl ?_); refine Kd.R_lit (Kd.int .i64) w.heap.size 2 ?hg (N := 45) ?hd (xs := ([] : List Int)) (inner := []) (ok := fun _ => True) (okp := fun _ => True) ?hr ?hp (fun _ hk => hk) trivial (Below.refl _ _) (Nat.le_refl _) (by simp) ?_; (case hd => rfl); (case hg => rfl); (case hr => first | (go_simp; done) | (go_simp; rfl)); (case hp => exact (Reps.none _ _)); intro v1 w2 ho hb hg_ hnew_; clear hg_ hnew_; have HO := Aside0.mk ho; have HB1 := Aside0.mk hb; clear ho hb) | ((with_reducible refine gate_builtin (b := .append) (xs := #[.tmp 45, .tmp 46]) rfl ?_); at_builtin; refine Kd.R_append_rows (Kd.int .i64) (w0 := w) w.heap.size rfl (.tmp 45) (.tmp 46) 28 2 (.int .i64 0) 8 rfl Tryd.underlying28 info2 rfl (by decide) (by omega) v1 [] o _ _ _ (fun _ => True) (fun _ => False) rfl rfl ?aO ?aR (fun _ _ h => h) (fun _ h => h.elim) ?aF ?aB ?aS ?aL ?_; (case aR => exact (Kd.C_below HCo.out HB1.out)); (case aB => exact HB1.out); (case aF => exact (fun _ _ => trivial)); (case aO => exact HO.out); (case aS => exact below_size HB1.out); (case aL => simp; omega); intro v5 w5 ho hb hg hat; obtain ⟨A5, c5_, rfl⟩ := Kd.R_slice ho; have HBk5 := Aside0.mk (HBk.out.below hb); have HD5 := Aside0.mk hb; have HI5 : Aside0 (Ir w5 w.heap.size (.slice A5 o.length c5_) o) := ⟨Ir.of_row ho⟩; have d2 := HBk5.out.cell 2 (v := .slice Ab b.length cb) rfl; have d3 := HBk5.out.cell 3 (v := .int .i64 least) rfl; have d4 := HBk5.out.cell 4 rfl; have f2 := HBk5.out.frozen 2; have f3 := HBk5.out.frozen 3; have f4 := HBk5.out.frozen 4; clear ho hb hg hat))
        ((try simp only [Exit.inBlock, Exit.then]); first | refine bodyPost_ret (results_none rfl _ _ _) rfl ?_ | refine bodyPost_end (results_none rfl _ _ _) rfl ?_)
        have ne5 := HI5.out.ne hgs
        have B1 := HBk5.out.set 2 (.slice A5 o.length c5_)
        have B2 := B1.set 3 (.int .i64 s)
        have B3 := B2.set 4 (.bool true)
        have I1 := Ir.grown (Ir.lower (base' := B) HI5.out hB) (grown_set w5 gs 2 (.slice A5 o.length c5_)) (.inr ne5)
        have I2 := I1.grown (grown_set _ gs 3 (.int .i64 s)) (.inr ne5)
        have I3 := I2.grown (grown_set _ gs 4 (.bool true)) (.inr ne5)
        have K1 := KpG.of_below (Below.refl _ _ |>.trans HD5.out) (fun k => k = gs)
        have K2 := K1.setCell (p := ⟨gs, 2, none⟩) (.inl rfl) (.slice A5 o.length c5_)
        have K3 := K2.setCell (p := ⟨gs, 3, none⟩) (.inl rfl) (.int .i64 s)
        have K4 := K3.setCell (p := ⟨gs, 4, none⟩) (.inl rfl) (.bool true)
        exact ⟨rfl, ⟨_, _, _, B3, .inr ⟨o, rfl, rfl, I3, ne5, ho6⟩⟩, K4⟩
      · by_cases hse : s = least
        · subst hse
          have hll : ¬ s < s := by omega
          have HBF := Aside0.mk (before_f o b (by omega) (by omega))
          cases hbf : befL o b
          · have HU : Aside0 (updW (some (b, s)) o s = some (b, s)) := ⟨if_neg (by rw [hbf]; simp)⟩
            rw [HU.out]
            rw [hbf] at HBF
            clear hbf HU hsl
            go_enter Tryd.func18, Tryd.ntmps18
            go_wp2_with fail
            refine (spec_l01Before.calls (2 * o.length + 2) Ao co o Ab cb b false _ HCo.out hco HCb.out hcb HBF.out).mono ?_
            rintro e w1 ⟨rfl, hd1⟩
            have hb1 := hd1.below
            go_wp2
            ((try simp only [Exit.inBlock, Exit.then]); first | refine bodyPost_ret (results_none rfl _ _ _) rfl ?_ | refine bodyPost_end (results_none rfl _ _ _) rfl ?_)
            exact ⟨rfl, HH.out.below hb1, KpG.of_below hb1 _⟩
          · have HU : Aside0 (updW (some (b, s)) o s = some (o, s)) := ⟨if_pos (.inr ⟨rfl, hbf⟩)⟩
            rw [HU.out]
            rw [hbf] at HBF
            clear hbf HU hsl HCX HCY HH
            go_enter Tryd.func18, Tryd.ntmps18
            go_wp2_with fail
            refine (spec_l01Before.calls (2 * o.length + 2) Ao co o Ab cb b true _ HCo.out hco HCb.out hcb HBF.out).mono ?_
            rintro e w1 ⟨rfl, hd1⟩
            have HD1 := Aside0.mk hd1.below
            have HBk1 := Aside0.mk (HBk.out.below HD1.out)
            have HCo1 := Aside0.mk (Kd.C_below HCo.out HD1.out)
            have hsz1 := Below.size HD1.out
            clear hd1 HBk HCo c0 c2 c3 c4
            go_wp2_with (first | ((with_reducible refine gate_dst (N := 45) rfl ?_); refine Kd.R_lit (Kd.int .i64) w1.heap.size 2 ?hg (N := 45) ?hd (xs := ([] : List Int)) (inner := []) (ok := fun _ => True) (okp := fun _ => True) ?hr ?hp (fun _ hk => hk) trivial (Below.refl _ _) (Nat.le_refl _) (by simp) ?_; (case hd => rfl); (case hg => rfl); (case hr => first | (go_simp; done) | (go_simp; rfl)); (case hp => exact (Reps.none _ _)); intro v1 w2 ho hb hg_ hnew_; clear hg_ hnew_; have HO := Aside0.mk ho; have HB1 := Aside0.mk hb; clear ho hb) | ((with_reducible refine gate_builtin (b := .append) (xs := #[.tmp 45, .tmp 46]) rfl ?_); at_builtin; refine Kd.R_append_rows (Kd.int .i64) (w0 := w1) w1.heap.size rfl (.tmp 45) (.tmp 46) 28 2 (.int .i64 0) 8 rfl Tryd.underlying28 info2 rfl (by decide) (by omega) v1 [] o _ _ _ (fun _ => True) (fun _ => False) rfl rfl ?aO ?aR (fun _ _ h => h) (fun _ h => h.elim) ?aF ?aB ?aS ?aL ?_; (case aR => exact (Kd.C_below HCo1.out HB1.out)); (case aB => exact HB1.out); (case aF => exact (fun _ _ => trivial)); (case aO => exact HO.out); (case aS => exact below_size HB1.out); (case aL => simp; omega); intro v5 w5 ho hb hg hat; obtain ⟨A5, c5_, rfl⟩ := Kd.R_slice ho; have HBk5 := Aside0.mk (HBk1.out.below hb); have HD5 := Aside0.mk hb; have HI5 : Aside0 (Ir w5 w1.heap.size (.slice A5 o.length c5_) o) := ⟨Ir.of_row ho⟩; have d2 := HBk5.out.cell 2 (v := .slice Ab b.length cb) rfl; have d3 := HBk5.out.cell 3 (v := .int .i64 s) rfl; have d4 := HBk5.out.cell 4 rfl; have f2 := HBk5.out.frozen 2; have f3 := HBk5.out.frozen 3; have f4 := HBk5.out.frozen 4; clear ho hb hg hat))
            ((try simp only [Exit.inBlock, Exit.then]); first | refine bodyPost_ret (results_none rfl _ _ _) rfl ?_ | refine bodyPost_end (results_none rfl _ _ _) rfl ?_)
            have ne5 := HI5.out.ne (show gs < w1.heap.size by omega)
            have B1 := HBk5.out.set 2 (.slice A5 o.length c5_)
            have B2 := B1.set 3 (.int .i64 s)
            have B3 := B2.set 4 (.bool true)
            have I1 := Ir.grown (Ir.lower (base' := B) HI5.out (by omega)) (grown_set w5 gs 2 (.slice A5 o.length c5_)) (.inr ne5)
            have I2 := I1.grown (grown_set _ gs 3 (.int .i64 s)) (.inr ne5)
            have I3 := I2.grown (grown_set _ gs 4 (.bool true)) (.inr ne5)
            have K1 := KpG.of_below (below_step HD1.out HD5.out) (fun k => k = gs)
            have K2 := K1.setCell (p := ⟨gs, 2, none⟩) (.inl rfl) (.slice A5 o.length c5_)
            have K3 := K2.setCell (p := ⟨gs, 3, none⟩) (.inl rfl) (.int .i64 s)
            have K4 := K3.setCell (p := ⟨gs, 4, none⟩) (.inl rfl) (.bool true)
            exact ⟨rfl, ⟨_, _, _, B3, .inr ⟨o, rfl, rfl, I3, ne5, ho6⟩⟩, K4⟩
        · have HU : Aside0 (updW (some (b, least)) o s = some (b, least)) := ⟨if_neg (by rintro (h1 | ⟨h1, _⟩); exact hsl h1; exact hse h1)⟩
          rw [HU.out]
          have hseb : (s == least) = false := beq_eq_false_iff_ne.2 hse
          clear HU HCX HCY
          go_enter Tryd.func18, Tryd.ntmps18
          go_wp2
          ((try simp only [Exit.inBlock, Exit.then]); first | refine bodyPost_ret (results_none rfl _ _ _) rfl ?_ | refine bodyPost_end (results_none rfl _ _ _) rfl ?_)
          exact ⟨rfl, HH.out, KpG.refl _ _⟩
  | succ d ih =>
    intro k m σ Bo vo w s ki hkd hki hm hol hs0 hs1 hI hvn hgs hB hH hCX hCY
    have ho6 : (ownL m).length ≤ 6 := ownL_le6 hm (by omega)
    obtain ⟨o, hom⟩ : ∃ o, ownL m = o := ⟨_, rfl⟩
    have HOM := Aside0.mk hom
    have hol' := hol
    rw [hom] at hI ho6 hol'
    obtain ⟨Ao, co, rfl, hco, hCo⟩ := Kd.R_reads hI.row
    have HCo := Aside0.mk hCo
    have HII := Aside0.mk hI
    have HCO2 := Aside0.mk (Kd.C_kept_own (S := fun q => q = gs) hI.row (fun q hq e => hvn (by rw [hq, e])))
    have HCX := Aside0.mk hCX
    have HCY := Aside0.mk hCY
    have HH := Aside0.mk hH
    clear hI hCo hCX hCY
    have hkn : k < n := by omega
    have hn1 : n - (d + 1) = k := by omega
    obtain ⟨rx, hrx⟩ : ∃ rx, Sx.getD k 0 = rx := ⟨_, rfl⟩
    obtain ⟨ry, hry⟩ : ∃ ry, Sy.getD k 0 = ry := ⟨_, rfl⟩
    have hcx := hc k true
    have hcy := hc k false
    rw [show (cW Sx Sy) k true = rx from hrx] at hcx
    rw [show (cW Sx Sy) k false = ry from hry] at hcy
    have HB0 : Aside0 (wsR (cW Sx Sy) n places (d + 1) m s σ = wsR (cW Sx Sy) n places d m (s + ry) (if (o.length : Int) < places then wsR (cW Sx Sy) n places d (m + 2 ^ k) (s + rx) σ else σ)) := ⟨by
      rw [wsR, hn1, hom, show (cW Sx Sy) k true = rx from hrx, show (cW Sx Sy) k false = ry from hry]⟩
    rw [HB0.out]
    clear HB0
    have hm2 : m + 2 ^ k < 2 ^ (k + 1) := by rw [Nat.pow_succ]; omega
    have hm3 : m < 2 ^ (k + 1) := by rw [Nat.pow_succ]; omega
    have HOA : Aside0 (ownL (m + 2 ^ k) = o ++ [(k : Int)]) := ⟨by rw [ownL_add k (by omega) m hm, hom]⟩
    subst hki
    have hk0 : ¬ (k : Int) = (n : Int) := by omega
    have hk1 : ((k : Int) == (n : Int)) = false := beq_eq_false_iff_ne.2 hk0
    have hki2 : (k : Int) < (n : Int) := by omega
    have hk9 : IntKind.i64.wrap ((k : Int) + 1) = (k : Int) + 1 := IntWalk.i64_in _ ⟨by omega, by omega⟩
    have hsx : IntKind.i64.wrap (s + rx) = s + rx := IntWalk.i64_in _ ⟨by omega, by omega⟩
    have hsy : IntKind.i64.wrap (s + ry) = s + ry := IntWalk.i64_in _ ⟨by omega, by omega⟩
    obtain ⟨adx, eX, hxx⟩ := Kd.at_int (HCX.out w (Kept.refl _ _)) (k : Int) (by omega) (by omega)
    obtain ⟨ady, eY, hyy⟩ := Kd.at_int (HCY.out w (Kept.refl _ _)) (k : Int) (by omega) (by omega)
    subst eX eY
    have X0 : Aside0 (∀ W', Kept w W' (fun q => q = gs) → W'.cell? (adx.add k) = some (.int .i64 rx)) := ⟨fun W' hk => by
      obtain ⟨a_, e_, h_⟩ := Kd.at_int (HCX.out W' hk) (k : Int) (by omega) (by omega)
      injection e_ with e_
      subst e_
      rw [show rd Sx (k : Int) = rx from hrx, Int.toNat_natCast] at h_
      exact h_⟩
    have Y0 : Aside0 (∀ W', Kept w W' (fun q => q = gs) → W'.cell? (ady.add k) = some (.int .i64 ry)) := ⟨fun W' hk => by
      obtain ⟨a_, e_, h_⟩ := Kd.at_int (HCY.out W' hk) (k : Int) (by omega) (by omega)
      injection e_ with e_
      subst e_
      rw [show rd Sy (k : Int) = ry from hry, Int.toNat_natCast] at h_
      exact h_⟩
    have x0 := X0.out w (Kept.refl _ _)
    obtain ⟨v, least, found, hBk, hM⟩ := hH
    have c0 := hBk.cell 0 (v := .slice (some adx) n cs) rfl
    have c1 := hBk.cell 1 (v := .slice (some ady) n cy) rfl
    have c5 := hBk.cell 5 (v := .int .i64 places) rfl
    clear hBk hM hrx hry hom hxx hyy
    by_cases hpl : (o.length : Int) < places
    · rw [if_pos hpl]
      have HX0 : Aside0 (Below w.heap.size w w.drew) := ⟨below_drew (Below.refl _ _)⟩
      go_enter Tryd.func18, Tryd.ntmps18
      go_wp2_with fail
      refine start_ (n := 19) (S := fun w' => w'.cell? ⟨gs, 0, none⟩ = some (.slice (some adx) n cs) ∧ w'.cell? (adx.add k) = some (.int .i64 rx)) (ds := []) #[false, false, false, false, false, false, false, false, false, false, false, false, false, false, false, false, false, false, false] (by kernel_rfl) rfl rfl ⟨c0, x0⟩ (fun hHeld => ?_)
      generalize w.drew = w9 at HX0 hHeld ⊢
      refine pure_ (i := 0) (N := some 64) (v := ?_) (a' := ?_) #[true, false, false, false, false, false, false, false, false, false, false, false, false, false, false, false, false, false, false] rfl rfl (by kernel_rfl) (fun _ _ _ h => h) (Or.inl ⟨by rfl, ?_⟩) ?_ ?_
      rotate_left
      · intro w'
        go_simp
        with_reducible rfl
      rotate_left
      · simp only [Act.put, List.setIfInBounds_toArray, List.set_cons_zero, List.set_cons_succ, i64_w, i32_w]
        rfl
      refine pure_ (i := 1) (N := some 65) (v := ?_) (a' := ?_) #[true, true, false, false, false, false, false, false, false, false, false, false, false, false, false, false, false, false, false] rfl rfl (by kernel_rfl) (fun _ _ _ h => h) (Or.inl ⟨by rfl, ?_⟩) ?_ ?_
      rotate_left
      · intro w'
        go_simp
        with_reducible rfl
      rotate_left
      · simp only [Act.put, List.setIfInBounds_toArray, List.set_cons_zero, List.set_cons_succ, i64_w, i32_w]
        rfl
      refine pure_ (i := 2) (N := some 66) (v := ?_) (a' := ?_) #[true, true, true, false, false, false, false, false, false, false, false, false, false, false, false, false, false, false, false] rfl rfl (by kernel_rfl) (fun _ _ _ h => h) (Or.inl ⟨by rfl, ?_⟩) ?_ ?_
      rotate_left
      · intro w'
        go_simp
        with_reducible rfl
      rotate_left
      · simp only [Act.put, List.setIfInBounds_toArray, List.set_cons_zero, List.set_cons_succ, i64_w, i32_w]
        rfl
      refine pure_ (i := 4) (N := some 68) (v := ?_) (a' := ?_) #[true, true, true, false, true, false, false, false, false, false, false, false, false, false, false, false, false, false, false] rfl rfl (by kernel_rfl) (fun _ _ _ h => h) (Or.inl ⟨by rfl, ?_⟩) ?_ ?_
      rotate_left
      · intro w'
        go_simp
        with_reducible rfl
      rotate_left
      · simp only [Act.put, List.setIfInBounds_toArray, List.set_cons_zero, List.set_cons_succ, i64_w, i32_w]
        rfl
      refine pure_ (i := 6) (N := some 70) (v := ?_) (a' := ?_) #[true, true, true, false, true, false, true, false, false, false, false, false, false, false, false, false, false, false, false] rfl rfl (by kernel_rfl) (fun _ _ _ h => h) (Or.inl ⟨by rfl, ?_⟩) ?_ ?_
      rotate_left
      · intro w'
        go_simp
        with_reducible rfl
      rotate_left
      · simp only [Act.put, List.setIfInBounds_toArray, List.set_cons_zero, List.set_cons_succ, i64_w, i32_w]
        rfl
      refine pure_ (i := 9) (N := some 73) (v := ?_) (a' := ?_) #[true, true, true, false, true, false, true, false, false, true, false, false, false, false, false, false, false, false, false] rfl rfl (by kernel_rfl) (fun _ _ _ h => h) (Or.inl ⟨by rfl, ?_⟩) ?_ ?_
      rotate_left
      · intro w'
        go_simp
        with_reducible rfl
      rotate_left
      · simp only [Act.put, List.setIfInBounds_toArray, List.set_cons_zero, List.set_cons_succ, i64_w, i32_w]
        rfl
      refine pure_ (i := 10) (N := some 74) (v := ?_) (a' := ?_) #[true, true, true, false, true, false, true, false, false, true, true, false, false, false, false, false, false, false, false] rfl rfl (by kernel_rfl) (fun _ _ _ h => h) (Or.inl ⟨by rfl, ?_⟩) ?_ ?_
      rotate_left
      · intro w'
        go_simp
        with_reducible rfl
      rotate_left
      · simp only [Act.put, List.setIfInBounds_toArray, List.set_cons_zero, List.set_cons_succ, i64_w, i32_w]
        rfl
      refine pure_ (i := 11) (N := some 75) (v := ?_) (a' := ?_) #[true, true, true, false, true, false, true, false, false, true, true, true, false, false, false, false, false, false, false] rfl rfl (by kernel_rfl) (fun _ _ _ h => h) (Or.inl ⟨by rfl, ?_⟩) ?_ ?_
      rotate_left
      · intro w'
        go_simp
        with_reducible rfl
      rotate_left
      · simp only [Act.put, List.setIfInBounds_toArray, List.set_cons_zero, List.set_cons_succ, i64_w, i32_w]
        rfl
      refine pure_ (i := 12) (N := some 76) (v := ?_) (a' := ?_) #[true, true, true, false, true, false, true, false, false, true, true, true, true, false, false, false, false, false, false] rfl rfl (by kernel_rfl) (fun _ _ _ h => h) (Or.inl ⟨by rfl, ?_⟩) ?_ ?_
      rotate_left
      · intro w'
        go_simp
        with_reducible rfl
      rotate_left
      · simp only [Act.put, List.setIfInBounds_toArray, List.set_cons_zero, List.set_cons_succ, i64_w, i32_w]
        rfl
      refine take_ (i := 13) (N := some 77) (v := ?_) (a' := ?_) #[true, true, true, false, true, false, true, false, false, true, true, true, true, true, false, false, false, false, false] rfl rfl (by kernel_rfl) (fun _ _ _ h => h) (Or.inl ⟨by rfl, ?_⟩) hHeld ?_ ?_
      rotate_left
      · rintro w' ⟨s0, s1⟩
        go_simp
        with_reducible rfl
      rotate_left
      · simp only [Act.put, List.setIfInBounds_toArray, List.set_cons_zero, List.set_cons_succ, i64_w, i32_w]
        rfl
      refine pure_ (i := 14) (N := some 78) (v := ?_) (a' := ?_) #[true, true, true, false, true, false, true, false, false, true, true, true, true, true, true, false, false, false, false] rfl rfl (by kernel_rfl) (fun _ _ _ h => h) (Or.inl ⟨by rfl, ?_⟩) ?_ ?_
      rotate_left
      · intro w'
        go_simp
        with_reducible rfl
      rotate_left
      · simp only [Act.put, List.setIfInBounds_toArray, List.set_cons_zero, List.set_cons_succ, i64_w, i32_w]
        rfl
      refine pure_ (i := 15) (N := some 79) (v := ?_) (a' := ?_) #[true, true, true, false, true, false, true, false, false, true, true, true, true, true, true, true, false, false, false] rfl rfl (by kernel_rfl) (fun _ _ _ h => h) (Or.inl ⟨by rfl, ?_⟩) ?_ ?_
      rotate_left
      · intro w'
        go_simp
        with_reducible rfl
      rotate_left
      · simp only [Act.put, List.setIfInBounds_toArray, List.set_cons_zero, List.set_cons_succ, i64_w, i32_w]
        rfl
      refine take_ (i := 16) (N := some 80) (v := ?_) (a' := ?_) #[true, true, true, false, true, false, true, false, false, true, true, true, true, true, true, true, true, false, false] rfl rfl (by kernel_rfl) (fun _ _ _ h => h) (Or.inl ⟨by rfl, ?_⟩) hHeld ?_ ?_
      rotate_left
      · rintro w' ⟨s0, s1⟩
        go_simp
        with_reducible rfl
      rotate_left
      · simp only [Act.put, List.setIfInBounds_toArray, List.set_cons_zero, List.set_cons_succ, i64_w, i32_w]
        rfl
      refine pure_ (i := 17) (N := some 81) (v := ?_) (a' := ?_) #[true, true, true, false, true, false, true, false, false, true, true, true, true, true, true, true, true, true, false] rfl rfl (by kernel_rfl) (fun _ _ _ h => h) (Or.inl ⟨by rfl, ?_⟩) ?_ ?_
      rotate_left
      · intro w'
        go_simp
        with_reducible rfl
      rotate_left
      · simp only [Act.put, List.setIfInBounds_toArray, List.set_cons_zero, List.set_cons_succ, i64_w, i32_w]
        rfl
      refine two_ (i := 3) (j := 7) (Ni := some 67) (Nj := some 71) #[true, true, true, true, true, false, true, false, false, true, true, true, true, true, true, true, true, true, false] #[true, true, true, false, true, false, true, true, false, true, true, true, true, true, true, true, true, true, false] rfl rfl rfl rfl (by kernel_rfl) (by decide) (by decide) (fun K hK => ?_) (fun K hK => ?_)
      · refine value_ (v := ?_) (w1 := ?_) (by rfl) rfl ?_ ?_
        rotate_left
        rotate_left
        · go_simp
          first | (refine ⟨?_, ?_⟩ <;> rfl) | rfl
        have HX1 := Aside0.mk (below_alloc HX0.out (.cells #[] 2))
        have HQ : Aside0 (Ir (w9.alloc (.cells #[] 2)) w.heap.size (Value.slice (some ⟨w9.heap.size, 0, none⟩) 0 0) []) := ⟨by have h_ := ir_nil w9 (Below.size HX0.out); simpa using h_⟩
        refine hK.out _ _ ⟨pw_cell_below HX1.out c0, pw_cell_below HX1.out x0⟩ (fun hHeld => ?_)
        clear hK K HX0
        refine norm_ (a' := ?_) ?_ ?_
        rotate_left
        · show Act.put _ (some 67) _ = _
          simp only [Act.put, List.setIfInBounds_toArray, List.set_cons_zero, List.set_cons_succ, i64_w, i32_w]
          rfl
        refine two_ (i := 5) (j := 7) (Ni := some 69) (Nj := some 71) #[true, true, true, true, true, true, true, false, false, true, true, true, true, true, true, true, true, true, false] #[true, true, true, true, true, false, true, true, false, true, true, true, true, true, true, true, true, true, false] rfl rfl rfl rfl (by kernel_rfl) (by decide) (by decide) (fun K hK => ?_) (fun K hK => ?_)
        · refine Kd.R_append_rows_step (Kd.int .i64) (w0 := w) w.heap.size (by rfl) (.tmp 67) (.tmp 68) 28 2 (.int .i64 0) 8 rfl Tryd.underlying28 info2 rfl (by decide) (by omega) (Value.slice (some ⟨w9.heap.size, 0, none⟩) 0 0) [] o _ _ _ (fun q => (Value.slice (some ⟨w9.heap.size, 0, none⟩) 0 0).ownBlock = some q ∨ (w9.alloc (.cells #[] 2)).heap.size ≤ q) (fun _ => False) (by rfl) (by rfl) (Kd.R_mono HQ.out.row (fun _ hk => .inl hk)) (Kd.C_below HCo.out HX1.out) (fun _ _ h => h) (fun _ h => h.elim) (fun _ hk => .inr hk) HX1.out (Below.size HX1.out) (by simp; omega) ?_
          intro vq wq hRq hbq hgq hatq
          have HX2 := Aside0.mk hbq
          have HQ9 : Aside0 (Ir wq w.heap.size vq o) := ⟨Ir.of_row hRq⟩
          refine hK.out _ _ ⟨pw_cell_below HX2.out c0, pw_cell_below HX2.out x0⟩ (fun hHeld => ?_)
          clear hK K HX1 HQ hRq hbq hgq hatq
          have HQ := HQ9
          clear HQ9
          refine norm_ (a' := ?_) ?_ ?_
          rotate_left
          · show Act.put _ (some 69) _ = _
            simp only [Act.put, List.setIfInBounds_toArray, List.set_cons_zero, List.set_cons_succ, i64_w, i32_w]
            rfl
          refine one_ (i := 7) (N := some 71) #[true, true, true, true, true, true, true, true, false, true, true, true, true, true, true, true, true, true, false] rfl rfl (by kernel_rfl) (by decide) (fun K hK => ?_)
          refine value_ (v := ?_) (w1 := ?_) (by rfl) rfl ?_ ?_
          rotate_left
          rotate_left
          · go_simp
            first | (refine ⟨?_, ?_⟩ <;> rfl) | rfl
          have HX3 := Aside0.mk (below_alloc HX2.out (.cells #[.int .i64 (k : Int)] 2))
          have HBJ : Aside0 (Blk (wq.alloc (.cells #[.int .i64 (k : Int)] 2)) (wq.heap.size) 2 [.int .i64 (k : Int)]) := ⟨Blk.at_ (by simp) rfl⟩
          have HQ2 := Aside0.mk (HQ.out.alloc (.cells #[.int .i64 (k : Int)] 2))
          clear HQ
          have HQ := HQ2
          clear HQ2
          refine hK.out _ _ ⟨pw_cell_below HX3.out c0, pw_cell_below HX3.out x0⟩ (fun hHeld => ?_)
          clear hK K HX2
          refine norm_ (a' := ?_) ?_ ?_
          rotate_left
          · show Act.put _ (some 71) _ = _
            simp only [Act.put, List.setIfInBounds_toArray, List.set_cons_zero, List.set_cons_succ, i64_w, i32_w]
            rfl
          refine one_ (i := 8) (N := some 72) #[true, true, true, true, true, true, true, true, true, true, true, true, true, true, true, true, true, true, false] rfl rfl (by kernel_rfl) (by decide) (fun K hK => ?_)
          refine on_ (by rfl) ?_
          refine wp_append_lies _ _ _ 28 (by rfl) w.heap.size 2 i0 _ 1 8 Tryd.underlying28 HI.out.1 HI.out.2.1 HI.out.2.2.1 HI.out.2.2.2 (by rfl) (by decide) _ o.length (nums .i64 o) (by rfl) HQ.out ⟨wq.heap.size, 0, none⟩ 1 1 [.int .i64 (k : Int)] (by rfl) (by rfl) (World.news_of_block HBJ.out) (by intro u hu; simp at hu; subst hu; rfl) (by decide) (by unfold maxLen; omega) (by omega) (Below.size HX3.out) _ rfl ?_
          intro g' cap' w3 hown hgrow hat hlt'
          have HX4 := Aside0.mk (pw_below_grown HX3.out _ (Below.size HX3.out) hgrow (fun k_ e_ => own_base HQ.out k_ e_))
          have HU : Aside0 (Ir w3 w.heap.size (.slice (some ⟨g', 0, none⟩) (o.length + 1) cap') (o ++ [(k : Int)])) := ⟨by unfold Ir; rw [← nums_snoc, List.length_append, List.length_singleton]; exact hown⟩
          clear hown hgrow hat hlt' HQ HBJ
          refine hK.out _ _ ⟨pw_cell_below HX4.out c0, pw_cell_below HX4.out x0⟩ (fun hHeld => ?_)
          clear hK K HX3
          refine norm_ (a' := ?_) ?_ ?_
          rotate_left
          · show Act.put _ (some 72) _ = _
            simp only [Act.put, List.setIfInBounds_toArray, List.set_cons_zero, List.set_cons_succ, i64_w, i32_w]
            rfl
          refine one_ (i := 18) (N := some 82) #[true, true, true, true, true, true, true, true, true, true, true, true, true, true, true, true, true, true, true] rfl rfl (by kernel_rfl) (by decide) (fun K hK => ?_)
          refine goes_ Tryd.func18 (by kernel_rfl) rfl #[.pointer (some ⟨gs, 0, none⟩), .int .i64 ((k : Int) + 1), .slice (some ⟨g', 0, none⟩) (o.length + 1) cap', .int .i64 (s + rx)] (by rfl) rfl rfl (by (try simp only [List.map_toArray, List.map_cons, List.map_nil]); first | done | rfl) ?_
          refine (ih (k + 1) (m + 2 ^ k) σ w.heap.size _ w3 (s + rx) ((k : Int) + 1) (by omega) (by omega) hm2 (by rw [HOA.out]; simp; omega) (by omega) (by omega) (by rw [HOA.out]; exact HU.out) (HU.out.ne hgs) (by have := Below.size HX4.out; omega) (by have := Below.size HX4.out; omega) (HH.out.below HX4.out) (Kd.C_kept_step HCX.out (Kept.of_below HX4.out _)) (Kd.C_kept_step HCY.out (Kept.of_below HX4.out _))).mono ?_
          rintro e w4 ⟨rfl, hS4, hK4⟩
          refine ⟨_, rfl, ?_⟩
          have HS4 := Aside0.mk hS4
          have HK4 : Aside0 (KpG w w4 (fun k => k = gs)) := ⟨(KpG.of_below HX4.out _).trans hK4⟩
          clear hS4 hK4 HU
          refine hK.out _ _ ⟨by obtain ⟨_, _, _, hb_, _⟩ := HS4.out; exact hb_.cell 0 rfl, X0.out _ HK4.out.2⟩ (fun hHeld => ?_)
          clear hK K HX4
          refine norm_ (a' := ?_) ?_ ?_
          rotate_left
          · show Act.put _ (some 82) _ = _
            simp only [Act.put, List.setIfInBounds_toArray, List.set_cons_zero, List.set_cons_succ, i64_w, i32_w]
            rfl
          refine done_ (by kernel_rfl) ?_
          clear hHeld
          
          obtain ⟨v7, l7, fo7, hB7, hM7⟩ := HS4.out
          have y0 := hB7.cell 1 (v := .slice (some ady) n cy) rfl
          have y1 := Y0.out w4 HK4.out.2
          have HCo7 := Aside0.mk (HCO2.out w4 HK4.out.2)
          have HI7 : Aside0 (Ir w4 Bo (.slice Ao o.length co) o) := ⟨HII.out.kept HK4.out.2 (fun q hq e => hvn (by rw [hq, e]))⟩
          clear hB7 hM7
          go_wp2_with fail
          refine (ih (k + 1) m _ Bo _ w4 (s + ry) ((k : Int) + 1) (by omega) (by omega) hm3 hol (by omega) (by omega) (by rw [HOM.out]; exact HI7.out) hvn (by have := HK4.out.2.1; omega) (by have := HK4.out.2.1; omega) HS4.out (Kd.C_kept_step HCX.out HK4.out.2) (Kd.C_kept_step HCY.out HK4.out.2)).mono ?_
          rintro e w8 ⟨rfl, hS8, hK8⟩
          have HS8 := Aside0.mk hS8
          have HK8 := Aside0.mk (HK4.out.trans hK8)
          clear hS8 hK8
          go_wp2
          ((try simp only [Exit.inBlock, Exit.then]); first | refine bodyPost_ret (results_none rfl _ _ _) rfl ?_ | refine bodyPost_end (results_none rfl _ _ _) rfl ?_)
          exact ⟨rfl, HS8.out, HK8.out⟩
        · refine value_ (v := ?_) (w1 := ?_) (by rfl) rfl ?_ ?_
          rotate_left
          rotate_left
          · go_simp
            first | (refine ⟨?_, ?_⟩ <;> rfl) | rfl
          have HX2 := Aside0.mk (below_alloc HX1.out (.cells #[.int .i64 (k : Int)] 2))
          have HBJ : Aside0 (Blk ((w9.alloc (.cells #[] 2)).alloc (.cells #[.int .i64 (k : Int)] 2)) (w9.heap.size + 1) 2 [.int .i64 (k : Int)]) := ⟨Blk.at_ (by simp) rfl⟩
          have HQ2 := Aside0.mk (HQ.out.alloc (.cells #[.int .i64 (k : Int)] 2))
          clear HQ
          have HQ := HQ2
          clear HQ2
          refine hK.out _ _ ⟨pw_cell_below HX2.out c0, pw_cell_below HX2.out x0⟩ (fun hHeld => ?_)
          clear hK K HX1
          refine norm_ (a' := ?_) ?_ ?_
          rotate_left
          · show Act.put _ (some 71) _ = _
            simp only [Act.put, List.setIfInBounds_toArray, List.set_cons_zero, List.set_cons_succ, i64_w, i32_w]
            rfl
          refine one_ (i := 5) (N := some 69) #[true, true, true, true, true, true, true, true, false, true, true, true, true, true, true, true, true, true, false] rfl rfl (by kernel_rfl) (by decide) (fun K hK => ?_)
          refine Kd.R_append_rows_step (Kd.int .i64) (w0 := w) w.heap.size (by rfl) (.tmp 67) (.tmp 68) 28 2 (.int .i64 0) 8 rfl Tryd.underlying28 info2 rfl (by decide) (by omega) (Value.slice (some ⟨w9.heap.size, 0, none⟩) 0 0) [] o _ _ _ (fun q => (Value.slice (some ⟨w9.heap.size, 0, none⟩) 0 0).ownBlock = some q ∨ ((w9.alloc (.cells #[] 2)).alloc (.cells #[.int .i64 (k : Int)] 2)).heap.size ≤ q) (fun _ => False) (by rfl) (by rfl) (Kd.R_mono HQ.out.row (fun _ hk => .inl hk)) (Kd.C_below HCo.out HX2.out) (fun _ _ h => h) (fun _ h => h.elim) (fun _ hk => .inr hk) HX2.out (Below.size HX2.out) (by simp; omega) ?_
          intro vq wq hRq hbq hgq hatq
          have HX3 := Aside0.mk hbq
          have HQ9 : Aside0 (Ir wq w.heap.size vq o) := ⟨Ir.of_row hRq⟩
          have HBJ2 := Aside0.mk (HBJ.out.grown hgq (by first | (simp [Value.ownBlock]; done) | (simp [Value.ownBlock]; omega)))
          clear HBJ
          have HBJ := HBJ2
          clear HBJ2
          refine hK.out _ _ ⟨pw_cell_below HX3.out c0, pw_cell_below HX3.out x0⟩ (fun hHeld => ?_)
          clear hK K HX2 HQ hRq hbq hgq hatq
          have HQ := HQ9
          clear HQ9
          refine norm_ (a' := ?_) ?_ ?_
          rotate_left
          · show Act.put _ (some 69) _ = _
            simp only [Act.put, List.setIfInBounds_toArray, List.set_cons_zero, List.set_cons_succ, i64_w, i32_w]
            rfl
          refine one_ (i := 8) (N := some 72) #[true, true, true, true, true, true, true, true, true, true, true, true, true, true, true, true, true, true, false] rfl rfl (by kernel_rfl) (by decide) (fun K hK => ?_)
          refine on_ (by rfl) ?_
          refine wp_append_lies _ _ _ 28 (by rfl) w.heap.size 2 i0 _ 1 8 Tryd.underlying28 HI.out.1 HI.out.2.1 HI.out.2.2.1 HI.out.2.2.2 (by rfl) (by decide) _ o.length (nums .i64 o) (by rfl) HQ.out ⟨w9.heap.size + 1, 0, none⟩ 1 1 [.int .i64 (k : Int)] (by rfl) (by rfl) (World.news_of_block HBJ.out) (by intro u hu; simp at hu; subst hu; rfl) (by decide) (by unfold maxLen; omega) (by omega) (Below.size HX3.out) _ rfl ?_
          intro g' cap' w3 hown hgrow hat hlt'
          have HX4 := Aside0.mk (pw_below_grown HX3.out _ (Below.size HX3.out) hgrow (fun k_ e_ => own_base HQ.out k_ e_))
          have HU : Aside0 (Ir w3 w.heap.size (.slice (some ⟨g', 0, none⟩) (o.length + 1) cap') (o ++ [(k : Int)])) := ⟨by unfold Ir; rw [← nums_snoc, List.length_append, List.length_singleton]; exact hown⟩
          clear hown hgrow hat hlt' HQ HBJ
          refine hK.out _ _ ⟨pw_cell_below HX4.out c0, pw_cell_below HX4.out x0⟩ (fun hHeld => ?_)
          clear hK K HX3
          refine norm_ (a' := ?_) ?_ ?_
          rotate_left
          · show Act.put _ (some 72) _ = _
            simp only [Act.put, List.setIfInBounds_toArray, List.set_cons_zero, List.set_cons_succ, i64_w, i32_w]
            rfl
          refine one_ (i := 18) (N := some 82) #[true, true, true, true, true, true, true, true, true, true, true, true, true, true, true, true, true, true, true] rfl rfl (by kernel_rfl) (by decide) (fun K hK => ?_)
          refine goes_ Tryd.func18 (by kernel_rfl) rfl #[.pointer (some ⟨gs, 0, none⟩), .int .i64 ((k : Int) + 1), .slice (some ⟨g', 0, none⟩) (o.length + 1) cap', .int .i64 (s + rx)] (by rfl) rfl rfl (by (try simp only [List.map_toArray, List.map_cons, List.map_nil]); first | done | rfl) ?_
          refine (ih (k + 1) (m + 2 ^ k) σ w.heap.size _ w3 (s + rx) ((k : Int) + 1) (by omega) (by omega) hm2 (by rw [HOA.out]; simp; omega) (by omega) (by omega) (by rw [HOA.out]; exact HU.out) (HU.out.ne hgs) (by have := Below.size HX4.out; omega) (by have := Below.size HX4.out; omega) (HH.out.below HX4.out) (Kd.C_kept_step HCX.out (Kept.of_below HX4.out _)) (Kd.C_kept_step HCY.out (Kept.of_below HX4.out _))).mono ?_
          rintro e w4 ⟨rfl, hS4, hK4⟩
          refine ⟨_, rfl, ?_⟩
          have HS4 := Aside0.mk hS4
          have HK4 : Aside0 (KpG w w4 (fun k => k = gs)) := ⟨(KpG.of_below HX4.out _).trans hK4⟩
          clear hS4 hK4 HU
          refine hK.out _ _ ⟨by obtain ⟨_, _, _, hb_, _⟩ := HS4.out; exact hb_.cell 0 rfl, X0.out _ HK4.out.2⟩ (fun hHeld => ?_)
          clear hK K HX4
          refine norm_ (a' := ?_) ?_ ?_
          rotate_left
          · show Act.put _ (some 82) _ = _
            simp only [Act.put, List.setIfInBounds_toArray, List.set_cons_zero, List.set_cons_succ, i64_w, i32_w]
            rfl
          refine done_ (by kernel_rfl) ?_
          clear hHeld
          
          obtain ⟨v7, l7, fo7, hB7, hM7⟩ := HS4.out
          have y0 := hB7.cell 1 (v := .slice (some ady) n cy) rfl
          have y1 := Y0.out w4 HK4.out.2
          have HCo7 := Aside0.mk (HCO2.out w4 HK4.out.2)
          have HI7 : Aside0 (Ir w4 Bo (.slice Ao o.length co) o) := ⟨HII.out.kept HK4.out.2 (fun q hq e => hvn (by rw [hq, e]))⟩
          clear hB7 hM7
          go_wp2_with fail
          refine (ih (k + 1) m _ Bo _ w4 (s + ry) ((k : Int) + 1) (by omega) (by omega) hm3 hol (by omega) (by omega) (by rw [HOM.out]; exact HI7.out) hvn (by have := HK4.out.2.1; omega) (by have := HK4.out.2.1; omega) HS4.out (Kd.C_kept_step HCX.out HK4.out.2) (Kd.C_kept_step HCY.out HK4.out.2)).mono ?_
          rintro e w8 ⟨rfl, hS8, hK8⟩
          have HS8 := Aside0.mk hS8
          have HK8 := Aside0.mk (HK4.out.trans hK8)
          clear hS8 hK8
          go_wp2
          ((try simp only [Exit.inBlock, Exit.then]); first | refine bodyPost_ret (results_none rfl _ _ _) rfl ?_ | refine bodyPost_end (results_none rfl _ _ _) rfl ?_)
          exact ⟨rfl, HS8.out, HK8.out⟩
      · refine value_ (v := ?_) (w1 := ?_) (by rfl) rfl ?_ ?_
        rotate_left
        rotate_left
        · go_simp
          first | (refine ⟨?_, ?_⟩ <;> rfl) | rfl
        have HX1 := Aside0.mk (below_alloc HX0.out (.cells #[.int .i64 (k : Int)] 2))
        have HBJ : Aside0 (Blk (w9.alloc (.cells #[.int .i64 (k : Int)] 2)) (w9.heap.size) 2 [.int .i64 (k : Int)]) := ⟨Blk.at_ (by simp) rfl⟩
        refine hK.out _ _ ⟨pw_cell_below HX1.out c0, pw_cell_below HX1.out x0⟩ (fun hHeld => ?_)
        clear hK K HX0
        refine norm_ (a' := ?_) ?_ ?_
        rotate_left
        · show Act.put _ (some 71) _ = _
          simp only [Act.put, List.setIfInBounds_toArray, List.set_cons_zero, List.set_cons_succ, i64_w, i32_w]
          rfl
        refine one_ (i := 3) (N := some 67) #[true, true, true, true, true, false, true, true, false, true, true, true, true, true, true, true, true, true, false] rfl rfl (by kernel_rfl) (by decide) (fun K hK => ?_)
        refine value_ (v := ?_) (w1 := ?_) (by rfl) rfl ?_ ?_
        rotate_left
        rotate_left
        · go_simp
          first | (refine ⟨?_, ?_⟩ <;> rfl) | rfl
        have HX2 := Aside0.mk (below_alloc HX1.out (.cells #[] 2))
        have HQ : Aside0 (Ir ((w9.alloc (.cells #[.int .i64 (k : Int)] 2)).alloc (.cells #[] 2)) w.heap.size (Value.slice (some ⟨w9.heap.size + 1, 0, none⟩) 0 0) []) := ⟨by have h_ := ir_nil (w9.alloc (.cells #[.int .i64 (k : Int)] 2)) (Below.size HX1.out); simpa using h_⟩
        have HBJ2 := Aside0.mk (HBJ.out.alloc (.cells #[] 2))
        clear HBJ
        have HBJ := HBJ2
        clear HBJ2
        refine hK.out _ _ ⟨pw_cell_below HX2.out c0, pw_cell_below HX2.out x0⟩ (fun hHeld => ?_)
        clear hK K HX1
        refine norm_ (a' := ?_) ?_ ?_
        rotate_left
        · show Act.put _ (some 67) _ = _
          simp only [Act.put, List.setIfInBounds_toArray, List.set_cons_zero, List.set_cons_succ, i64_w, i32_w]
          rfl
        refine one_ (i := 5) (N := some 69) #[true, true, true, true, true, true, true, true, false, true, true, true, true, true, true, true, true, true, false] rfl rfl (by kernel_rfl) (by decide) (fun K hK => ?_)
        refine Kd.R_append_rows_step (Kd.int .i64) (w0 := w) w.heap.size (by rfl) (.tmp 67) (.tmp 68) 28 2 (.int .i64 0) 8 rfl Tryd.underlying28 info2 rfl (by decide) (by omega) (Value.slice (some ⟨w9.heap.size + 1, 0, none⟩) 0 0) [] o _ _ _ (fun q => (Value.slice (some ⟨w9.heap.size + 1, 0, none⟩) 0 0).ownBlock = some q ∨ ((w9.alloc (.cells #[.int .i64 (k : Int)] 2)).alloc (.cells #[] 2)).heap.size ≤ q) (fun _ => False) (by rfl) (by rfl) (Kd.R_mono HQ.out.row (fun _ hk => .inl hk)) (Kd.C_below HCo.out HX2.out) (fun _ _ h => h) (fun _ h => h.elim) (fun _ hk => .inr hk) HX2.out (Below.size HX2.out) (by simp; omega) ?_
        intro vq wq hRq hbq hgq hatq
        have HX3 := Aside0.mk hbq
        have HQ9 : Aside0 (Ir wq w.heap.size vq o) := ⟨Ir.of_row hRq⟩
        have HBJ2 := Aside0.mk (HBJ.out.grown hgq (by first | (simp [Value.ownBlock]; done) | (simp [Value.ownBlock]; omega)))
        clear HBJ
        have HBJ := HBJ2
        clear HBJ2
        refine hK.out _ _ ⟨pw_cell_below HX3.out c0, pw_cell_below HX3.out x0⟩ (fun hHeld => ?_)
        clear hK K HX2 HQ hRq hbq hgq hatq
        have HQ := HQ9
        clear HQ9
        refine norm_ (a' := ?_) ?_ ?_
        rotate_left
        · show Act.put _ (some 69) _ = _
          simp only [Act.put, List.setIfInBounds_toArray, List.set_cons_zero, List.set_cons_succ, i64_w, i32_w]
          rfl
        refine one_ (i := 8) (N := some 72) #[true, true, true, true, true, true, true, true, true, true, true, true, true, true, true, true, true, true, false] rfl rfl (by kernel_rfl) (by decide) (fun K hK => ?_)
        refine on_ (by rfl) ?_
        refine wp_append_lies _ _ _ 28 (by rfl) w.heap.size 2 i0 _ 1 8 Tryd.underlying28 HI.out.1 HI.out.2.1 HI.out.2.2.1 HI.out.2.2.2 (by rfl) (by decide) _ o.length (nums .i64 o) (by rfl) HQ.out ⟨w9.heap.size, 0, none⟩ 1 1 [.int .i64 (k : Int)] (by rfl) (by rfl) (World.news_of_block HBJ.out) (by intro u hu; simp at hu; subst hu; rfl) (by decide) (by unfold maxLen; omega) (by omega) (Below.size HX3.out) _ rfl ?_
        intro g' cap' w3 hown hgrow hat hlt'
        have HX4 := Aside0.mk (pw_below_grown HX3.out _ (Below.size HX3.out) hgrow (fun k_ e_ => own_base HQ.out k_ e_))
        have HU : Aside0 (Ir w3 w.heap.size (.slice (some ⟨g', 0, none⟩) (o.length + 1) cap') (o ++ [(k : Int)])) := ⟨by unfold Ir; rw [← nums_snoc, List.length_append, List.length_singleton]; exact hown⟩
        clear hown hgrow hat hlt' HQ HBJ
        refine hK.out _ _ ⟨pw_cell_below HX4.out c0, pw_cell_below HX4.out x0⟩ (fun hHeld => ?_)
        clear hK K HX3
        refine norm_ (a' := ?_) ?_ ?_
        rotate_left
        · show Act.put _ (some 72) _ = _
          simp only [Act.put, List.setIfInBounds_toArray, List.set_cons_zero, List.set_cons_succ, i64_w, i32_w]
          rfl
        refine one_ (i := 18) (N := some 82) #[true, true, true, true, true, true, true, true, true, true, true, true, true, true, true, true, true, true, true] rfl rfl (by kernel_rfl) (by decide) (fun K hK => ?_)
        refine goes_ Tryd.func18 (by kernel_rfl) rfl #[.pointer (some ⟨gs, 0, none⟩), .int .i64 ((k : Int) + 1), .slice (some ⟨g', 0, none⟩) (o.length + 1) cap', .int .i64 (s + rx)] (by rfl) rfl rfl (by (try simp only [List.map_toArray, List.map_cons, List.map_nil]); first | done | rfl) ?_
        refine (ih (k + 1) (m + 2 ^ k) σ w.heap.size _ w3 (s + rx) ((k : Int) + 1) (by omega) (by omega) hm2 (by rw [HOA.out]; simp; omega) (by omega) (by omega) (by rw [HOA.out]; exact HU.out) (HU.out.ne hgs) (by have := Below.size HX4.out; omega) (by have := Below.size HX4.out; omega) (HH.out.below HX4.out) (Kd.C_kept_step HCX.out (Kept.of_below HX4.out _)) (Kd.C_kept_step HCY.out (Kept.of_below HX4.out _))).mono ?_
        rintro e w4 ⟨rfl, hS4, hK4⟩
        refine ⟨_, rfl, ?_⟩
        have HS4 := Aside0.mk hS4
        have HK4 : Aside0 (KpG w w4 (fun k => k = gs)) := ⟨(KpG.of_below HX4.out _).trans hK4⟩
        clear hS4 hK4 HU
        refine hK.out _ _ ⟨by obtain ⟨_, _, _, hb_, _⟩ := HS4.out; exact hb_.cell 0 rfl, X0.out _ HK4.out.2⟩ (fun hHeld => ?_)
        clear hK K HX4
        refine norm_ (a' := ?_) ?_ ?_
        rotate_left
        · show Act.put _ (some 82) _ = _
          simp only [Act.put, List.setIfInBounds_toArray, List.set_cons_zero, List.set_cons_succ, i64_w, i32_w]
          rfl
        refine done_ (by kernel_rfl) ?_
        clear hHeld
        
        obtain ⟨v7, l7, fo7, hB7, hM7⟩ := HS4.out
        have y0 := hB7.cell 1 (v := .slice (some ady) n cy) rfl
        have y1 := Y0.out w4 HK4.out.2
        have HCo7 := Aside0.mk (HCO2.out w4 HK4.out.2)
        have HI7 : Aside0 (Ir w4 Bo (.slice Ao o.length co) o) := ⟨HII.out.kept HK4.out.2 (fun q hq e => hvn (by rw [hq, e]))⟩
        clear hB7 hM7
        go_wp2_with fail
        refine (ih (k + 1) m _ Bo _ w4 (s + ry) ((k : Int) + 1) (by omega) (by omega) hm3 hol (by omega) (by omega) (by rw [HOM.out]; exact HI7.out) hvn (by have := HK4.out.2.1; omega) (by have := HK4.out.2.1; omega) HS4.out (Kd.C_kept_step HCX.out HK4.out.2) (Kd.C_kept_step HCY.out HK4.out.2)).mono ?_
        rintro e w8 ⟨rfl, hS8, hK8⟩
        have HS8 := Aside0.mk hS8
        have HK8 := Aside0.mk (HK4.out.trans hK8)
        clear hS8 hK8
        go_wp2
        ((try simp only [Exit.inBlock, Exit.then]); first | refine bodyPost_ret (results_none rfl _ _ _) rfl ?_ | refine bodyPost_end (results_none rfl _ _ _) rfl ?_)
        exact ⟨rfl, HS8.out, HK8.out⟩
    · rw [if_neg hpl]
      have HKW : Aside0 (KpG w w (fun q => q = gs)) := ⟨KpG.refl _ _⟩
      go_enter Tryd.func18, Tryd.ntmps18
      obtain ⟨v7, l7, fo7, hB7, hM7⟩ := HH.out
      have y0 := hB7.cell 1 (v := .slice (some ady) n cy) rfl
      have y1 := Y0.out w HKW.out.2
      have HCo7 := Aside0.mk (HCO2.out w HKW.out.2)
      have HI7 : Aside0 (Ir w Bo (.slice Ao o.length co) o) := ⟨HII.out.kept HKW.out.2 (fun q hq e => hvn (by rw [hq, e]))⟩
      clear hB7 hM7
      go_wp2_with fail
      refine (ih (k + 1) m _ Bo _ w (s + ry) ((k : Int) + 1) (by omega) (by omega) hm3 hol (by omega) (by omega) (by rw [HOM.out]; exact HI7.out) hvn (by have := HKW.out.2.1; omega) (by have := HKW.out.2.1; omega) HH.out (Kd.C_kept_step HCX.out HKW.out.2) (Kd.C_kept_step HCY.out HKW.out.2)).mono ?_
      rintro e w8 ⟨rfl, hS8, hK8⟩
      have HS8 := Aside0.mk hS8
      have HK8 := Aside0.mk (HKW.out.trans hK8)
      clear hS8 hK8
      go_wp2
      ((try simp only [Exit.inBlock, Exit.then]); first | refine bodyPost_ret (results_none rfl _ _ _) rfl ?_ | refine bodyPost_end (results_none rfl _ _ _) rfl ?_)
      exact ⟨rfl, HS8.out, HK8.out⟩
end Go.Proofs.YtdepnieanfjhjaaDoor.X
