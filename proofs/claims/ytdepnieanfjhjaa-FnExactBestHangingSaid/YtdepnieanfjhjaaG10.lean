/- Contracts of functions, and plain facts, of more texts than one: put together, since a claim takes 60 files. -/
import Derived.Test.YtdepnieanfjhjaaSpec1
import Derived.Test.YtdepnieanfjhjaaX6
import Derived.Test.YtdepnieanfjhjaaX5
/- what stood in the text Spec2 -/
set_option linter.unusedVariables false
set_option linter.unusedSimpArgs false
namespace Go.Proofs.Ytdepnieanfjhjaa.X
open Go.RowKit Go.Proofs.YtdepnieanfjhjaaW.PrintWords Go.Proofs.YtdepnieanfjhjaaW.PrintLast Go.Proofs.YtdepnieanfjhjaaW.PrintMore
attribute [local go_sem] max2_int min2_int max_two min_two max_three min_three max_four min_four
theorem washOk_iff {a b : Int} : washOk a b = true ↔ (0 ≤ a ∧ a ≤ 1000) ∧ (1 ≤ b ∧ b ≤ 9) := by simp [washOk, inR]
set_option maxHeartbeats 400000 in
set_option maxRecDepth 100000 in
theorem l03Behind_calls (L : List Int) (hL : L.length = 72) (hd : dayOk L = true) (wet thick : Int) (hw : washOk wet thick = true) (h n : Nat) (hh : h + n ≤ 24) (t1 : Int) (hto : t1 = (h : Int) + n) (shade : Bool) (g : Nat) (w : World) (hB : Blk w g 33 (nums .i8 L)) :
    Calls Try.prog 43 #[.pointer (some ⟨g, 0, none⟩), .agg #[.int .i16 wet, .int .i8 thick], .int .i64 h, .int .i64 t1, .bool shade] w fun e w' => e = .returned (.int .i64 (beh L thick shade h n wet)) ∧ Below w.heap.size w w' := by
  subst hto
  obtain ⟨⟨hw0, hw1⟩, ht0, ht1⟩ := washOk_iff.1 hw
  clear hw
  have HL := Aside0.mk hL
  have HD := Aside0.mk hd
  have HB0 := Aside0.mk hB
  have hc := fun (a b x y z : Int) (s : Bool) (r : Int) (W : World) H => spec_l03Hour.calls a b x y z s r W H
  clear hL hd hB
  go_enter Try.func43, Try.ntmps43
  go_wp2
  go_loopw [11, 12] (fun v11 v12 w' => ∃ q : Nat, h ≤ q ∧ q ≤ h + n ∧ v11 = .int .i64 (beh L thick shade h (q - h) wet) ∧ v12 = .int .i64 q ∧ Aside0 (Blk w' g 33 (nums .i8 L)) ∧ Aside0 (Blk w' w.heap.size 52 [.int .i16 wet, .int .i8 thick]) ∧ Aside0 (Below w.heap.size w w')) (fun _ v12 _ => h + n - (intOf v12).toNat)
  case atStart => exact ⟨h, by omega, by omega, by simp [beh], rfl, ⟨HB0.out.alloc _⟩, ⟨Blk.new w _ _⟩, ⟨below_alloc (Below.refl _ _) _⟩⟩
  case round =>
    obtain ⟨q, hq0, hq1, rfl, rfl, HA, HV, HB⟩ := hrel
    have hbr := beh_range (shade := shade) HD.out ht0 (q - h) h wet hw0 hw1
    by_cases hlt : q < h + n
    · obtain ⟨x, y, z, HS, HX⟩ := seg_letters (L := L) (k := q) (by have := HL.out; omega)
      have HE := Aside0.mk (beh_at L thick shade hq0 wet)
      generalize beh L thick shade h (q - h) wet = u at HE hbr
      have HF : Aside0 (spec_l03Hour.f u thick x y z shade = some (beh L thick shade h (q + 1 - h) wet)) := ⟨by obtain ⟨rfl, rfl, rfl⟩ := HX.out; rw [HE.out]; exact l03Hour_f shade hbr.1 hbr.2 ht0 (dayOk_get HD.out _) (dayOk_get HD.out _) (dayOk_get HD.out _)⟩
      have c0 := HV.out.cell 1 (v := .int .i8 thick) rfl
      have c1 := HA.out.rangeAt (q * 3) (seg := [.int .i8 x, .int .i8 y, .int .i8 z]) HS.out 0 _ rfl
      have c2 := HA.out.rangeAt (q * 3) (seg := [.int .i8 x, .int .i8 y, .int .i8 z]) HS.out 1 _ rfl
      have c3 := HA.out.rangeAt (q * 3) (seg := [.int .i8 x, .int .i8 y, .int .i8 z]) HS.out 2 _ rfl
      rw [Nat.add_zero] at c1
      have i0 : (0 : Int) ≤ (q : Int) := by omega
      have i1 : (q : Int) < 24 := by omega
      have i2 : IntKind.i64.wrap thick = thick := IntWalk.i64_in _ ⟨by omega, by omega⟩
      go_wp2_with fail
      go_region_held3 (fun w' => w'.cell? ⟨w.heap.size, 1, none⟩ = some (.int .i8 thick) ∧ w'.cell? ⟨g, q * 3, none⟩ = some (.int .i8 x) ∧ w'.cell? ⟨g, q * 3 + 1, none⟩ = some (.int .i8 y) ∧ w'.cell? ⟨g, q * 3 + 2, none⟩ = some (.int .i8 z)) (go_keep) ((go_at_call 50; refine (hc _ _ _ _ _ _ _ _ HF.out).mono ?_; rintro e w1 ⟨rfl, hb⟩; replace hb := below_step (w := wr) (below_drew (Below.refl _ _)) hb; have d0 := pw_cell_below hb c0; have d1 := pw_cell_below hb c1; have d2 := pw_cell_below hb c2; have d3 := pw_cell_below hb c3))
      go_wp2
      go_roundw
      case rel => exact ⟨q + 1, by omega, by omega, rfl, by go_num, ⟨HA.out.below hb⟩, ⟨HV.out.below hb⟩, ⟨below_step HB.out hb⟩⟩
      case measure => simp [intOf]; omega
    · obtain rfl : q = h + n := by omega
      go_wp2
      go_ret
      exact ⟨by simp, HB.out⟩
end Go.Proofs.Ytdepnieanfjhjaa.X

/- what stood in the text BestF -/
set_option linter.unusedVariables false
set_option linter.unusedSimpArgs false
namespace Go.Proofs.Ytdepnieanfjhjaa.X
open Go.RowKit Go.Proofs.YtdepnieanfjhjaaW.PrintWords Go.Proofs.YtdepnieanfjhjaaW.PrintLast Go.Proofs.YtdepnieanfjhjaaW.PrintMore
attribute [local go_sem] max2_int min2_int max_two min_two max_three min_three max_four min_four
/-- what an order costs: thing i at place k costs lf i k -/
def scoreO (lf : Nat → Nat → Int) : Nat → List Int → Int
  | _, [] => 0
  | k, i :: o => lf i.toNat k + scoreO lf (k + 1) o
/-- the best order so far, with what it costs -/
abbrev BSt := Option (List Int × Int)
def updB (σ : BSt) (o : List Int) (s : Int) : BSt :=
  match σ with
  | none => some (o, s)
  | some (b, l) => if s < l then some (o, s) else some (b, l)
/-- the first k things tried behind an order -/
def boK (step : Nat → BSt → BSt) (o : List Int) : Nat → BSt → BSt
  | 0, σ => σ
  | k + 1, σ => if (k : Int) ∈ o then boK step o k σ else step k (boK step o k σ)
/-- the search: d things are still to be hung -/
def bo (n : Nat) (lf : Nat → Nat → Int) : Nat → List Int → BSt → BSt
  | 0, o, σ => updB σ o (scoreO lf 0 o)
  | d + 1, o, σ => boK (fun i σ => bo n lf d (o ++ [(i : Int)]) σ) o n σ
theorem scoreO_snoc (lf : Nat → Nat → Int) (i : Int) : ∀ (o : List Int) (k : Nat), scoreO lf k (o ++ [i]) = scoreO lf k o + lf i.toNat (k + o.length)
  | [], k => by simp [scoreO]
  | x :: o, k => by
    have := scoreO_snoc lf i o (k + 1)
    simp only [List.cons_append, scoreO, List.length_cons, this, show k + 1 + o.length = k + (o.length + 1) by omega]
    omega
/-- each cost is none of more than a thousand -/
def LfOk (lf : Nat → Nat → Int) : Prop := ∀ i k, 0 ≤ lf i k ∧ lf i k ≤ 1000
theorem scoreO_range {lf : Nat → Nat → Int} (h : LfOk lf) : ∀ (o : List Int) (k : Nat), 0 ≤ scoreO lf k o ∧ scoreO lf k o ≤ 1000 * o.length
  | [], k => by simp [scoreO]
  | x :: o, k => by
    have h1 := scoreO_range h o (k + 1)
    have h2 := h x.toNat k
    simp only [scoreO, List.length_cons]
    omega
theorem updB_cut {b : List Int} {l s : Int} {o : List Int} (h : l ≤ s) : updB (some (b, l)) o s = some (b, l) := by
  show (if s < l then some (o, s) else some (b, l)) = _
  rw [if_neg (by omega)]
/-- where an order costs as much as the best one, nothing behind it is better -/
theorem bo_cut (n : Nat) {lf : Nat → Nat → Int} (hl : LfOk lf) {b : List Int} {l : Int} : ∀ (d : Nat) (o : List Int), l ≤ scoreO lf 0 o → bo n lf d o (some (b, l)) = some (b, l)
  | 0, o, h => updB_cut h
  | d + 1, o, h => by
    have key : ∀ k, boK (fun i σ => bo n lf d (o ++ [(i : Int)]) σ) o k (some (b, l)) = some (b, l) := by
      intro k
      induction k with
      | zero => rfl
      | succ k ih =>
        unfold boK
        rw [ih]
        split
        · rfl
        · have := scoreO_snoc lf (k : Int) o 0
          have := hl (k : Int).toNat (0 + o.length)
          exact bo_cut n hl d _ (by omega)
    exact key n
/-- the best so far is a whole order, and it costs what it is said to cost -/
def BOk (n : Nat) (σ : BSt) : Prop := ∀ b l, σ = some (b, l) → b.length = n ∧ 0 ≤ l ∧ l ≤ 1000 * n
theorem updB_ok {n : Nat} {σ : BSt} {o : List Int} {s : Int} (h : BOk n σ) (ho : o.length = n) (hs : 0 ≤ s ∧ s ≤ 1000 * n) : BOk n (updB σ o s) := by
  intro b l e
  unfold updB at e
  split at e
  · injection e with e; injection e with e1 e2; subst e1; subst e2; exact ⟨ho, hs⟩
  · split at e
    · injection e with e; injection e with e1 e2; subst e1; subst e2; exact ⟨ho, hs⟩
    · exact h b l e
theorem boK_ok {n : Nat} {step : Nat → BSt → BSt} {o : List Int} (hs : ∀ i σ, BOk n σ → BOk n (step i σ)) : ∀ (k : Nat) {σ : BSt}, BOk n σ → BOk n (boK step o k σ)
  | 0, σ, h => h
  | k + 1, σ, h => by
    unfold boK
    split
    · exact boK_ok hs k h
    · exact hs k _ (boK_ok hs k h)
theorem bo_ok {n : Nat} {lf : Nat → Nat → Int} (hl : LfOk lf) : ∀ (d : Nat) (o : List Int) {σ : BSt}, d + o.length = n → BOk n σ → BOk n (bo n lf d o σ)
  | 0, o, σ, hd, h => by
    have := scoreO_range hl o 0
    exact updB_ok h (by omega) (by have : o.length = n := by omega
                                   omega)
  | d + 1, o, σ, hd, h => boK_ok (fun i σ hσ => bo_ok hl d _ (by simp; omega) hσ) n h
theorem updB_some (σ : BSt) (o : List Int) (s : Int) : ∃ b l, updB σ o s = some (b, l) := by
  unfold updB
  split
  · exact ⟨_, _, rfl⟩
  · split <;> exact ⟨_, _, rfl⟩
end Go.Proofs.Ytdepnieanfjhjaa.X
