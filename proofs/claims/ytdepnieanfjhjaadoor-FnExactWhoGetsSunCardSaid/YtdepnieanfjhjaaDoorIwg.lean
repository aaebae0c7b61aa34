/- Contracts of functions, and plain facts: what each call answers, and what it leaves as it was. -/
import Derived.Test.YtdepnieanfjhjaaDoorSub
import Derived.Test.YtdepnieanfjhjaaDoorHSeq
import Derived.Test.YtdepnieanfjhjaaDoorX5
import Derived.Test.YtdepnieanfjhjaaDoorX9
set_option linter.unusedVariables false
set_option linter.unusedSimpArgs false
namespace Go.Proofs.YtdepnieanfjhjaaDoor.X
open Go.RowKit Go.Proofs.YtdepnieanfjhjaaDoorW.PrintWords Go.Proofs.YtdepnieanfjhjaaDoorW.PrintLast Go.Proofs.YtdepnieanfjhjaaDoorW.PrintMore
attribute [local go_sem] max2_int min2_int max_two min_two max_three min_three max_four min_four
theorem firstOf3_f (a b c : Int) : impl_firstOf.f 4 [a, b, c] = some (if a = 0 then (if b = 0 then c else b) else a) := by
  by_cases ha : a = 0 <;> by_cases hb : b = 0 <;> by_cases hc : c = 0 <;> simp [impl_firstOf.f, impl_firstOf.l0, ha, hb, hc, rd, show wrap64 1 = 1 by unfold wrap64; omega, show wrap64 2 = 2 by unfold wrap64; omega, show wrap64 3 = 3 by unfold wrap64; omega]
theorem C_int3 {W : World} {g T : Nat} {a b c : Int} (h : Blk W g T [.int .i64 a, .int .i64 b, .int .i64 c]) : Kd.C (Kd.int .i64) W (some ⟨g, 0, none⟩) 3 [a, b, c] := by
  refine ⟨rfl, by omega, fun _ => ⟨_, rfl, fun j p hj => ?_⟩⟩
  match j, hj with
  | 0, hj =>
    simp at hj
    subst hj
    refine ⟨_, rfl, rfl, fun i u hi => ?_⟩
    have : (⟨g, 0, none⟩ : Addr).add (0 * (Kd.int .i64).sz + i) = ⟨g, i, none⟩ := by rw [Nat.zero_mul, Nat.zero_add, Addr.add_mid, Nat.zero_add]
    rw [this]
    match i, hi with
    | 0, hi => exact h.cell 0 hi
  | 1, hj =>
    simp at hj
    subst hj
    refine ⟨_, rfl, rfl, fun i u hi => ?_⟩
    have : (⟨g, 0, none⟩ : Addr).add (1 * (Kd.int .i64).sz + i) = ⟨g, 1 + i, none⟩ := by rw [Addr.add_mid, Nat.zero_add]; rfl
    rw [this]
    match i, hi with
    | 0, hi => exact h.cell 1 hi
  | 2, hj =>
    simp at hj
    subst hj
    refine ⟨_, rfl, rfl, fun i u hi => ?_⟩
    have : (⟨g, 0, none⟩ : Addr).add (2 * (Kd.int .i64).sz + i) = ⟨g, 2 + i, none⟩ := by rw [Addr.add_mid, Nat.zero_add]; rfl
    rw [this]
    match i, hi with
    | 0, hi => exact h.cell 2 hi
theorem fewHung_f (ws : List S52) : impl_fewHung.f ws = some (if ws.length ≤ 6 then 0 else 3) := by
  unfold impl_fewHung.f impl_unless.f
  by_cases h : ws.length ≤ 6
  · have : (ws.length : Int) ≤ 6 := by omega
    simp [h, this]
  · have : ¬ (ws.length : Int) ≤ 6 := by omega
    simp [h, this]
theorem within_f (x a b : Int) : impl_within.f x a b = some (inR x a b) := by
  unfold impl_within.f inR
  by_cases h : a ≤ x
  · rw [if_pos h, decide_eq_true h, Bool.true_and]
  · rw [if_neg h, decide_eq_false h, Bool.false_and]
theorem code_eq (L : List Int) (ws : List S52) (h t1 : Int) : codeF L ws h t1 = askedF L ws (inR h 0 24 && (inR t1 0 24 && decide (h ≤ t1))) := by
  unfold codeF
  congr 1
  rw [Bool.eq_iff_iff]
  simp only [inR, Bool.and_eq_true, decide_eq_true_eq]
  omega
theorem asked_iff {L : List Int} {ws : List S52} {fine : Bool} : askedF L ws fine = 0 ↔ dayOk L = true ∧ (ws.all fun x => washOk x.f0 x.f1) = true ∧ fine = true := by
  unfold askedF
  cases dayOk L <;> cases (ws.all fun x => washOk x.f0 x.f1) <;> cases fine <;> simp
/-- the code -/
def wgCode (L : List Int) (ws : List S52) (h t1 places : Int) : Int := if codeF L ws h t1 = 0 then (if (if inR places 0 6 = true then (0 : Int) else 2) = 0 then (if ws.length ≤ 6 then 0 else 3) else (if inR places 0 6 = true then (0 : Int) else 2)) else codeF L ws h t1
def WgF (L : List Int) (ws : List S52) (h t1 places : Int) (b : List Int) (l code : Int) : Prop :=
  code = wgCode L ws h t1 places ∧ (code ≠ 0 → b = [] ∧ l = 0) ∧ (code = 0 → scanW (cS L ws h.toNat (t1 - h).toNat) ws.length places (2 ^ ws.length) = some (b, l))
theorem wg_ok {L : List Int} {ws : List S52} {h t1 places : Int} (hc : wgCode L ws h t1 places = 0) : dayOk L = true ∧ (∀ x ∈ ws, washOk x.f0 x.f1 = true) ∧ (0 ≤ h ∧ h ≤ t1 ∧ t1 ≤ 24) ∧ (0 ≤ places ∧ places ≤ 6) ∧ ws.length ≤ 6 := by
  unfold wgCode at hc
  split at hc
  · rename_i h0
    unfold codeF at h0
    obtain ⟨h1, h2, h3⟩ := asked_iff.1 h0
    simp only [Bool.and_eq_true, decide_eq_true_eq, inR_iff] at h3
    cases hp : inR places 0 6
    · rw [hp] at hc; simp at hc
    · rw [hp] at hc
      simp only [if_true, ↓reduceIte] at hc
      split at hc
      · rename_i h4
        exact ⟨h1, by simpa using h2, ⟨h3.1.1, h3.1.2, h3.2⟩, (inR_iff _ _ _).1 hp, h4⟩
      · cases hc
  · contradiction
theorem scan_some {c : Nat → Bool → Int} {n : Nat} {places : Int} (hp : 0 ≤ places) : ∃ b l, scanW c n places (2 ^ n) = some (b, l) ∧ ∃ m, m < 2 ^ n ∧ b = ownL m := by
  rcases scanW_inv c n places (2 ^ n) with ⟨_, h⟩ | ⟨m, ⟨h1, _⟩, h2, _⟩
  · exact absurd ⟨Nat.two_pow_pos n, by rw [show ownL 0 = [] by decide +kernel]; simpa using hp⟩ (h 0)
  · exact ⟨_, _, h2, m, h1, rfl⟩
theorem wg_ex (L : List Int) (ws : List S52) (h t1 places : Int) : ∃ b l code, WgF L ws h t1 places b l code ∧ b.length ≤ 6 := by
  by_cases hc : wgCode L ws h t1 places = 0
  · obtain ⟨h1, h2, h3, h4, h5⟩ := wg_ok hc
    obtain ⟨b, l, e, m, hm, rfl⟩ := scan_some (c := cS L ws h.toNat (t1 - h).toNat) (n := ws.length) h4.1
    exact ⟨_, l, 0, ⟨hc.symm, fun h => absurd rfl h, fun _ => e⟩, ownL_le6 hm h5⟩
  · exact ⟨[], 0, _, ⟨rfl, fun _ => ⟨rfl, rfl⟩, fun h => absurd h hc⟩, by simp⟩
set_option maxHeartbeats 8000000 in
set_option maxRecDepth 100000 in
theorem implWG_calls (L : List Int) (hL : L.length = 72) (h8 : i8All L) (ws : List S52) (hws : ∀ x ∈ ws, wshR x) (h t1 places : Int) (A : Option Addr) (c : Nat) (hc : ws.length ≤ c) (b : List Int) (l code : Int) (hF : WgF L ws h t1 places b l code) (w : World) (ht : TabD w) (hC : Kd.C k52 w A ws.length ws) :
    Calls Tryd.prog 8 #[(.agg (nums .i8 L).toArray), .slice A ws.length c, .int .i64 h, .int .i64 t1, .int .i64 places] w fun e w' => ∃ v, e = .returned (.tuple #[v, .int .i64 l, .int .i64 code]) ∧ Ir w' w.heap.size v b ∧ Below w.heap.size w w' := by
  obtain ⟨hcode, hbad, hgood⟩ := hF
  have HDC := Aside0.mk (fun W hCW => dayCode_calls L hL h8 ws hws A c h t1 W hCW)
  have HIW := Aside0.mk (fun W => impl_within.calls places 0 6 _ W (within_f places 0 6))
  have HUN := Aside0.mk (fun W => impl_unless.calls (inR places 0 6) 2 (if inR places 0 6 = true then 0 else 2) W (by unfold impl_unless.f; split <;> rfl))
  have HFH := Aside0.mk (fun W hCW => impl_fewHung.calls A c ws _ W hCW hc (fewHung_f ws))
  have HFO : Aside0 (∀ W A2, Kd.C (Kd.int .i64) W A2 3 [codeF L ws h t1, (if inR places 0 6 = true then 0 else 2), (if ws.length ≤ 6 then 0 else 3)] → Calls Tryd.prog 21 #[.slice A2 3 3] W fun e w' => e = .returned (.int .i64 code) ∧ Below W.heap.size W w') := ⟨fun W A2 hCW => by
    have := impl_firstOf.calls 4 A2 3 _ _ W hCW (by simp) (firstOf3_f _ _ _)
    rw [hcode]
    exact this.mono (fun e w' h => ⟨h.1, h.2.below⟩)⟩
  have HOK : Aside0 (code = 0 → ∀ W g6, Below w.heap.size w W → Blk W w.heap.size 33 (nums .i8 L) → Blk W (w.heap.size + 1) 35 [.slice A ws.length c] → Blk W (w.heap.size + 1 + 1) 2 [.int .i64 h] → Blk W (w.heap.size + 1 + 1 + 1) 2 [.int .i64 t1] → Blk W (w.heap.size + 1 + 1 + 1 + 1) 2 [.int .i64 places] → Blk W g6 2 [.int .i64 6000] → Calls Tryd.prog 26 #[.int .i64 (ws.length : Int), .func (.func 27) #[] #[.pointer (some ⟨w.heap.size + 1 + 1 + 1 + 1, 0, none⟩), .pointer (some ⟨w.heap.size + 1, 0, none⟩), .pointer (some ⟨w.heap.size, 0, none⟩), .pointer (some ⟨w.heap.size + 1 + 1, 0, none⟩), .pointer (some ⟨w.heap.size + 1 + 1 + 1, 0, none⟩), .pointer (some ⟨g6, 0, none⟩)]] W fun e w' => ∃ v, e = .returned (.tuple #[v, .int .i64 (6000 - l)]) ∧ Ir w' W.heap.size v b ∧ Below W.heap.size W w') := ⟨fun h0 W g6 p0 p1 p2 p3 p4 p5 p6 => by
    obtain ⟨o1, o2, ⟨o3, o4, o5⟩, o6, o7⟩ := wg_ok (h0 ▸ hcode).symm
    obtain ⟨a, rfl⟩ := Int.eq_ofNat_of_zero_le o3
    have hg := hgood h0
    rw [Int.toNat_natCast] at hg
    exact subset_calls L hL o1 ws o2 a (t1 - (a : Int)).toNat (by omega) t1 (by omega) ws.length rfl o7 places A c _ _ _ _ _ _ b l hg W (ht.below p0) p5 p2 p1 p3 p4 p6 (Kd.C_below hC p0)⟩
  have HLR : Aside0 (code = 0 → IntKind.i64.wrap (6000 - (6000 - l)) = l) := ⟨fun h0 => by
    obtain ⟨o1, o2, ⟨o3, o4, o5⟩, o6, o7⟩ := wg_ok (h0 ▸ hcode).symm
    have hg := hgood h0
    rcases scanW_inv (cS L ws h.toNat (t1 - h).toNat) ws.length places (2 ^ ws.length) with ⟨e_, _⟩ | ⟨m, _, e_, _⟩
    · rw [e_] at hg; cases hg
    · rw [e_] at hg
      injection hg with hg
      injection hg with _ hg
      have := costB_range (cS_ok o1 o2 h.toNat (t1 - h).toNat) m ws.length
      rw [hg] at this
      exact (IntWalk.i64_in _ ⟨by omega, by omega⟩).trans (by omega)⟩
  generalize codeF L ws h t1 = ca at HDC HFO
  generalize (if ws.length ≤ 6 then (0 : Int) else 3) = cb at HFH HFO
  generalize inR places 0 6 = bp at HIW HUN HFO
  generalize (if bp = true then (0 : Int) else 2) = cp at HUN HFO
  have HN : Aside0 ((nums .i8 L).length = 72) := ⟨by rw [nums_len]; exact hL⟩
  have HHC := Aside0.mk hC
  have HBAD := Aside0.mk hbad
  clear hcode hgood hbad h8 hws hL hC ht
  have hlen := HN.out
  have hi : (Tryd.prog.info? 33).map (·.size) = some (nums .i8 L).length := by rw [hlen]; kernel_rfl
  have hone : ∀ v ∈ nums .i8 L, v.oneCell' = true := by simp [nums, Value.oneCell']
  have hu := Tryd.underlying33
  go_enter Tryd.func8, Tryd.ntmps8
  go_wp2_with fail
  have p1 : Blk (((((w.alloc (.cells (nums .i8 L).toArray 33)).alloc (.cells #[.slice A ws.length c] 35)).alloc (.cells #[.int .i64 h] 2)).alloc (.cells #[.int .i64 t1] 2)).alloc (.cells #[.int .i64 places] 2)) w.heap.size 33 (nums .i8 L) := ((((Blk.new w _ (nums .i8 L)).alloc _).alloc _).alloc _).alloc _
  have p2 : Blk (((((w.alloc (.cells (nums .i8 L).toArray 33)).alloc (.cells #[.slice A ws.length c] 35)).alloc (.cells #[.int .i64 h] 2)).alloc (.cells #[.int .i64 t1] 2)).alloc (.cells #[.int .i64 places] 2)) (w.heap.size + 1) 35 [.slice A ws.length c] := (((Blk.at_ (by simp) rfl).alloc _).alloc _).alloc _
  have p3 : Blk (((((w.alloc (.cells (nums .i8 L).toArray 33)).alloc (.cells #[.slice A ws.length c] 35)).alloc (.cells #[.int .i64 h] 2)).alloc (.cells #[.int .i64 t1] 2)).alloc (.cells #[.int .i64 places] 2)) (w.heap.size + 1 + 1) 2 [.int .i64 h] := ((Blk.at_ (by simp) rfl).alloc _).alloc _
  have p5 : Blk (((((w.alloc (.cells (nums .i8 L).toArray 33)).alloc (.cells #[.slice A ws.length c] 35)).alloc (.cells #[.int .i64 h] 2)).alloc (.cells #[.int .i64 t1] 2)).alloc (.cells #[.int .i64 places] 2)) (w.heap.size + 1 + 1 + 1) 2 [.int .i64 t1] := (Blk.at_ (by simp) rfl).alloc _
  have p6 : Blk (((((w.alloc (.cells (nums .i8 L).toArray 33)).alloc (.cells #[.slice A ws.length c] 35)).alloc (.cells #[.int .i64 h] 2)).alloc (.cells #[.int .i64 t1] 2)).alloc (.cells #[.int .i64 places] 2)) (w.heap.size + 1 + 1 + 1 + 1) 2 [.int .i64 places] := Blk.at_ (by simp) rfl
  have p4 : Below w.heap.size w (((((w.alloc (.cells (nums .i8 L).toArray 33)).alloc (.cells #[.slice A ws.length c] 35)).alloc (.cells #[.int .i64 h] 2)).alloc (.cells #[.int .i64 t1] 2)).alloc (.cells #[.int .i64 places] 2)) := below_alloc (below_alloc (below_alloc (below_alloc (below_alloc (Below.refl _ _) _) _) _) _) _
  generalize (((((w.alloc (.cells (nums .i8 L).toArray 33)).alloc (.cells #[.slice A ws.length c] 35)).alloc (.cells #[.int .i64 h] 2)).alloc (.cells #[.int .i64 t1] 2)).alloc (.cells #[.int .i64 places] 2)) = W3 at p1 p2 p3 p4 p5 p6 ⊢
  have HP1 := Aside0.mk p1
  have HP2 := Aside0.mk p2
  have HP3 := Aside0.mk p3
  have HP4 := Aside0.mk p4
  have HP5 := Aside0.mk p5
  have HP6 := Aside0.mk p6
  have HC3 := Aside0.mk (Kd.C_below HHC.out p4)
  have c0 := p2.cell 0 (v := .slice A ws.length c) rfl
  have c1 := p3.cell 0 (v := .int .i64 h) rfl
  have c3 := p5.cell 0 (v := .int .i64 t1) rfl
  have c4 := p6.cell 0 (v := .int .i64 places) rfl
  have c2 : W3.rangeAt w.heap.size 0 (nums .i8 L) := p1.rangeAt 0 (by rw [List.drop_zero, List.take_length])
  clear p1 p2 p3 p4 p5 p6
  go_region_held3 (fun w' => w'.rangeAt w.heap.size 0 (nums .i8 L) ∧ w'.cell? ⟨w.heap.size + 1, 0, none⟩ = some (.slice A ws.length c) ∧ w'.cell? ⟨w.heap.size + 1 + 1, 0, none⟩ = some (.int .i64 h) ∧ w'.cell? ⟨w.heap.size + 1 + 1 + 1, 0, none⟩ = some (.int .i64 t1) ∧ w'.cell? ⟨w.heap.size + 1 + 1 + 1 + 1, 0, none⟩ = some (.int .i64 places)) (first | exact ⟨k2, k0, k1, k3, k4⟩ | exact ⟨g2, g0, g1, g3, g4⟩ | exact ⟨f2, f0, f1, f3, f4⟩ | exact ⟨e2, e0, e1, e3, e4⟩ | exact ⟨d2, d0, d1, d3, d4⟩ | exact ⟨fun j v hv => pw_cell_below (below_alloc (Below.refl _ _) _) (g2 j v hv), pw_cell_below (below_alloc (Below.refl _ _) _) g0, pw_cell_below (below_alloc (Below.refl _ _) _) g1, pw_cell_below (below_alloc (Below.refl _ _) _) g3, pw_cell_below (below_alloc (Below.refl _ _) _) g4⟩ | go_keep_ranges) ((first | (go_at_call 22; refine (HDC.out _ (Kd.C_below HC3.out (by repeat (first | exact Below.refl _ _ | assumption | apply below_drew | apply pw_below_drewN | apply below_alloc)))).mono ?_; rintro e w4 ⟨rfl, hb⟩; have qd := below_step (w := W3) (by repeat (first | exact Below.refl _ _ | assumption | apply below_drew | apply pw_below_drewN | apply below_alloc)) hb; clear hb; have d0 := pw_cell_below qd c0; have d1 := pw_cell_below qd c1; have d2 : World.rangeAt _ w.heap.size 0 (nums .i8 L) := fun j v hv => pw_cell_below qd (c2 j v hv); have d3 := pw_cell_below qd c3; have d4 := pw_cell_below qd c4) | (go_at_call 24; refine (HIW.out _).mono ?_; rintro e w5 ⟨rfl, hd5⟩; have hb := hd5.below; clear hd5; have qe := below_step (w := W3) (by repeat (first | exact Below.refl _ _ | assumption | apply below_drew | apply pw_below_drewN | apply below_alloc)) hb; clear hb; have e0 := pw_cell_below qe c0; have e1 := pw_cell_below qe c1; have e2 : World.rangeAt _ w.heap.size 0 (nums .i8 L) := fun j v hv => pw_cell_below qe (c2 j v hv); have e3 := pw_cell_below qe c3; have e4 := pw_cell_below qe c4) | (go_at_call 23; refine (HUN.out _).mono ?_; rintro e w6 ⟨rfl, hd6⟩; have hb := hd6.below; clear hd6; have qf := below_step (w := W3) (by repeat (first | exact Below.refl _ _ | assumption | apply below_drew | apply pw_below_drewN | apply below_alloc)) hb; clear hb; have f0 := pw_cell_below qf c0; have f1 := pw_cell_below qf c1; have f2 : World.rangeAt _ w.heap.size 0 (nums .i8 L) := fun j v hv => pw_cell_below qf (c2 j v hv); have f3 := pw_cell_below qf c3; have f4 := pw_cell_below qf c4) | (go_at_call 25; refine (HFH.out _ (Kd.C_below HC3.out (by repeat (first | exact Below.refl _ _ | assumption | apply below_drew | apply pw_below_drewN | apply below_alloc)))).mono ?_; rintro e w7 ⟨rfl, hd7⟩; have hb := hd7.below; clear hd7; have qg := below_step (w := W3) (by repeat (first | exact Below.refl _ _ | assumption | apply below_drew | apply pw_below_drewN | apply below_alloc)) hb; clear hb; have g0 := pw_cell_below qg c0; have g1 := pw_cell_below qg c1; have g2 : World.rangeAt _ w.heap.size 0 (nums .i8 L) := fun j v hv => pw_cell_below qg (c2 j v hv); have g3 := pw_cell_below qg c3; have g4 := pw_cell_below qg c4) | (go_at_call 21; refine (HFO.out _ _ (C_int3 (by first | exact Blk.new _ _ _ | exact Blk.at_ (by simp) rfl | (apply Blk.drew; exact Blk.new _ _ _)))).mono ?_; rintro e w8 ⟨rfl, hb⟩; have qk := below_step (w := W3) (by repeat (first | exact Below.refl _ _ | assumption | apply below_drew | apply pw_below_drewN | apply below_alloc)) hb; clear hb; have k0 := pw_cell_below qk c0; have k1 := pw_cell_below qk c1; have k2 : World.rangeAt _ w.heap.size 0 (nums .i8 L) := fun j v hv => pw_cell_below qk (c2 j v hv); have k3 := pw_cell_below qk c3; have k4 := pw_cell_below qk c4)))
  have HQ := Aside0.mk qk
  by_cases hcode : code = 0
  · subst hcode
    have HBO := Aside0.mk (HOK.out rfl)
    have hlr := HLR.out rfl
    clear qk HOK d0 d1 d2 d3 d4 e0 e1 e2 e3 e4 f0 f1 f2 f3 f4 g0 g1 g2 g3 g4
    have kk : (w8.alloc (.cells #[.int .i64 6000] 2)).cell? ⟨w.heap.size + 1, 0, none⟩ = some (.slice A ws.length c) := pw_cell_below (below_alloc (Below.refl _ _) _) k0
    go_wp2_with fail
    clear kk
    have HWW := Aside0.mk (HP4.out.trans (HQ.out.mono (Below.size HP4.out)))
    have p9 : Blk (w8.alloc (.cells #[.int .i64 6000] 2)) w8.heap.size 2 [.int .i64 6000] := Blk.new w8 _ _
    have q9 : Below w8.heap.size w8 (w8.alloc (.cells #[.int .i64 6000] 2)) := below_alloc (Below.refl _ _) _
    have HP9 := Aside0.mk p9
    have HQ9 := Aside0.mk q9
    clear p9 q9
    generalize w8.alloc (.cells #[.int .i64 6000] 2) = w9 at HP9 HQ9 ⊢
    have HQX := Aside0.mk (below_step HQ.out HQ9.out)
    refine (HBO.out w9 w8.heap.size (below_step HWW.out HQ9.out) (HP1.out.below HQX.out) (HP2.out.below HQX.out) (HP3.out.below HQX.out) (HP5.out.below HQX.out) (HP6.out.below HQX.out) HP9.out).mono ?_
    rintro e w10 ⟨v, rfl, hI, hb⟩
    have HI := Aside0.mk (hI.lower (Below.size (below_step HWW.out HQ9.out)))
    have HB := Aside0.mk (below_step (below_step HWW.out HQ9.out) hb)
    have c9 := (HP9.out.below hb).cell 0 (v := .int .i64 6000) rfl
    clear hI hb
    go_wp2_with fail
    refine seq_all (by kernel_rfl) (by kernel_rfl) (fun w11 hw11 => ?_)
    have HI11 : Aside0 (Ir w11 w.heap.size v b) := ⟨by rw [hw11]; exact HI.out.drew⟩
    have HB11 : Aside0 (Below w.heap.size w w11) := ⟨by rw [hw11]; exact below_drew HB.out⟩
    replace c9 : w11.cell? ⟨w8.heap.size, 0, none⟩ = some (.int .i64 6000) := by rw [hw11]; exact c9
    clear hw11 HI HB
    repeat still_step
    try refine wpStill_nil ?_
    go_wp2
    go_ret3
    exact ⟨v, by first | rfl | rw [hlr], HI11.out, HB11.out⟩
  · obtain ⟨rfl, rfl⟩ := HBAD.out hcode
    have hcb : (code != 0) = true := by simpa using hcode
    clear qk HOK d0 d1 d2 d3 d4 e0 e1 e2 e3 e4 f0 f1 f2 f3 f4 g0 g1 g2 g3 g4 k0 k1 k2 k3 k4
    go_wp2
    go_ret3
    exact ⟨_, rfl, Ir.of_row (ok := fun _ => True) (Kd.R_nil _ _ _ _ _), below_step HP4.out HQ.out⟩
end Go.Proofs.YtdepnieanfjhjaaDoor.X
