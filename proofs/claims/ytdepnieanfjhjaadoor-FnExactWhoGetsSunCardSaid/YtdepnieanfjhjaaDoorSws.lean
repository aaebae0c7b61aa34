/- Contracts of functions, and plain facts: what each call answers, and what it leaves as it was. -/
import Derived.Test.YtdepnieanfjhjaaDoorSet
import Derived.Test.YtdepnieanfjhjaaDoorImpl1
import Derived.Test.YtdepnieanfjhjaaDoorHSeq
set_option linter.unusedVariables false
set_option linter.unusedSimpArgs false
namespace Go.Proofs.YtdepnieanfjhjaaDoor.X
open Go.RowKit Go.Proofs.YtdepnieanfjhjaaDoorW.PrintWords Go.Proofs.YtdepnieanfjhjaaDoorW.PrintLast Go.Proofs.YtdepnieanfjhjaaDoorW.PrintMore
attribute [local go_sem] max2_int min2_int max_two min_two max_three min_three max_four min_four
/-- what thing i has behind m hours from h on, in the sun or not -/
def cS (L : List Int) (ws : List S52) (h m i : Nat) (b : Bool) : Int := beh L (ws.getD i ⟨0, 1⟩).f1 (!b) h m (ws.getD i ⟨0, 1⟩).f0
def cT (L : List Int) (ws : List S52) (h m : Nat) (b : Bool) (k : Nat) : List Int := (List.range k).map fun i => cS L ws h m i b
theorem cT_len (L : List Int) (ws : List S52) (h m : Nat) (b : Bool) (k : Nat) : (cT L ws h m b k).length = k := by simp [cT]
theorem cT_succ (L : List Int) (ws : List S52) (h m : Nat) (b : Bool) (k : Nat) : cT L ws h m b (k + 1) = cT L ws h m b k ++ [cS L ws h m k b] := by simp [cT, List.range_succ]
theorem cS_ok {L : List Int} (hd : dayOk L = true) {ws : List S52} (hw : ∀ x ∈ ws, washOk x.f0 x.f1 = true) (h m : Nat) : CstOk (cS L ws h m) := by
  intro i b
  unfold cS
  have hx : washOk (ws.getD i ⟨0, 1⟩).f0 (ws.getD i ⟨0, 1⟩).f1 = true := by
    rcases Nat.lt_or_ge i ws.length with hi | hi
    · rw [List.getD_eq_getElem?_getD, List.getElem?_eq_getElem hi]; exact hw _ (List.getElem_mem hi)
    · rw [List.getD_eq_getElem?_getD, List.getElem?_eq_none hi]; decide
  obtain ⟨⟨a, b_⟩, c, d⟩ := washOk_iff.1 hx
  exact beh_range hd c _ _ _ a b_
theorem wsR_congr {c c' : Nat → Bool → Int} {n : Nat} {places : Int} (h : ∀ i, i < n → ∀ b, c i b = c' i b) : ∀ (d m : Nat) (s : Int) (σ : BSt), d ≤ n → wsR c n places d m s σ = wsR c' n places d m s σ
  | 0, _, _, _, _ => rfl
  | d + 1, m, s, σ, hd => by
    have e := h (n - (d + 1)) (by omega)
    rw [wsR, wsR, e true, e false, wsR_congr h d _ _ _ (by omega)]
    by_cases hp : ((ownL m).length : Int) < places
    · rw [if_pos hp, if_pos hp, wsR_congr h d _ _ _ (by omega)]
    · rw [if_neg hp, if_neg hp]
theorem cW_cT (L : List Int) (ws : List S52) (h m n : Nat) {i : Nat} (hi : i < n) (b : Bool) : cW (cT L ws h m true n) (cT L ws h m false n) i b = cS L ws h m i b := by
  cases b <;> simp [cW, cT, List.getD_eq_getElem?_getD, hi]
theorem cW_ok {L : List Int} {ws : List S52} {h m : Nat} (hc : CstOk (cS L ws h m)) (n : Nat) : CstOk (cW (cT L ws h m true n) (cT L ws h m false n)) := fun i b => by
  rcases Nat.lt_or_ge i n with hi | hi
  · rw [cW_cT L ws h m n hi]; exact hc i b
  · cases b <;> simp [cW, cT, List.getD_eq_getElem?_getD, hi]
theorem from_f (h : Int) : spec_l03From.f h = some (inR h 0 24) := by
  unfold spec_l03From.f spec_l00In.f inR
  by_cases h1 : 0 ≤ h <;> simp [h1]
theorem l00In_f (x a b : Int) : spec_l00In.f x a b = some (inR x a b) := by
  unfold spec_l00In.f inR
  by_cases h : x ≥ a
  · rw [if_pos h, decide_eq_true h, Bool.true_and]
  · rw [if_neg h, decide_eq_false h, Bool.false_and]
set_option maxHeartbeats 8000000 in
set_option maxRecDepth 100000 in
theorem specWS_ok (L : List Int) (hL : L.length = 72) (hd : dayOk L = true) (h8 : i8All L) (ws : List S52) (hw : ∀ x ∈ ws, washOk x.f0 x.f1 = true) (hws : ∀ x ∈ ws, wshR x) (h m : Nat) (hm : h + m ≤ 24) (t1 : Int) (ht1 : t1 = (h : Int) + m) (places : Int) (hp : 0 ≤ places ∧ places ≤ 6) (n : Nat) (hn : n = ws.length) (hn6 : n ≤ 6) (A : Option Addr) (c : Nat) (b : List Int) (l : Int) (hb : wsR (cS L ws h m) n places n 0 0 none = some (b, l)) (w : World) (hC : Kd.C k52 w A n ws) :
    Calls Tryd.prog 5 #[(.agg (nums .i8 L).toArray), .slice A n c, .int .i64 (h : Int), .int .i64 t1, .int .i64 places] w fun e w' => ∃ v, e = .returned (.tuple #[v, .int .i64 l, .int .i64 0]) ∧ Ir w' w.heap.size v b ∧ Below w.heap.size w w' := by
  have HBE := Aside0.mk (fun (b : Bool) (u0 u1 : Int) (hw_ : washOk u0 u1 = true) W hB => l03Behind_calls L hL hd u0 u1 hw_ h m hm t1 ht1 (!b) w.heap.size W hB)
  have HAS := Aside0.mk (fun W h1 h2 => l03Asked_calls L hL h8 ws hws true w.heap.size A c W h1 h2)
  rw [show askedF L ws true = 0 from by unfold askedF; rw [hd, if_pos rfl, if_pos (List.all_eq_true.2 hw), if_pos rfl]] at HAS
  rw [← hn] at HAS
  have HFR := Aside0.mk (fun W => spec_l03From.calls (h : Int) true W (by rw [from_f, (inR_iff _ _ _).2 (by omega)]))
  have HFT := Aside0.mk (fun W => spec_l03From.calls t1 true W (by rw [from_f, (inR_iff _ _ _).2 (by omega)]))
  have HIN := Aside0.mk (fun W => spec_l00In.calls places 0 6 true W (by rw [l00In_f, (inR_iff _ _ _).2 (by omega)]))
  have HWS : Aside0 (∀ k, k < n → washOk (ws.getD k z52).f0 (ws.getD k z52).f1 = true) := ⟨fun k hk => by rw [List.getD_eq_getElem?_getD, List.getElem?_eq_getElem (by omega)]; exact hw _ (List.getElem_mem _)⟩
  have HNW := Aside0.mk hn
  have HHC := Aside0.mk hC
  have HBB := Aside0.mk hb
  have HOKC := Aside0.mk (cS_ok hd hw h m)
  have hle : (h : Int) ≤ t1 := by omega
  have hl7 : ¬ (6 : Int) < (n : Int) := by omega
  obtain ⟨i0, hi_, hz0, hz1, hz2⟩ := info_parts int64Info
  have HI := Aside0.mk (And.intro hi_ (And.intro hz0 (And.intro hz1 hz2)))
  have p1 : Blk (w.alloc (.cells (nums .i8 L).toArray 33)) w.heap.size 33 (nums .i8 L) := Blk.new w _ (nums .i8 L)
  have p4 : Below w.heap.size w (w.alloc (.cells (nums .i8 L).toArray 33)) := below_alloc (Below.refl _ _) _
  have HP1 := Aside0.mk p1
  have HP4 := Aside0.mk p4
  clear p1 p4 hi_ hz0 hz1 hz2 hb hC hn hw hws h8 hL ht1
  go_enter Tryd.func5, Tryd.ntmps5
  go_wp2_with fail
  refine (HFR.out _).mono ?_
  rintro e w1 ⟨rfl, hd1⟩
  have HB1 := Aside0.mk hd1.below
  clear hd1
  go_wp2_with fail
  refine (HFT.out _).mono ?_
  rintro e w2 ⟨rfl, hd1⟩
  have HB2 := Aside0.mk (below_step HB1.out hd1.below)
  clear hd1 HB1
  go_wp2_with fail
  refine (HIN.out _).mono ?_
  rintro e w3 ⟨rfl, hd1⟩
  have HB3 := Aside0.mk (below_step HB2.out hd1.below)
  clear hd1 HB2
  go_wp2_with fail
  refine (HAS.out _ (HP1.out.below HB3.out) (Kd.C_below HHC.out (below_step HP4.out HB3.out))).mono ?_
  rintro e w4 ⟨rfl, hb4⟩
  have HB4 := Aside0.mk (below_step HB3.out hb4)
  clear hb4 HB3
  go_wp2
  have HW4 := Aside0.mk (below_step HP4.out HB4.out)
  have hz4 := Below.size HB4.out
  simp only [World.size_alloc] at hz4
  have r1 : Blk (w4.alloc (.cells #[.slice none 0 0, .slice none 0 0, .slice none 0 0, .int .i64 0, .bool false, .int .i64 places] 48)) w4.heap.size 48 [.slice none 0 0, .slice none 0 0, .slice none 0 0, .int .i64 0, .bool false, .int .i64 places] := Blk.new w4 _ _
  have r2 : Below w.heap.size w (w4.alloc (.cells #[.slice none 0 0, .slice none 0 0, .slice none 0 0, .int .i64 0, .bool false, .int .i64 places] 48)) := below_alloc HW4.out _
  have r3 : Blk (w4.alloc (.cells #[.slice none 0 0, .slice none 0 0, .slice none 0 0, .int .i64 0, .bool false, .int .i64 places] 48)) w.heap.size 33 (nums .i8 L) := (HP1.out.below HB4.out).alloc _
  generalize (w4.alloc (.cells #[.slice none 0 0, .slice none 0 0, .slice none 0 0, .int .i64 0, .bool false, .int .i64 places] 48)) = W5 at r1 r2 r3 ⊢
  obtain ⟨gs, hgs⟩ : ∃ gs, gs = w4.heap.size := ⟨_, rfl⟩
  rw [← hgs] at r1 ⊢
  have hgw : w.heap.size ≤ gs := by omega
  have hgd : w.heap.size ≠ gs := by omega
  have HG0 := Aside0.mk r1
  have HBL := Aside0.mk r2
  have HDL := Aside0.mk r3
  clear r1 r2 r3 hgs HFR HFT HIN HAS HP1 HP4 HB4 HW4 hz4
  go_loopw [15] (fun v15 w' => ∃ (k : Nat) (v0 v1 : Value), k ≤ n ∧ v15 = .int .i64 k ∧ Aside0 (Blk w' gs 48 [v0, v1, .slice none 0 0, .int .i64 0, .bool false, .int .i64 places]) ∧ Aside0 (Ir w' w.heap.size v0 (cT L ws h m true k)) ∧ Aside0 (Ir w' w.heap.size v1 (cT L ws h m false k)) ∧ Aside0 (∀ q, v0.ownBlock = some q → v1.ownBlock ≠ some q) ∧ Aside0 (Blk w' w.heap.size 33 (nums .i8 L)) ∧ Aside0 (Below w.heap.size w w')) (fun v15 _ => n - (intOf v15).toNat)
  case atStart => exact ⟨0, _, _, by omega, rfl, HG0, ⟨Ir.of_row (ok := fun _ => True) (Kd.R_nil _ _ _ _ _)⟩, ⟨Ir.of_row (ok := fun _ => True) (Kd.R_nil _ _ _ _ _)⟩, ⟨fun q h_ => by cases h_⟩, HDL, HBL⟩
  case round =>
    clear HG0 HDL HBL
    obtain ⟨k, v0, v1, hk, rfl, HG, HV0, HV1, N3, HD, HB⟩ := hrel
    obtain ⟨wo, rfl⟩ : ∃ wo : World, wo = wr := ⟨_, rfl⟩
    have hk9 : IntKind.i64.wrap ((k : Int) + 1) = (k : Int) + 1 := IntWalk.i64_in _ ⟨by omega, by omega⟩
    by_cases hlt : k < n
    · have hki : (k : Int) < (n : Int) := by omega
      have hki0 : (0 : Int) ≤ (k : Int) := Int.natCast_nonneg k
      have HXW0 := HWS.out k hlt
      obtain ⟨ad, eA, _, _⟩ := at_T52 HHC.out (k : Int) (by omega) (by omega)
      obtain ⟨x, hxe⟩ : ∃ x, ws.getD k z52 = x := ⟨_, rfl⟩
      rw [hxe] at HXW0
      have HXW := Aside0.mk HXW0
      have HXE := Aside0.mk hxe
      have HTS0 := Aside0.mk (cT_succ L ws h m true k)
      have HTS1 := Aside0.mk (cT_succ L ws h m false k)
      have hcs : ∀ b, cS L ws h m k b = beh L x.f1 (!b) h m x.f0 := fun b => by rw [HNW.out] at hlt; unfold cS; rw [← hxe]; simp [List.getD_eq_getElem?_getD, List.getElem?_eq_getElem hlt]
      rw [hcs true] at HTS0
      rw [hcs false] at HTS1
      have HBHtrue := Aside0.mk (fun W hB => HBE.out true x.f0 x.f1 HXW.out W hB)
      have HBHfalse := Aside0.mk (fun W hB => HBE.out false x.f0 x.f1 HXW.out W hB)
      obtain ⟨rtrue, hr0⟩ : ∃ r, beh L x.f1 (!true) h m x.f0 = r := ⟨_, rfl⟩
      obtain ⟨rfalse, hr1⟩ : ∃ r, beh L x.f1 (!false) h m x.f0 = r := ⟨_, rfl⟩
      rw [hr0] at HTS0 HBHtrue
      rw [hr1] at HTS1 HBHfalse
      have HT0 : Aside0 ((cT L ws h m true k).length ≤ 6) := ⟨by rw [cT_len]; omega⟩
      have HT1 : Aside0 ((cT L ws h m false k).length ≤ 6) := ⟨by rw [cT_len]; omega⟩
      subst eA
      clear hcs hxe HXW0
      obtain ⟨T0, hT0⟩ : ∃ T, cT L ws h m true k = T := ⟨_, rfl⟩
      obtain ⟨T1, hT1⟩ : ∃ T, cT L ws h m false k = T := ⟨_, rfl⟩
      rw [hT0] at HTS0 HT0 HV0
      rw [hT1] at HTS1 HT1 HV1
      clear hT0 hT1
      have c0 := HG.out.cell 0 (v := v0) rfl
      have HX0 : Aside0 (Below wo.heap.size wo wo.drew) := ⟨below_drew (Below.refl _ _)⟩
      have hx0 : wo.cell? (ad.add (k * 2)) = some (.int .i16 x.f0) := by obtain ⟨a_, e_, y0_, y1_⟩ := at_T52 (Kd.C_below HHC.out HB.out) (k : Int) (by omega) (by omega); injection e_ with e_; subst e_; rw [show rd_T52 ws k = ws.getD k z52 from rfl, HXE.out] at y0_; exact (show (k : Int).toNat = k from rfl) ▸ y0_
      have hx1 : wo.cell? ⟨(ad.add (k * 2)).block, (ad.add (k * 2)).off + 1, none⟩ = some (.int .i8 x.f1) := by obtain ⟨a_, e_, y0_, y1_⟩ := at_T52 (Kd.C_below HHC.out HB.out) (k : Int) (by omega) (by omega); injection e_ with e_; subst e_; rw [show rd_T52 ws k = ws.getD k z52 from rfl, HXE.out] at y1_; exact (show (k : Int).toNat = k from rfl) ▸ y1_
      go_wp2_with fail
      refine start_ (n := 17) (S := fun w' => w'.cell? ⟨gs, 0, none⟩ = some v0 ∧ w'.cell? (ad.add (k * 2)) = some (.int .i16 x.f0) ∧ w'.cell? ⟨(ad.add (k * 2)).block, (ad.add (k * 2)).off + 1, none⟩ = some (.int .i8 x.f1)) (ds := [16]) #[false, false, false, false, false, false, false, false, false, false, false, false, false, false, false, false, false] (by kernel_rfl) rfl rfl ⟨c0, hx0, hx1⟩ (fun hHeld => ?_)
      generalize wo.drew = w9 at HX0 hHeld ⊢
      refine pure_ (i := 0) (N := some 53) (v := ?_) (a' := ?_) #[true, false, false, false, false, false, false, false, false, false, false, false, false, false, false, false, false] rfl rfl (by kernel_rfl) (fun _ _ _ h => h) (Or.inl ⟨by rfl, ?_⟩) ?_ ?_
      rotate_left
      · intro w'
        go_simp
        with_reducible rfl
      rotate_left
      · simp only [Act.put, List.setIfInBounds_toArray, List.set_cons_zero, List.set_cons_succ, i64_w, i32_w]
        rfl
      refine pure_ (i := 1) (N := some 54) (v := ?_) (a' := ?_) #[true, true, false, false, false, false, false, false, false, false, false, false, false, false, false, false, false] rfl rfl (by kernel_rfl) (fun _ _ _ h => h) (Or.inl ⟨by rfl, ?_⟩) ?_ ?_
      rotate_left
      · intro w'
        go_simp
        with_reducible rfl
      rotate_left
      · simp only [Act.put, List.setIfInBounds_toArray, List.set_cons_zero, List.set_cons_succ, i64_w, i32_w]
        rfl
      refine pure_ (i := 2) (N := some 55) (v := ?_) (a' := ?_) #[true, true, true, false, false, false, false, false, false, false, false, false, false, false, false, false, false] rfl rfl (by kernel_rfl) (fun _ _ _ h => h) (Or.inl ⟨by rfl, ?_⟩) ?_ ?_
      rotate_left
      · intro w'
        go_simp
        with_reducible rfl
      rotate_left
      · simp only [Act.put, List.setIfInBounds_toArray, List.set_cons_zero, List.set_cons_succ, i64_w, i32_w]
        rfl
      refine pure_ (i := 3) (N := some 56) (v := ?_) (a' := ?_) #[true, true, true, true, false, false, false, false, false, false, false, false, false, false, false, false, false] rfl rfl (by kernel_rfl) (fun _ _ _ h => h) (Or.inl ⟨by rfl, ?_⟩) ?_ ?_
      rotate_left
      · intro w'
        go_simp
        with_reducible rfl
      rotate_left
      · simp only [Act.put, List.setIfInBounds_toArray, List.set_cons_zero, List.set_cons_succ, i64_w, i32_w]
        rfl
      refine take_ (i := 4) (N := some 57) (v := ?_) (a' := ?_) #[true, true, true, true, true, false, false, false, false, false, false, false, false, false, false, false, false] rfl rfl (by kernel_rfl) (fun _ _ _ h => h) (Or.inl ⟨by rfl, ?_⟩) hHeld ?_ ?_
      rotate_left
      · rintro w' ⟨s0, s1, s2⟩
        go_simp
        with_reducible rfl
      rotate_left
      · simp only [Act.put, List.setIfInBounds_toArray, List.set_cons_zero, List.set_cons_succ, i64_w, i32_w]
        rfl
      refine pure_ (i := 5) (N := some 58) (v := ?_) (a' := ?_) #[true, true, true, true, true, true, false, false, false, false, false, false, false, false, false, false, false] rfl rfl (by kernel_rfl) (fun _ _ _ h => h) (Or.inl ⟨by rfl, ?_⟩) ?_ ?_
      rotate_left
      · intro w'
        go_simp
        with_reducible rfl
      rotate_left
      · simp only [Act.put, List.setIfInBounds_toArray, List.set_cons_zero, List.set_cons_succ, i64_w, i32_w]
        rfl
      refine pure_ (i := 6) (N := some 59) (v := ?_) (a' := ?_) #[true, true, true, true, true, true, true, false, false, false, false, false, false, false, false, false, false] rfl rfl (by kernel_rfl) (fun _ _ _ h => h) (Or.inl ⟨by rfl, ?_⟩) ?_ ?_
      rotate_left
      · intro w'
        go_simp
        with_reducible rfl
      rotate_left
      · simp only [Act.put, List.setIfInBounds_toArray, List.set_cons_zero, List.set_cons_succ, i64_w, i32_w]
        rfl
      refine pure_ (i := 7) (N := some 60) (v := ?_) (a' := ?_) #[true, true, true, true, true, true, true, true, false, false, false, false, false, false, false, false, false] rfl rfl (by kernel_rfl) (fun _ _ _ h => h) (Or.inl ⟨by rfl, ?_⟩) ?_ ?_
      rotate_left
      · intro w'
        go_simp
        with_reducible rfl
      rotate_left
      · simp only [Act.put, List.setIfInBounds_toArray, List.set_cons_zero, List.set_cons_succ, i64_w, i32_w]
        rfl
      refine take_ (i := 8) (N := some 61) (v := ?_) (a' := ?_) #[true, true, true, true, true, true, true, true, true, false, false, false, false, false, false, false, false] rfl rfl (by kernel_rfl) (fun _ _ _ h => h) (Or.inl ⟨by rfl, ?_⟩) hHeld ?_ ?_
      rotate_left
      · rintro w' ⟨s0, s1, s2⟩
        go_simp
        with_reducible rfl
      rotate_left
      · simp only [Act.put, List.setIfInBounds_toArray, List.set_cons_zero, List.set_cons_succ, i64_w, i32_w]
        rfl
      refine pure_ (i := 9) (N := some 62) (v := ?_) (a' := ?_) #[true, true, true, true, true, true, true, true, true, true, false, false, false, false, false, false, false] rfl rfl (by kernel_rfl) (fun _ _ _ h => h) (Or.inl ⟨by rfl, ?_⟩) ?_ ?_
      rotate_left
      · intro w'
        go_simp
        with_reducible rfl
      rotate_left
      · simp only [Act.put, List.setIfInBounds_toArray, List.set_cons_zero, List.set_cons_succ, i64_w, i32_w]
        rfl
      refine pure_ (i := 10) (N := some 63) (v := ?_) (a' := ?_) #[true, true, true, true, true, true, true, true, true, true, true, false, false, false, false, false, false] rfl rfl (by kernel_rfl) (fun _ _ _ h => h) (Or.inl ⟨by rfl, ?_⟩) ?_ ?_
      rotate_left
      · intro w'
        go_simp
        with_reducible rfl
      rotate_left
      · simp only [Act.put, List.setIfInBounds_toArray, List.set_cons_zero, List.set_cons_succ, i64_w, i32_w]
        rfl
      refine one_ (i := 11) (N := some 64) #[true, true, true, true, true, true, true, true, true, true, true, true, false, false, false, false, false] rfl rfl (by kernel_rfl) (by decide) (fun K hK => ?_)
      refine goes_ Tryd.func17 (by kernel_rfl) rfl #[.pointer (some ⟨w.heap.size, 0, none⟩), .agg #[.int .i16 x.f0, .int .i8 x.f1], .int .i64 (h : Int), .int .i64 t1, .bool false] (by rfl) rfl rfl (by (try simp only [List.map_toArray, List.map_cons, List.map_nil]); first | done | rfl) ?_
      refine (HBHtrue.out _ (HD.out.below HX0.out)).mono ?_
      rintro e wq ⟨rfl, hbq⟩
      refine ⟨_, rfl, ?_⟩
      have HX1 := Aside0.mk (below_step HX0.out hbq)
      refine hK.out _ _ ⟨pw_cell_below HX1.out c0, pw_cell_below HX1.out hx0, pw_cell_below HX1.out hx1⟩ (fun hHeld => ?_)
      clear hK K HX0 hbq
      refine norm_ (a' := ?_) ?_ ?_
      rotate_left
      · show Act.put _ (some 64) _ = _
        simp only [Act.put, List.setIfInBounds_toArray, List.set_cons_zero, List.set_cons_succ, i64_w, i32_w]
        rfl
      refine one_ (i := 12) (N := some 65) #[true, true, true, true, true, true, true, true, true, true, true, true, true, false, false, false, false] rfl rfl (by kernel_rfl) (by decide) (fun K hK => ?_)
      refine value_ (v := ?_) (w1 := ?_) (by rfl) rfl ?_ ?_
      rotate_left
      rotate_left
      · go_simp
        first | (refine ⟨?_, ?_⟩ <;> rfl) | rfl
      have HX2 := Aside0.mk (below_alloc HX1.out (.cells #[.int .i64 rtrue] 2))
      have HBJ : Aside0 (Blk (wq.alloc (.cells #[.int .i64 rtrue] 2)) (wq.heap.size) 2 [.int .i64 rtrue]) := ⟨Blk.at_ (by simp) rfl⟩
      refine hK.out _ _ ⟨pw_cell_below HX2.out c0, pw_cell_below HX2.out hx0, pw_cell_below HX2.out hx1⟩ (fun hHeld => ?_)
      clear hK K HX1
      refine norm_ (a' := ?_) ?_ ?_
      rotate_left
      · show Act.put _ (some 65) _ = _
        simp only [Act.put, List.setIfInBounds_toArray, List.set_cons_zero, List.set_cons_succ, i64_w, i32_w]
        rfl
      refine one_ (i := 13) (N := some 66) #[true, true, true, true, true, true, true, true, true, true, true, true, true, true, false, false, false] rfl rfl (by kernel_rfl) (by decide) (fun K hK => ?_)
      have HV := Aside0.mk (HV0.out.below HX2.out)
      have HU_ := Aside0.mk (HV1.out.below HX2.out)
      have HD_ := Aside0.mk (HD.out.below HX2.out)
      have HG_ := Aside0.mk (HG.out.below HX2.out)
      have HB_ := Aside0.mk (below_step HB.out HX2.out)
      refine on_ (by rfl) ?_
      refine wp_append_lies _ _ _ 28 (by rfl) w.heap.size 2 i0 _ 1 8 Tryd.underlying28 HI.out.1 HI.out.2.1 HI.out.2.2.1 HI.out.2.2.2 (by rfl) (by decide) v0 T0.length (nums .i64 T0) (by rfl) HV.out ⟨wq.heap.size, 0, none⟩ 1 1 [.int .i64 rtrue] (by rfl) (by rfl) (World.news_of_block HBJ.out) (by intro u hu; simp at hu; subst hu; rfl) (by decide) (by have := HT0.out; unfold maxLen; omega) (by have := HT0.out; omega) (Below.size HB_.out) _ rfl ?_
      intro g' cap' w3 hown hgrow hat hlt'
      have HX3 := Aside0.mk (Nat.le_trans (Below.size HX2.out) hgrow.size)
      have HV3 : Aside0 (Ir w3 w.heap.size (.slice (some ⟨g', 0, none⟩) (T0.length + 1) cap') (T0 ++ [rtrue])) := ⟨by unfold Ir; rw [← nums_snoc, List.length_append, List.length_singleton]; exact hown⟩
      have HU3 := Aside0.mk (HU_.out.grown hgrow (by cases e_ : v1.ownBlock with | none => exact .inl rfl | some q => exact .inr (fun e2_ => N3.out q e2_.symm e_)))
      have HD3 := Aside0.mk (HD_.out.grown hgrow (Kd.R_ne HV.out.row HD_.out (by decide)))
      have HG3 := Aside0.mk (HG_.out.grown hgrow (Kd.R_ne HV.out.row HG_.out (by decide)))
      have HB3 := Aside0.mk (pw_below_grown HB_.out _ (Below.size HB_.out) hgrow (fun k_ e_ => own_base HV.out k_ e_))
      have N33 : Aside0 (∀ q, (Value.slice (some ⟨g', 0, none⟩) (T0.length + 1) cap').ownBlock = some q → v1.ownBlock ≠ some q) := ⟨fun q e1_ e2_ => by injection e1_ with e1_; subst e1_; rcases hat with h_ | h_; exact N3.out _ h_ e2_; (have h9_ : g' < _ := own_lt HU_.out _ e2_; omega)⟩
      have d0 := HG3.out.cell 0 (v := v0) rfl
      have f0 := HG3.out.frozen 0
      clear hown hgrow hat hlt' HV HU_ HD_ HG_ HB_
      refine hK.out _ _ ⟨d0, (by obtain ⟨a_, e_, y0_, y1_⟩ := at_T52 (Kd.C_below HHC.out HB3.out) (k : Int) (by omega) (by omega); injection e_ with e_; subst e_; rw [show rd_T52 ws k = ws.getD k z52 from rfl, HXE.out] at y0_; exact (show (k : Int).toNat = k from rfl) ▸ y0_), (by obtain ⟨a_, e_, y0_, y1_⟩ := at_T52 (Kd.C_below HHC.out HB3.out) (k : Int) (by omega) (by omega); injection e_ with e_; subst e_; rw [show rd_T52 ws k = ws.getD k z52 from rfl, HXE.out] at y1_; exact (show (k : Int).toNat = k from rfl) ▸ y1_)⟩ (fun hHeld => ?_)
      clear hK K HX2
      refine norm_ (a' := ?_) ?_ ?_
      rotate_left
      · show Act.put _ (some 66) _ = _
        simp only [Act.put, List.setIfInBounds_toArray, List.set_cons_zero, List.set_cons_succ, i64_w, i32_w]
        rfl
      refine pure_ (i := 14) (N := some 67) (v := ?_) (a' := ?_) #[true, true, true, true, true, true, true, true, true, true, true, true, true, true, true, false, false] rfl rfl (by kernel_rfl) (fun _ _ _ h => h) (Or.inl ⟨by rfl, ?_⟩) ?_ ?_
      rotate_left
      · intro w'
        go_simp
        with_reducible rfl
      rotate_left
      · simp only [Act.put, List.setIfInBounds_toArray, List.set_cons_zero, List.set_cons_succ, i64_w, i32_w]
        rfl
      refine pure_ (i := 15) (N := some 68) (v := ?_) (a' := ?_) #[true, true, true, true, true, true, true, true, true, true, true, true, true, true, true, true, false] rfl rfl (by kernel_rfl) (fun _ _ _ h => h) (Or.inl ⟨by rfl, ?_⟩) ?_ ?_
      rotate_left
      · intro w'
        go_simp
        with_reducible rfl
      rotate_left
      · simp only [Act.put, List.setIfInBounds_toArray, List.set_cons_zero, List.set_cons_succ, i64_w, i32_w]
        rfl
      refine last_ (i := 16) (N := none) #[true, true, true, true, true, true, true, true, true, true, true, true, true, true, true, true, true] rfl rfl (by kernel_rfl) (by decide) (fun K hK => ?_)
      refine skip_ (w1 := ?_) (by rfl) rfl ?_ ?_
      rotate_left
      · go_simp
        rfl
      refine hK.out _ _ ?_
      clear hK K
      have ng_ := Kd.R_ne HV3.out.row HG3.out (by decide)
      have nu_ := Kd.R_ne HU3.out.row HG3.out (by decide)
      have hG4 := HG3.out.set 0 (Value.slice (some ⟨g', 0, none⟩) (T0.length + 1) cap')
      have hV4 := HV3.out.grown (grown_set w3 gs 0 (Value.slice (some ⟨g', 0, none⟩) (T0.length + 1) cap')) (.inr (fun e_ => ng_ e_.symm))
      have hU4 := HU3.out.grown (grown_set w3 gs 0 (Value.slice (some ⟨g', 0, none⟩) (T0.length + 1) cap')) (.inr (fun e_ => nu_ e_.symm))
      have hD4 := HD3.out.grown (grown_set w3 gs 0 (Value.slice (some ⟨g', 0, none⟩) (T0.length + 1) cap')) (by simpa using hgd)
      have hB4 := HB3.out.setCell (p := ⟨gs, 0, none⟩) hgw (Value.slice (some ⟨g', 0, none⟩) (T0.length + 1) cap')
      generalize w3.setCell ⟨gs, 0, none⟩ (Value.slice (some ⟨g', 0, none⟩) (T0.length + 1) cap') = w5 at hG4 hV4 hU4 hD4 hB4 ⊢
      clear HG HV0 HV1 HD HB N3
      have HG : Aside0 (Blk w5 gs 48 [(Value.slice (some ⟨g', 0, none⟩) (T0.length + 1) cap'), v1, .slice none 0 0, .int .i64 0, .bool false, .int .i64 places]) := ⟨hG4⟩
      have HV1 := Aside0.mk hU4
      have HD := Aside0.mk hD4
      have HB := Aside0.mk hB4
      have HVn := Aside0.mk hV4
      have N3n := Aside0.mk N33.out
      clear HV3 HU3 HD3 HG3 HB3 N33 hG4 hV4 hU4 hD4 hB4 ng_ nu_ d0 f0 HBJ c0 hx0 hx1 hHeld HX3
      obtain ⟨v0n, hvn⟩ : ∃ x_, x_ = (Value.slice (some ⟨g', 0, none⟩) (T0.length + 1) cap') := ⟨_, rfl⟩
      rw [← hvn] at HG HVn N3n ⊢
      clear hvn
      have HV0 : Aside0 (Ir w5 w.heap.size v0n (cT L ws h m true (k + 1))) := ⟨by rw [HTS0.out]; exact HVn.out⟩
      clear HVn
      have N3 : Aside0 (∀ q, v0n.ownBlock = some q → v1.ownBlock ≠ some q) := N3n
      clear N3n
      refine done_ (by kernel_rfl) ?_
      have c0 := HG.out.cell 1 (v := v1) rfl
      have HX0 : Aside0 (Below w5.heap.size w5 w5.drew) := ⟨below_drew (Below.refl _ _)⟩
      have hx0 : w5.cell? (ad.add (k * 2)) = some (.int .i16 x.f0) := by obtain ⟨a_, e_, y0_, y1_⟩ := at_T52 (Kd.C_below HHC.out HB.out) (k : Int) (by omega) (by omega); injection e_ with e_; subst e_; rw [show rd_T52 ws k = ws.getD k z52 from rfl, HXE.out] at y0_; exact (show (k : Int).toNat = k from rfl) ▸ y0_
      have hx1 : w5.cell? ⟨(ad.add (k * 2)).block, (ad.add (k * 2)).off + 1, none⟩ = some (.int .i8 x.f1) := by obtain ⟨a_, e_, y0_, y1_⟩ := at_T52 (Kd.C_below HHC.out HB.out) (k : Int) (by omega) (by omega); injection e_ with e_; subst e_; rw [show rd_T52 ws k = ws.getD k z52 from rfl, HXE.out] at y1_; exact (show (k : Int).toNat = k from rfl) ▸ y1_
      go_wp2_with fail
      refine start_ (n := 17) (S := fun w' => w'.cell? ⟨gs, 1, none⟩ = some v1 ∧ w'.cell? (ad.add (k * 2)) = some (.int .i16 x.f0) ∧ w'.cell? ⟨(ad.add (k * 2)).block, (ad.add (k * 2)).off + 1, none⟩ = some (.int .i8 x.f1)) (ds := [16]) #[false, false, false, false, false, false, false, false, false, false, false, false, false, false, false, false, false] (by kernel_rfl) rfl rfl ⟨c0, hx0, hx1⟩ (fun hHeld => ?_)
      generalize w5.drew = w9 at HX0 hHeld ⊢
      refine pure_ (i := 0) (N := some 69) (v := ?_) (a' := ?_) #[true, false, false, false, false, false, false, false, false, false, false, false, false, false, false, false, false] rfl rfl (by kernel_rfl) (fun _ _ _ h => h) (Or.inl ⟨by rfl, ?_⟩) ?_ ?_
      rotate_left
      · intro w'
        go_simp
        with_reducible rfl
      rotate_left
      · simp only [Act.put, List.setIfInBounds_toArray, List.set_cons_zero, List.set_cons_succ, i64_w, i32_w]
        rfl
      refine pure_ (i := 1) (N := some 70) (v := ?_) (a' := ?_) #[true, true, false, false, false, false, false, false, false, false, false, false, false, false, false, false, false] rfl rfl (by kernel_rfl) (fun _ _ _ h => h) (Or.inl ⟨by rfl, ?_⟩) ?_ ?_
      rotate_left
      · intro w'
        go_simp
        with_reducible rfl
      rotate_left
      · simp only [Act.put, List.setIfInBounds_toArray, List.set_cons_zero, List.set_cons_succ, i64_w, i32_w]
        rfl
      refine pure_ (i := 2) (N := some 71) (v := ?_) (a' := ?_) #[true, true, true, false, false, false, false, false, false, false, false, false, false, false, false, false, false] rfl rfl (by kernel_rfl) (fun _ _ _ h => h) (Or.inl ⟨by rfl, ?_⟩) ?_ ?_
      rotate_left
      · intro w'
        go_simp
        with_reducible rfl
      rotate_left
      · simp only [Act.put, List.setIfInBounds_toArray, List.set_cons_zero, List.set_cons_succ, i64_w, i32_w]
        rfl
      refine pure_ (i := 3) (N := some 72) (v := ?_) (a' := ?_) #[true, true, true, true, false, false, false, false, false, false, false, false, false, false, false, false, false] rfl rfl (by kernel_rfl) (fun _ _ _ h => h) (Or.inl ⟨by rfl, ?_⟩) ?_ ?_
      rotate_left
      · intro w'
        go_simp
        with_reducible rfl
      rotate_left
      · simp only [Act.put, List.setIfInBounds_toArray, List.set_cons_zero, List.set_cons_succ, i64_w, i32_w]
        rfl
      refine take_ (i := 4) (N := some 73) (v := ?_) (a' := ?_) #[true, true, true, true, true, false, false, false, false, false, false, false, false, false, false, false, false] rfl rfl (by kernel_rfl) (fun _ _ _ h => h) (Or.inl ⟨by rfl, ?_⟩) hHeld ?_ ?_
      rotate_left
      · rintro w' ⟨s0, s1, s2⟩
        go_simp
        with_reducible rfl
      rotate_left
      · simp only [Act.put, List.setIfInBounds_toArray, List.set_cons_zero, List.set_cons_succ, i64_w, i32_w]
        rfl
      refine pure_ (i := 5) (N := some 74) (v := ?_) (a' := ?_) #[true, true, true, true, true, true, false, false, false, false, false, false, false, false, false, false, false] rfl rfl (by kernel_rfl) (fun _ _ _ h => h) (Or.inl ⟨by rfl, ?_⟩) ?_ ?_
      rotate_left
      · intro w'
        go_simp
        with_reducible rfl
      rotate_left
      · simp only [Act.put, List.setIfInBounds_toArray, List.set_cons_zero, List.set_cons_succ, i64_w, i32_w]
        rfl
      refine pure_ (i := 6) (N := some 75) (v := ?_) (a' := ?_) #[true, true, true, true, true, true, true, false, false, false, false, false, false, false, false, false, false] rfl rfl (by kernel_rfl) (fun _ _ _ h => h) (Or.inl ⟨by rfl, ?_⟩) ?_ ?_
      rotate_left
      · intro w'
        go_simp
        with_reducible rfl
      rotate_left
      · simp only [Act.put, List.setIfInBounds_toArray, List.set_cons_zero, List.set_cons_succ, i64_w, i32_w]
        rfl
      refine pure_ (i := 7) (N := some 76) (v := ?_) (a' := ?_) #[true, true, true, true, true, true, true, true, false, false, false, false, false, false, false, false, false] rfl rfl (by kernel_rfl) (fun _ _ _ h => h) (Or.inl ⟨by rfl, ?_⟩) ?_ ?_
      rotate_left
      · intro w'
        go_simp
        with_reducible rfl
      rotate_left
      · simp only [Act.put, List.setIfInBounds_toArray, List.set_cons_zero, List.set_cons_succ, i64_w, i32_w]
        rfl
      refine take_ (i := 8) (N := some 77) (v := ?_) (a' := ?_) #[true, true, true, true, true, true, true, true, true, false, false, false, false, false, false, false, false] rfl rfl (by kernel_rfl) (fun _ _ _ h => h) (Or.inl ⟨by rfl, ?_⟩) hHeld ?_ ?_
      rotate_left
      · rintro w' ⟨s0, s1, s2⟩
        go_simp
        with_reducible rfl
      rotate_left
      · simp only [Act.put, List.setIfInBounds_toArray, List.set_cons_zero, List.set_cons_succ, i64_w, i32_w]
        rfl
      refine pure_ (i := 9) (N := some 78) (v := ?_) (a' := ?_) #[true, true, true, true, true, true, true, true, true, true, false, false, false, false, false, false, false] rfl rfl (by kernel_rfl) (fun _ _ _ h => h) (Or.inl ⟨by rfl, ?_⟩) ?_ ?_
      rotate_left
      · intro w'
        go_simp
        with_reducible rfl
      rotate_left
      · simp only [Act.put, List.setIfInBounds_toArray, List.set_cons_zero, List.set_cons_succ, i64_w, i32_w]
        rfl
      refine pure_ (i := 10) (N := some 79) (v := ?_) (a' := ?_) #[true, true, true, true, true, true, true, true, true, true, true, false, false, false, false, false, false] rfl rfl (by kernel_rfl) (fun _ _ _ h => h) (Or.inl ⟨by rfl, ?_⟩) ?_ ?_
      rotate_left
      · intro w'
        go_simp
        with_reducible rfl
      rotate_left
      · simp only [Act.put, List.setIfInBounds_toArray, List.set_cons_zero, List.set_cons_succ, i64_w, i32_w]
        rfl
      refine one_ (i := 11) (N := some 80) #[true, true, true, true, true, true, true, true, true, true, true, true, false, false, false, false, false] rfl rfl (by kernel_rfl) (by decide) (fun K hK => ?_)
      refine goes_ Tryd.func17 (by kernel_rfl) rfl #[.pointer (some ⟨w.heap.size, 0, none⟩), .agg #[.int .i16 x.f0, .int .i8 x.f1], .int .i64 (h : Int), .int .i64 t1, .bool true] (by rfl) rfl rfl (by (try simp only [List.map_toArray, List.map_cons, List.map_nil]); first | done | rfl) ?_
      refine (HBHfalse.out _ (HD.out.below HX0.out)).mono ?_
      rintro e wq ⟨rfl, hbq⟩
      refine ⟨_, rfl, ?_⟩
      have HX1 := Aside0.mk (below_step HX0.out hbq)
      refine hK.out _ _ ⟨pw_cell_below HX1.out c0, pw_cell_below HX1.out hx0, pw_cell_below HX1.out hx1⟩ (fun hHeld => ?_)
      clear hK K HX0 hbq
      refine norm_ (a' := ?_) ?_ ?_
      rotate_left
      · show Act.put _ (some 80) _ = _
        simp only [Act.put, List.setIfInBounds_toArray, List.set_cons_zero, List.set_cons_succ, i64_w, i32_w]
        rfl
      refine one_ (i := 12) (N := some 81) #[true, true, true, true, true, true, true, true, true, true, true, true, true, false, false, false, false] rfl rfl (by kernel_rfl) (by decide) (fun K hK => ?_)
      refine value_ (v := ?_) (w1 := ?_) (by rfl) rfl ?_ ?_
      rotate_left
      rotate_left
      · go_simp
        first | (refine ⟨?_, ?_⟩ <;> rfl) | rfl
      have HX2 := Aside0.mk (below_alloc HX1.out (.cells #[.int .i64 rfalse] 2))
      have HBJ : Aside0 (Blk (wq.alloc (.cells #[.int .i64 rfalse] 2)) (wq.heap.size) 2 [.int .i64 rfalse]) := ⟨Blk.at_ (by simp) rfl⟩
      refine hK.out _ _ ⟨pw_cell_below HX2.out c0, pw_cell_below HX2.out hx0, pw_cell_below HX2.out hx1⟩ (fun hHeld => ?_)
      clear hK K HX1
      refine norm_ (a' := ?_) ?_ ?_
      rotate_left
      · show Act.put _ (some 81) _ = _
        simp only [Act.put, List.setIfInBounds_toArray, List.set_cons_zero, List.set_cons_succ, i64_w, i32_w]
        rfl
      refine one_ (i := 13) (N := some 82) #[true, true, true, true, true, true, true, true, true, true, true, true, true, true, false, false, false] rfl rfl (by kernel_rfl) (by decide) (fun K hK => ?_)
      have HV := Aside0.mk (HV1.out.below HX2.out)
      have HU_ := Aside0.mk (HV0.out.below HX2.out)
      have HD_ := Aside0.mk (HD.out.below HX2.out)
      have HG_ := Aside0.mk (HG.out.below HX2.out)
      have HB_ := Aside0.mk (below_step HB.out HX2.out)
      refine on_ (by rfl) ?_
      refine wp_append_lies _ _ _ 28 (by rfl) w.heap.size 2 i0 _ 1 8 Tryd.underlying28 HI.out.1 HI.out.2.1 HI.out.2.2.1 HI.out.2.2.2 (by rfl) (by decide) v1 T1.length (nums .i64 T1) (by rfl) HV.out ⟨wq.heap.size, 0, none⟩ 1 1 [.int .i64 rfalse] (by rfl) (by rfl) (World.news_of_block HBJ.out) (by intro u hu; simp at hu; subst hu; rfl) (by decide) (by have := HT1.out; unfold maxLen; omega) (by have := HT1.out; omega) (Below.size HB_.out) _ rfl ?_
      intro g' cap' w3 hown hgrow hat hlt'
      have HX3 := Aside0.mk (Nat.le_trans (Below.size HX2.out) hgrow.size)
      have HV3 : Aside0 (Ir w3 w.heap.size (.slice (some ⟨g', 0, none⟩) (T1.length + 1) cap') (T1 ++ [rfalse])) := ⟨by unfold Ir; rw [← nums_snoc, List.length_append, List.length_singleton]; exact hown⟩
      have HU3 := Aside0.mk (HU_.out.grown hgrow (by cases e_ : v0n.ownBlock with | none => exact .inl rfl | some q => exact .inr (fun e2_ => N3.out q e_ e2_.symm)))
      have HD3 := Aside0.mk (HD_.out.grown hgrow (Kd.R_ne HV.out.row HD_.out (by decide)))
      have HG3 := Aside0.mk (HG_.out.grown hgrow (Kd.R_ne HV.out.row HG_.out (by decide)))
      have HB3 := Aside0.mk (pw_below_grown HB_.out _ (Below.size HB_.out) hgrow (fun k_ e_ => own_base HV.out k_ e_))
      have N33 : Aside0 (∀ q, (Value.slice (some ⟨g', 0, none⟩) (T1.length + 1) cap').ownBlock = some q → v0n.ownBlock ≠ some q) := ⟨fun q e1_ e2_ => by injection e1_ with e1_; subst e1_; rcases hat with h_ | h_; exact N3.out _ e2_ h_; (have h9_ : g' < _ := own_lt HU_.out _ e2_; omega)⟩
      have d0 := HG3.out.cell 1 (v := v1) rfl
      have f0 := HG3.out.frozen 1
      clear hown hgrow hat hlt' HV HU_ HD_ HG_ HB_
      refine hK.out _ _ ⟨d0, (by obtain ⟨a_, e_, y0_, y1_⟩ := at_T52 (Kd.C_below HHC.out HB3.out) (k : Int) (by omega) (by omega); injection e_ with e_; subst e_; rw [show rd_T52 ws k = ws.getD k z52 from rfl, HXE.out] at y0_; exact (show (k : Int).toNat = k from rfl) ▸ y0_), (by obtain ⟨a_, e_, y0_, y1_⟩ := at_T52 (Kd.C_below HHC.out HB3.out) (k : Int) (by omega) (by omega); injection e_ with e_; subst e_; rw [show rd_T52 ws k = ws.getD k z52 from rfl, HXE.out] at y1_; exact (show (k : Int).toNat = k from rfl) ▸ y1_)⟩ (fun hHeld => ?_)
      clear hK K HX2
      refine norm_ (a' := ?_) ?_ ?_
      rotate_left
      · show Act.put _ (some 82) _ = _
        simp only [Act.put, List.setIfInBounds_toArray, List.set_cons_zero, List.set_cons_succ, i64_w, i32_w]
        rfl
      refine pure_ (i := 14) (N := some 83) (v := ?_) (a' := ?_) #[true, true, true, true, true, true, true, true, true, true, true, true, true, true, true, false, false] rfl rfl (by kernel_rfl) (fun _ _ _ h => h) (Or.inl ⟨by rfl, ?_⟩) ?_ ?_
      rotate_left
      · intro w'
        go_simp
        with_reducible rfl
      rotate_left
      · simp only [Act.put, List.setIfInBounds_toArray, List.set_cons_zero, List.set_cons_succ, i64_w, i32_w]
        rfl
      refine pure_ (i := 15) (N := some 84) (v := ?_) (a' := ?_) #[true, true, true, true, true, true, true, true, true, true, true, true, true, true, true, true, false] rfl rfl (by kernel_rfl) (fun _ _ _ h => h) (Or.inl ⟨by rfl, ?_⟩) ?_ ?_
      rotate_left
      · intro w'
        go_simp
        with_reducible rfl
      rotate_left
      · simp only [Act.put, List.setIfInBounds_toArray, List.set_cons_zero, List.set_cons_succ, i64_w, i32_w]
        rfl
      refine last_ (i := 16) (N := none) #[true, true, true, true, true, true, true, true, true, true, true, true, true, true, true, true, true] rfl rfl (by kernel_rfl) (by decide) (fun K hK => ?_)
      refine skip_ (w1 := ?_) (by rfl) rfl ?_ ?_
      rotate_left
      · go_simp
        rfl
      refine hK.out _ _ ?_
      clear hK K
      have ng_ := Kd.R_ne HV3.out.row HG3.out (by decide)
      have nu_ := Kd.R_ne HU3.out.row HG3.out (by decide)
      have hG4 := HG3.out.set 1 (Value.slice (some ⟨g', 0, none⟩) (T1.length + 1) cap')
      have hV4 := HV3.out.grown (grown_set w3 gs 1 (Value.slice (some ⟨g', 0, none⟩) (T1.length + 1) cap')) (.inr (fun e_ => ng_ e_.symm))
      have hU4 := HU3.out.grown (grown_set w3 gs 1 (Value.slice (some ⟨g', 0, none⟩) (T1.length + 1) cap')) (.inr (fun e_ => nu_ e_.symm))
      have hD4 := HD3.out.grown (grown_set w3 gs 1 (Value.slice (some ⟨g', 0, none⟩) (T1.length + 1) cap')) (by simpa using hgd)
      have hB4 := HB3.out.setCell (p := ⟨gs, 1, none⟩) hgw (Value.slice (some ⟨g', 0, none⟩) (T1.length + 1) cap')
      generalize w3.setCell ⟨gs, 1, none⟩ (Value.slice (some ⟨g', 0, none⟩) (T1.length + 1) cap') = w6 at hG4 hV4 hU4 hD4 hB4 ⊢
      clear HG HV1 HV0 HD HB N3
      have HG : Aside0 (Blk w6 gs 48 [v0n, (Value.slice (some ⟨g', 0, none⟩) (T1.length + 1) cap'), .slice none 0 0, .int .i64 0, .bool false, .int .i64 places]) := ⟨hG4⟩
      have HV0 := Aside0.mk hU4
      have HD := Aside0.mk hD4
      have HB := Aside0.mk hB4
      have HVn := Aside0.mk hV4
      have N3n := Aside0.mk N33.out
      clear HV3 HU3 HD3 HG3 HB3 N33 hG4 hV4 hU4 hD4 hB4 ng_ nu_ d0 f0 HBJ c0 hx0 hx1 hHeld HX3
      obtain ⟨v1n, hvn⟩ : ∃ x_, x_ = (Value.slice (some ⟨g', 0, none⟩) (T1.length + 1) cap') := ⟨_, rfl⟩
      rw [← hvn] at HG HVn N3n ⊢
      clear hvn
      have HV1 : Aside0 (Ir w6 w.heap.size v1n (cT L ws h m false (k + 1))) := ⟨by rw [HTS1.out]; exact HVn.out⟩
      clear HVn
      have N3 : Aside0 (∀ q, v0n.ownBlock = some q → v1n.ownBlock ≠ some q) := ⟨fun q e1_ e2_ => N3n.out q e2_ e1_⟩
      clear N3n
      refine done_ (by kernel_rfl) ?_
      go_wp2
      go_roundw
      case rel => exact ⟨k + 1, v0n, v1n, by omega, by go_num, HG, HV0, HV1, N3, HD, HB⟩
      case measure => simp [intOf] <;> omega
    · have hke : k = n := by omega
      subst hke
      have hki : ¬ (k : Int) < (k : Int) := by omega
      obtain ⟨A0, c0_, rfl, hc0, hC0⟩ := Kd.R_reads HV0.out.row
      obtain ⟨A1, c1_, rfl, hc1, hC1⟩ := Kd.R_reads HV1.out.row
      simp only [cT_len] at hc0 hc1 hC0 hC1 HG HV0 HV1 N3
      have ng0 := Kd.R_ne HV0.out.row HG.out (by decide)
      have ng1 := Kd.R_ne HV1.out.row HG.out (by decide)
      have HC0 := Aside0.mk (Kd.C_kept_own (S := fun q => q = gs) HV0.out.row (fun q hq e => ng0 (by rw [← e]; exact hq.symm)))
      have HC1 := Aside0.mk (Kd.C_kept_own (S := fun q => q = gs) HV1.out.row (fun q hq e => ng1 (by rw [← e]; exact hq.symm)))
      have hgl := HG.out.lt
      clear hC0 hC1 ng0 ng1
      have e0 : ownL 0 = [] := by decide +kernel
      have r1 : Ir (wo.alloc (.cells #[] 2)) wo.heap.size (.slice (some ⟨wo.heap.size, 0, none⟩) 0 0) (ownL 0) := by rw [e0]; exact ir_nil wo (Nat.le_refl _)
      have r2 : Below wo.heap.size wo (wo.alloc (.cells #[] 2)) := below_alloc (Below.refl _ _) _
      have HR1 := Aside0.mk r1
      have HR2 := Aside0.mk r2
      have HE0 := Aside0.mk e0
      clear r1 r2 e0
      go_wp2_with fail
      generalize wo.alloc (.cells #[] 2) = W9 at HR1 HR2 ⊢
      have hz9 := Below.size HR2.out
      have hbw := Below.size HB.out
      refine (sets_calls (cT L ws h m true k) (cT L ws h m false k) k (cT_len ..) (cT_len ..) (cW_ok HOKC.out k) hn6 places gs w.heap.size A0 A1 c0_ c1_ k 0 0 none wo.heap.size _ W9 0 0 (by omega) rfl (by decide) (by rw [HE0.out]; simpa using hp.1) (by omega) (by omega) HR1.out (HR1.out.ne hgl) (by omega) (by omega) ⟨_, _, _, HG.out.below HR2.out, .inl ⟨rfl, rfl, rfl, rfl⟩⟩ (Kd.C_kept_step HC0.out (Kept.of_below HR2.out _)) (Kd.C_kept_step HC1.out (Kept.of_below HR2.out _))).mono ?_
      rintro e w7 ⟨rfl, hS, hK⟩
      rw [wsR_congr (fun i hi b => cW_cT L ws h m k hi b) k 0 0 none (Nat.le_refl _), HBB.out] at hS
      obtain ⟨v, least, found, hB9, hM⟩ := hS
      obtain ⟨rfl, hI⟩ : least = l ∧ Ir w7 w.heap.size v b := by
        rcases hM with ⟨hM, _⟩ | ⟨b', hM, _, hI, _⟩
        · cases hM
        · injection hM with hM
          injection hM with h1 h2
          subst h1 h2
          exact ⟨rfl, hI⟩
      have c3 := hB9.cell 2 (v := v) rfl
      have c4 := hB9.cell 3 (v := .int .i64 least) rfl
      have HII := Aside0.mk hI
      have HBW : Aside0 (Below w.heap.size w w7) := ⟨(below_step HB.out HR2.out).trans (hK.to_below (fun k hk => by omega) (by omega))⟩
      clear hM hI hK hB9 HR1 HR2 HC0 HC1
      go_wp2_with fail
      refine seq_all (by kernel_rfl) (by kernel_rfl) (fun w8 hw8 => ?_)
      have HI8 : Aside0 (Ir w8 w.heap.size v b) := ⟨by rw [hw8]; exact HII.out.drew⟩
      have HB8 : Aside0 (Below w.heap.size w w8) := ⟨by rw [hw8]; exact below_drew HBW.out⟩
      replace c3 : w8.cell? ⟨gs, 2, none⟩ = some v := by rw [hw8]; exact c3
      replace c4 : w8.cell? ⟨gs, 3, none⟩ = some (.int .i64 least) := by rw [hw8]; exact c4
      clear hw8 HII HBW
      repeat still_step
      try refine wpStill_nil ?_
      go_wp2
      go_ret3
      exact ⟨v, rfl, HI8.out, HB8.out⟩
end Go.Proofs.YtdepnieanfjhjaaDoor.X
