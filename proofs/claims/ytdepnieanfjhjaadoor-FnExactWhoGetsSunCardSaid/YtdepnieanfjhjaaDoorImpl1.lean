/- Contracts of functions, and plain facts: what each call answers, and what it leaves as it was. -/
import Derived.Test.YtdepnieanfjhjaaDoorG13
import Derived.Test.YtdepnieanfjhjaaDoorX5
import Derived.Test.YtdepnieanfjhjaaDoorX9
import Derived.Test.YtdepnieanfjhjaaDoorX14
set_option linter.unusedVariables false
set_option linter.unusedSimpArgs false
namespace Go.Proofs.YtdepnieanfjhjaaDoor.X
open Go.RowKit Go.Proofs.YtdepnieanfjhjaaDoorW.PrintWords Go.Proofs.YtdepnieanfjhjaaDoorW.PrintLast Go.Proofs.YtdepnieanfjhjaaDoorW.PrintMore
attribute [local go_sem] max2_int min2_int max_two min_two max_three min_three max_four min_four
/-- the first of n hours from h on that p takes, counted from j on; -1 if there is none -/
def wxI (p : Int → Int → Int → Bool) (L : List Int) : Nat → Nat → Nat → Int
  | _, 0, _ => -1
  | h, n + 1, j => if p (L.getD (3 * h) 0) (L.getD (3 * h + 1) 0) (L.getD (3 * h + 2) 0) = true then (j : Int) else wxI p L (h + 1) n (j + 1)
theorem isWeather_f {a b c : Int} (ha : -128 ≤ a ∧ a ≤ 127) (hb : -128 ≤ b ∧ b ≤ 127) (hc : -128 ≤ c ∧ c ≤ 127) : impl_isWeather.f a b c = some (inR a 0 9 && (inR b 0 9 && inR c 0 9)) := by
  unfold impl_isWeather.f impl_areWithin.f inR
  rw [w64 (by omega) (by omega), w64 (by omega) (by omega), w64 (by omega) (by omega)]
  simp
theorem validWash_f {a b : Int} (ha : -32768 ≤ a ∧ a ≤ 32767) (hb : -128 ≤ b ∧ b ≤ 127) : impl_ValidWash.f a b = some (washOk a b) := by
  unfold impl_ValidWash.f impl_within.f washOk inR
  rw [w64 (by omega) (by omega), w64 (by omega) (by omega)]
  by_cases h1 : 0 ≤ a <;> by_cases h2 : a ≤ 1000 <;> by_cases h3 : 1 ≤ b <;> simp [h1, h2, h3]
def badW (a b c : Int) : Bool := !(inR a 0 9 && (inR b 0 9 && inR c 0 9))
def rainW (a b c : Int) : Bool := decide (0 < c)
theorem validDay_clo (a b c : Int) (ha : -128 ≤ a ∧ a ≤ 127) (hb : -128 ≤ b ∧ b ≤ 127) (hc : -128 ≤ c ∧ c ≤ 127) (w : World) : Calls Tryd.prog 48 #[.agg #[.int .i8 a, .int .i8 b, .int .i8 c]] w fun e w' => e = .returned (.bool (badW a b c)) ∧ Below w.heap.size w w' := by
  have h := fun W => impl_isWeather.calls a b c _ W (isWeather_f ha hb hc)
  unfold badW
  clear ha hb hc
  generalize (inR a 0 9 && (inR b 0 9 && inR c 0 9)) = r at *
  go_enter Tryd.func48, Tryd.ntmps48
  go_wp2_with (go_at_call 49; refine (h _).mono ?_; rintro e w1 ⟨rfl, hb⟩)
  go_ret
  exact ⟨rfl, below_step (below_alloc (Below.refl _ _) _) hb⟩
set_option maxHeartbeats 8000000 in
set_option maxRecDepth 100000 in
theorem idxWx_bad (L : List Int) (hL : L.length = 72) (h8 : i8All L) (g h n cap : Nat) (hh : h + n ≤ 24) (off : Nat) (hoff : off = h * 3) (w : World) (hB : Blk w g 33 (nums .i8 L)) :
    Calls Tryd.prog 54 #[.slice (some ⟨g, off, none⟩) n cap, .func (.func 48) #[] #[]] w fun e w' => e = .returned (.int .i64 (wxI badW L h n 0)) ∧ Below w.heap.size w w' := by
  subst hoff
  have HL := Aside0.mk hL
  have H8 := Aside0.mk h8
  have HB0 := Aside0.mk hB
  obtain ⟨p, hp⟩ : ∃ p, p = badW := ⟨_, rfl⟩
  have HF := Aside0.mk validDay_clo
  rw [← hp] at HF ⊢
  obtain ⟨R, hR⟩ : ∃ R, R = wxI p L h n 0 := ⟨_, rfl⟩
  rw [← hR]
  have HR := Aside0.mk hR
  clear hL h8 hB hp hR
  go_enter Tryd.func54, Tryd.ntmps54
  go_wp2
  go_loopw [8] (fun v8 w' => ∃ k : Nat, k ≤ n ∧ v8 = .int .i64 k ∧ Aside0 (R = wxI p L (h + k) (n - k) k) ∧ Aside0 (Blk w' g 33 (nums .i8 L)) ∧ Aside0 (Below w.heap.size w w')) (fun v8 _ => n - (intOf v8).toNat)
  case atStart => exact ⟨0, by omega, rfl, HR, HB0, ⟨Below.refl _ _⟩⟩
  case round =>
    obtain ⟨k, hk, rfl, HI, HA, HB⟩ := hrel
    clear HR HB0
    by_cases hlt : k < n
    · obtain ⟨x, y, z, HS, HX⟩ := seg_letters (L := L) (k := h + k) (by have := HL.out; omega)
      have HC := Aside0.mk (HF.out x y z (by rw [HX.out.1]; exact i8All_get H8.out _) (by rw [HX.out.2.1]; exact i8All_get H8.out _) (by rw [HX.out.2.2]; exact i8All_get H8.out _))
      have HE : Aside0 (R = if p x y z = true then (k : Int) else wxI p L (h + (k + 1)) (n - (k + 1)) (k + 1)) := ⟨by rw [HI.out, show n - k = n - (k + 1) + 1 by omega, HX.out.1, HX.out.2.1, HX.out.2.2]; rfl⟩
      have c1 := HA.out.rangeAt ((h + k) * 3) (seg := [.int .i8 x, .int .i8 y, .int .i8 z]) HS.out 0 _ rfl
      have c2 := HA.out.rangeAt ((h + k) * 3) (seg := [.int .i8 x, .int .i8 y, .int .i8 z]) HS.out 1 _ rfl
      have c3 := HA.out.rangeAt ((h + k) * 3) (seg := [.int .i8 x, .int .i8 y, .int .i8 z]) HS.out 2 _ rfl
      rw [Nat.add_zero] at c1
      rw [Nat.add_mul] at c1 c2 c3
      generalize p x y z = r at HC HE
      cases r
      · have HE2 : Aside0 (R = wxI p L (h + (k + 1)) (n - (k + 1)) (k + 1)) := ⟨HE.out⟩
        clear HE HI HX HS
        go_wp2_with (go_at_call 48; refine (HC.out _).mono ?_; rintro e w1 ⟨rfl, hb⟩; have HB1 := Aside0.mk (below_step HB.out hb); have HA1 := Aside0.mk (HA.out.below hb); clear hb)
        go_roundw
        case rel => exact ⟨k + 1, by omega, by go_num, HE2, HA1, HB1⟩
        case measure => simp [intOf]; omega
      · have HE2 : Aside0 (R = (k : Int)) := ⟨HE.out⟩
        clear HE HI HX HS
        go_wp2_with (go_at_call 48; refine (HC.out _).mono ?_; rintro e w1 ⟨rfl, hb⟩; have HB1 := Aside0.mk (below_step HB.out hb); clear hb)
        go_ret
        exact ⟨by rw [HE2.out]; rfl, HB1.out⟩
    · obtain rfl : k = n := by omega
      have HE2 : Aside0 (R = -1) := ⟨by rw [HI.out, Nat.sub_self]; rfl⟩
      clear HI
      go_wp2
      go_ret
      exact ⟨by rw [HE2.out]; rfl, HB.out⟩
theorem wxI_bad (L : List Int) (hL : L.length = 72) : ∀ n h j : Nat, h + n = 24 → (0 ≤ wxI badW L h n j ↔ dayOk (L.drop (3 * h)) = false) ∧ (wxI badW L h n j < 0 ↔ dayOk (L.drop (3 * h)) = true)
  | 0, h, j, hn => by
    rw [List.drop_of_length_le (by omega)]
    simp [wxI, dayOk]
  | n + 1, h, j, hn => by
    have h1 := wxI_bad L hL n (h + 1) (j + 1) (by omega)
    rw [dayOk_drop (by omega)]
    unfold wxI
    rw [show badW (L.getD (3 * h) 0) (L.getD (3 * h + 1) 0) (L.getD (3 * h + 2) 0) = !(inR (L.getD (3 * h) 0) 0 9 && (inR (L.getD (3 * h + 1) 0) 0 9 && inR (L.getD (3 * h + 2) 0) 0 9)) from rfl]
    cases (inR (L.getD (3 * h) 0) 0 9 && (inR (L.getD (3 * h + 1) 0) 0 9 && inR (L.getD (3 * h + 2) 0) 0 9))
    · simp
    · simpa using h1
set_option maxHeartbeats 8000000 in
set_option maxRecDepth 100000 in
theorem hasWx_bad (L : List Int) (hL : L.length = 72) (h8 : i8All L) (g : Nat) (w : World) (hB : Blk w g 33 (nums .i8 L)) :
    Calls Tryd.prog 47 #[.slice (some ⟨g, 0, none⟩) 24 24, .func (.func 48) #[] #[]] w fun e w' => e = .returned (.bool (!dayOk L)) ∧ Below w.heap.size w w' := by
  have hc := idxWx_bad L hL h8 g 0 24 24 (by omega) 0 (by omega) w hB
  have h0 := wxI_bad L hL 24 0 0 (by omega)
  rw [Nat.mul_zero, List.drop_zero] at h0
  have HR : Aside0 ((!dayOk L) = decide (0 ≤ wxI badW L 0 24 0)) := ⟨by rw [Bool.eq_iff_iff]; simp [h0.1]⟩
  rw [HR.out]
  clear HR h0 hL h8 hB
  generalize wxI badW L 0 24 0 = r at *
  go_enter Tryd.func47, Tryd.ntmps47
  go_wp2_with (go_at_call 54; refine hc.mono ?_; rintro e w1 ⟨rfl, hb⟩)
  go_ret
  exact ⟨rfl, hb⟩
set_option maxHeartbeats 8000000 in
set_option maxRecDepth 100000 in
theorem validDay_calls (L : List Int) (hL : L.length = 72) (h8 : i8All L) (w : World) : Calls Tryd.prog 36 #[(.agg (nums .i8 L).toArray)] w fun e w' => e = .returned (.bool (dayOk L)) ∧ Below w.heap.size w w' := by
  have hc := hasWx_bad L hL h8 w.heap.size (w.alloc (.cells (nums .i8 L).toArray 33)) (Blk.new w _ _)
  clear hL h8
  generalize dayOk L = r at *
  go_enter Tryd.func36, Tryd.ntmps36
  go_wp2_with (go_at_call 47; refine hc.mono ?_; rintro e w1 ⟨rfl, hb⟩)
  go_ret
  exact ⟨by simp, below_step (below_alloc (Below.refl _ _) _) hb⟩
theorem washBad_clo (a b : Int) (ha : -32768 ≤ a ∧ a ≤ 32767) (hb : -128 ≤ b ∧ b ≤ 127) (w : World) : Calls Tryd.prog 38 #[.agg #[.int .i16 a, .int .i8 b]] w fun e w' => e = .returned (.bool (!washOk a b)) ∧ Below w.heap.size w w' := by
  have h := fun W => impl_ValidWash.calls a b _ W (validWash_f ha hb)
  clear ha hb
  generalize washOk a b = r at *
  go_enter Tryd.func38, Tryd.ntmps38
  go_wp2_with (go_at_call 39; refine (h _).mono ?_; rintro e w1 ⟨rfl, hb⟩)
  go_ret
  exact ⟨rfl, below_step (below_alloc (Below.refl _ _) _) hb⟩
theorem idxF_dropT {f : S52 → Bool} {xs : List S52} {k : Nat} (hk : k < xs.length) : idxF f (xs.drop k) k = if f (xs.getD k z52) then (k : Int) else idxF f (xs.drop (k + 1)) (k + 1) := by
  rw [List.drop_eq_getElem_cons hk]
  simp [idxF, List.getD_eq_getElem?_getD, List.getElem?_eq_getElem hk]
set_option maxHeartbeats 8000000 in
set_option maxRecDepth 100000 in
theorem idxWash_calls (ws : List S52) (hws : ∀ x ∈ ws, wshR x) (A : Option Addr) (c : Nat) (w : World) (hC : Kd.C k52 w A ws.length ws) :
    Calls Tryd.prog 50 #[.slice A ws.length c, .func (.func 38) #[] #[]] w fun e w' => e = .returned (.int .i64 (idxF (fun x : S52 => !washOk x.f0 x.f1) ws 0)) ∧ Below w.heap.size w w' := by
  have hm := Kd.C_max hC
  have HW := Aside0.mk hws
  have HC0 := Aside0.mk hC
  have HF := Aside0.mk washBad_clo
  obtain ⟨R, hR⟩ : ∃ R, R = idxF (fun x : S52 => !washOk x.f0 x.f1) ws 0 := ⟨_, rfl⟩
  rw [← hR]
  have HR := Aside0.mk hR
  clear hws hC hR
  go_enter Tryd.func50, Tryd.ntmps50
  go_wp2
  go_loopw [8] (fun v8 w' => ∃ k : Nat, k ≤ ws.length ∧ v8 = .int .i64 k ∧ Aside0 (R = idxF (fun x : S52 => !washOk x.f0 x.f1) (ws.drop k) k) ∧ Aside0 (Kd.C k52 w' A ws.length ws) ∧ Aside0 (Below w.heap.size w w')) (fun v8 _ => ws.length - (intOf v8).toNat)
  case atStart => exact ⟨0, by omega, rfl, HR, HC0, ⟨Below.refl _ _⟩⟩
  case round =>
    obtain ⟨k, hk, rfl, HI, HC, HB⟩ := hrel
    clear HR HC0
    by_cases hlt : k < ws.length
    · obtain ⟨ad, rfl, hx0, hx1⟩ := at_T52 HC.out (k : Int) (by omega) (by omega)
      have HR0 := Aside0.mk (HW.out _ (rdT_mem hlt))
      have HE : Aside0 (R = if (!washOk (ws.getD k z52).f0 (ws.getD k z52).f1) = true then (k : Int) else idxF (fun x : S52 => !washOk x.f0 x.f1) (ws.drop (k + 1)) (k + 1)) := ⟨by rw [HI.out, idxF_dropT hlt]⟩
      rw [show rd_T52 ws k = ws.getD k z52 from rfl] at hx0 hx1 HR0
      replace hx0 := (show (k : Int).toNat = k from rfl) ▸ hx0
      replace hx1 := (show (k : Int).toNat = k from rfl) ▸ hx1
      generalize ws.getD k z52 = x at hx0 hx1 HE HR0
      have HCL := Aside0.mk (HF.out x.f0 x.f1 HR0.out.1 HR0.out.2)
      generalize (!washOk x.f0 x.f1) = r at HCL HE
      cases r
      · have HE2 : Aside0 (R = idxF (fun x : S52 => !washOk x.f0 x.f1) (ws.drop (k + 1)) (k + 1)) := ⟨HE.out⟩
        clear HE HI
        go_wp2_with (go_at_call 38; refine (HCL.out _).mono ?_; rintro e w1 ⟨rfl, hb⟩; have HB1 := Aside0.mk (below_step HB.out hb); have HC1 := Aside0.mk (Kd.C_below HC.out hb); clear hb hx0 hx1)
        go_roundw
        case rel => exact ⟨k + 1, by omega, by go_num, HE2, HC1, HB1⟩
        case measure => simp [intOf]; omega
      · have HE2 : Aside0 (R = (k : Int)) := ⟨HE.out⟩
        clear HE HI
        go_wp2_with (go_at_call 38; refine (HCL.out _).mono ?_; rintro e w1 ⟨rfl, hb⟩; have HB1 := Aside0.mk (below_step HB.out hb); clear hb)
        go_ret
        exact ⟨by rw [HE2.out]; rfl, HB1.out⟩
    · have HE2 : Aside0 (R = -1) := ⟨by rw [HI.out, List.drop_of_length_le (by omega)]; rfl⟩
      clear HI
      go_wp2
      go_ret
      exact ⟨by rw [HE2.out]; rfl, HB.out⟩
set_option maxHeartbeats 8000000 in
set_option maxRecDepth 100000 in
theorem hasWash_calls (ws : List S52) (hws : ∀ x ∈ ws, wshR x) (A : Option Addr) (c : Nat) (w : World) (hC : Kd.C k52 w A ws.length ws) :
    Calls Tryd.prog 37 #[.slice A ws.length c, .func (.func 38) #[] #[]] w fun e w' => e = .returned (.bool (!(ws.all fun x => washOk x.f0 x.f1))) ∧ Below w.heap.size w w' := by
  have hc := idxWash_calls ws hws A c w hC
  have HR : Aside0 ((!(ws.all fun x => washOk x.f0 x.f1)) = decide (0 ≤ idxF (fun x : S52 => !washOk x.f0 x.f1) ws 0)) := ⟨by rw [idxF_any, List.not_all_eq_any_not]⟩
  rw [HR.out]
  clear HR hws hC
  generalize idxF (fun x : S52 => !washOk x.f0 x.f1) ws 0 = r at *
  go_enter Tryd.func37, Tryd.ntmps37
  go_wp2_with (go_at_call 50; refine hc.mono ?_; rintro e w1 ⟨rfl, hb⟩)
  go_ret
  exact ⟨rfl, hb⟩
/-- the code of a day, things and hours -/
def codeF (L : List Int) (ws : List S52) (h t1 : Int) : Int := askedF L ws (inR h 0 t1 && decide (t1 ≤ 24))
set_option maxHeartbeats 8000000 in
set_option maxRecDepth 100000 in
theorem dayCode_calls (L : List Int) (hL : L.length = 72) (h8 : i8All L) (ws : List S52) (hws : ∀ x ∈ ws, wshR x) (A : Option Addr) (c : Nat) (h t1 : Int) (w : World) (hC : Kd.C k52 w A ws.length ws) :
    Calls Tryd.prog 22 #[(.agg (nums .i8 L).toArray), .slice A ws.length c, .int .i64 h, .int .i64 t1] w fun e w' => e = .returned (.int .i64 (codeF L ws h t1)) ∧ Below w.heap.size w w' := by
  have HV := Aside0.mk (fun W => validDay_calls L hL h8 W)
  have HH := Aside0.mk (fun W (hb : Below w.heap.size w W) => hasWash_calls ws hws A c W (Kd.C_below hC hb))
  have HI := Aside0.mk (fun W => impl_within.calls h 0 t1 (inR h 0 t1) W (by unfold impl_within.f inR; split <;> simp [*]))
  have HU := Aside0.mk (fun (b : Bool) W => impl_unless.calls b 2 (if b = true then 0 else 2) W (by unfold impl_unless.f; split <;> rfl))
  obtain ⟨R, HR⟩ : ∃ R, Aside0 (codeF L ws h t1 = R) := ⟨_, ⟨rfl⟩⟩
  rw [HR.out]
  have hld : ∀ W : World, Blk W w.heap.size 33 (nums .i8 L) → True := fun _ _ => trivial
  have HN : Aside0 ((nums .i8 L).length = 72) := ⟨by rw [nums_len]; exact hL⟩
  have HS : Aside0 (((nums .i8 L).drop 0).take 72 = nums .i8 L) := ⟨by rw [List.drop_zero, List.take_of_length_le (by rw [HN.out]; exact Nat.le_refl _)]⟩
  unfold codeF askedF at HR
  clear hC hws h8 hL hld
  have HB0 : Aside0 (Blk (w.alloc (.cells (nums .i8 L).toArray 33)) w.heap.size 33 (nums .i8 L)) := ⟨Blk.new w _ _⟩
  cases hd : dayOk L
  · have HQ : Aside0 (R = 1) := ⟨by rw [← HR.out, hd]; rfl⟩
    rw [hd] at HV
    clear HR hd
    go_enter Tryd.func22, Tryd.ntmps22
    go_wp2_with (first | (refine wl_load (by rfl) 33 _ (by rfl) w.heap.size 0 (by rfl) 33 72 _ _ HB0.out HS.out HN.out _ Tryd.underlying33 (by rfl) (by kernel_rfl) ?_) | (go_at_call 36; refine (HV.out _).mono ?_; rintro e w1 ⟨rfl, hb⟩; have HB1 := Aside0.mk (below_step (below_alloc (Below.refl _ _) _) hb); clear hb))
    go_ret
    exact ⟨by rw [HQ.out]; rfl, HB1.out⟩
  · rw [hd] at HV
    cases hw : (ws.all fun x => washOk x.f0 x.f1)
    · have HQ : Aside0 (R = 1) := ⟨by rw [← HR.out, hd, hw]; rfl⟩
      rw [hw] at HH
      clear HR hd hw
      go_enter Tryd.func22, Tryd.ntmps22
      go_wp2_with (first | (refine wl_load (by rfl) 33 _ (by rfl) w.heap.size 0 (by rfl) 33 72 _ _ HB0.out HS.out HN.out _ Tryd.underlying33 (by rfl) (by kernel_rfl) ?_) | (go_at_call 36; refine (HV.out _).mono ?_; rintro e w1 ⟨rfl, hb⟩; have HB1 := Aside0.mk (below_step (below_alloc (Below.refl _ _) _) hb); clear hb) | (go_at_call 37; refine (HH.out _ HB1.out).mono ?_; rintro e w2 ⟨rfl, hb⟩; have HB2 := Aside0.mk (below_step HB1.out hb); clear hb))
      go_ret
      exact ⟨by rw [HQ.out]; rfl, HB2.out⟩
    · rw [hw] at HH
      rw [hd, hw] at HR
      clear hd hw
      have HQ : Aside0 ((if (inR h 0 t1 && decide (t1 ≤ 24)) = true then (0 : Int) else 2) = R) := ⟨HR.out⟩
      clear HR
      generalize inR h 0 t1 = b1 at HQ HI
      cases b1
      · go_enter Tryd.func22, Tryd.ntmps22
        go_wp2_with (first | (refine wl_load (by rfl) 33 _ (by rfl) w.heap.size 0 (by rfl) 33 72 _ _ HB0.out HS.out HN.out _ Tryd.underlying33 (by rfl) (by kernel_rfl) ?_) | (go_at_call 36; refine (HV.out _).mono ?_; rintro e w1 ⟨rfl, hb⟩; have HB1 := Aside0.mk (below_step (below_alloc (Below.refl _ _) _) hb); clear hb) | (go_at_call 37; refine (HH.out _ HB1.out).mono ?_; rintro e w2 ⟨rfl, hb⟩; have HB2 := Aside0.mk (below_step HB1.out hb); clear hb) | (go_at_call 24; refine (HI.out _).mono ?_; rintro e w3 ⟨rfl, ⟨nd, rfl⟩⟩) | (go_at_call 23; refine (HU.out _ _).mono ?_; rintro e w4 ⟨rfl, ⟨nd2, rfl⟩⟩))
        go_ret
        exact ⟨by rw [← HQ.out]; rfl, by repeat (first | exact HB2.out | apply pw_below_drewN | apply below_drew)⟩
      · by_cases ht : t1 ≤ 24
        · have ht2 : decide (t1 ≤ 24) = true := decide_eq_true ht
          go_enter Tryd.func22, Tryd.ntmps22
          go_wp2_with (first | (refine wl_load (by rfl) 33 _ (by rfl) w.heap.size 0 (by rfl) 33 72 _ _ HB0.out HS.out HN.out _ Tryd.underlying33 (by rfl) (by kernel_rfl) ?_) | (go_at_call 36; refine (HV.out _).mono ?_; rintro e w1 ⟨rfl, hb⟩; have HB1 := Aside0.mk (below_step (below_alloc (Below.refl _ _) _) hb); clear hb) | (go_at_call 37; refine (HH.out _ HB1.out).mono ?_; rintro e w2 ⟨rfl, hb⟩; have HB2 := Aside0.mk (below_step HB1.out hb); clear hb) | (go_at_call 24; refine (HI.out _).mono ?_; rintro e w3 ⟨rfl, ⟨nd, rfl⟩⟩) | (go_at_call 23; refine (HU.out _ _).mono ?_; rintro e w4 ⟨rfl, ⟨nd2, rfl⟩⟩))
          go_ret
          exact ⟨by rw [← HQ.out, ht2]; rfl, by repeat (first | exact HB2.out | apply pw_below_drewN | apply below_drew)⟩
        · have ht2 : decide (t1 ≤ 24) = false := decide_eq_false ht
          clear ht
          go_enter Tryd.func22, Tryd.ntmps22
          go_wp2_with (first | (refine wl_load (by rfl) 33 _ (by rfl) w.heap.size 0 (by rfl) 33 72 _ _ HB0.out HS.out HN.out _ Tryd.underlying33 (by rfl) (by kernel_rfl) ?_) | (go_at_call 36; refine (HV.out _).mono ?_; rintro e w1 ⟨rfl, hb⟩; have HB1 := Aside0.mk (below_step (below_alloc (Below.refl _ _) _) hb); clear hb) | (go_at_call 37; refine (HH.out _ HB1.out).mono ?_; rintro e w2 ⟨rfl, hb⟩; have HB2 := Aside0.mk (below_step HB1.out hb); clear hb) | (go_at_call 24; refine (HI.out _).mono ?_; rintro e w3 ⟨rfl, ⟨nd, rfl⟩⟩) | (go_at_call 23; refine (HU.out _ _).mono ?_; rintro e w4 ⟨rfl, ⟨nd2, rfl⟩⟩))
          go_ret
          exact ⟨by rw [← HQ.out, ht2]; rfl, by repeat (first | exact HB2.out | apply pw_below_drewN | apply below_drew)⟩
end Go.Proofs.YtdepnieanfjhjaaDoor.X
