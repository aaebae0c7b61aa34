/- Contracts of functions, and plain facts, of more texts than one: put together, since a claim takes 60 files. -/
import Derived.Test.YtdepnieanfjhjaaDoorDay
import Derived.Test.YtdepnieanfjhjaaDoorX0
import Derived.Test.YtdepnieanfjhjaaDoorX5
import Derived.Test.YtdepnieanfjhjaaDoorX6
/- what stood in the text Spec1 -/
set_option linter.unusedVariables false
set_option linter.unusedSimpArgs false
namespace Go.Proofs.YtdepnieanfjhjaaDoor.X
open Go.RowKit Go.Proofs.YtdepnieanfjhjaaDoorW.PrintWords Go.Proofs.YtdepnieanfjhjaaDoorW.PrintLast Go.Proofs.YtdepnieanfjhjaaDoorW.PrintMore
attribute [local go_sem] max2_int min2_int max_two min_two max_three min_three max_four min_four
theorem nums_len (k : IntKind) (L : List Int) : (nums k L).length = L.length := by simp [nums]
theorem dayOk_drop {L : List Int} {k : Nat} (h : 3 * k + 3 ≤ L.length) : dayOk (L.drop (3 * k)) = ((inR (L.getD (3 * k) 0) 0 9 && (inR (L.getD (3 * k + 1) 0) 0 9 && inR (L.getD (3 * k + 2) 0) 0 9)) && dayOk (L.drop (3 * (k + 1)))) := by
  unfold dayOk
  rw [List.drop_eq_getElem_cons (show 3 * k < L.length by omega), List.drop_eq_getElem_cons (show 3 * k + 1 < L.length by omega), List.drop_eq_getElem_cons (show 3 * k + 1 + 1 < L.length by omega)]
  simp only [List.all_cons, List.getD_eq_getElem?_getD, List.getElem?_eq_getElem (show 3 * k < L.length by omega), List.getElem?_eq_getElem (show 3 * k + 1 < L.length by omega), List.getElem?_eq_getElem (show 3 * k + 2 < L.length by omega), Option.getD_some]
  rw [show 3 * (k + 1) = 3 * k + 1 + 1 + 1 by omega]
  simp [Bool.and_assoc]
theorem l03Weather_f {a b c : Int} (ha : -128 ≤ a ∧ a ≤ 127) (hb : -128 ≤ b ∧ b ≤ 127) (hc : -128 ≤ c ∧ c ≤ 127) : spec_l03Weather.f a b c = some (inR a 0 9 && (inR b 0 9 && inR c 0 9)) := by
  unfold spec_l03Weather.f spec_l00In.f inR
  rw [w64 (by omega) (by omega), w64 (by omega) (by omega), w64 (by omega) (by omega)]
  by_cases h1 : 0 ≤ a <;> by_cases h2 : a ≤ 9 <;> by_cases h3 : 0 ≤ b <;> by_cases h4 : b ≤ 9 <;> by_cases h5 : 0 ≤ c <;> simp [h1, h2, h3, h4, h5]
/-- the cells of three numbers at an hour -/
theorem seg_letters {L : List Int} {k : Nat} (h : 3 * k + 3 ≤ L.length) : ∃ x y z, Aside0 (((nums .i8 L).drop (k * 3)).take 3 = [.int .i8 x, .int .i8 y, .int .i8 z]) ∧ Aside0 (x = L.getD (3 * k) 0 ∧ y = L.getD (3 * k + 1) 0 ∧ z = L.getD (3 * k + 2) 0) := ⟨_, _, _, ⟨seg3 h⟩, ⟨rfl, rfl, rfl⟩⟩
/-- all numbers are int8 -/
def i8All (L : List Int) : Prop := ∀ x ∈ L, -128 ≤ x ∧ x ≤ 127
theorem i8All_get {L : List Int} (h : i8All L) (i : Nat) : -128 ≤ L.getD i 0 ∧ L.getD i 0 ≤ 127 := by
  rcases Nat.lt_or_ge i L.length with hi | hi
  · rw [List.getD_eq_getElem?_getD, List.getElem?_eq_getElem hi]; exact h _ (List.getElem_mem hi)
  · rw [List.getD_eq_getElem?_getD, List.getElem?_eq_none hi]; decide
set_option maxHeartbeats 4000000 in
set_option maxRecDepth 100000 in
theorem l03Ok_calls (L : List Int) (hL : L.length = 72) (h8 : i8All L) (g : Nat) (w : World) (hB : Blk w g 33 (nums .i8 L)) : Calls Tryd.prog 32 #[.pointer (some ⟨g, 0, none⟩)] w fun e w' => e = .returned (.bool (dayOk L)) ∧ Below w.heap.size w w' := by
  have HL := Aside0.mk hL
  have H8 := Aside0.mk h8
  have HB0 := Aside0.mk hB
  have hc := fun (a b c : Int) (r : Bool) (W : World) h => spec_l03Weather.calls a b c r W h
  clear hL h8 hB
  go_enter Tryd.func32, Tryd.ntmps32
  go_wp2
  go_loopw [3] (fun v3 w' => ∃ k : Nat, k ≤ 24 ∧ v3 = .int .i64 k ∧ Aside0 (Blk w' g 33 (nums .i8 L)) ∧ Aside0 (dayOk (L.drop (3 * k)) = dayOk L) ∧ Aside0 (Below w.heap.size w w')) (fun v3 _ => 24 - (intOf v3).toNat)
  case atStart => exact ⟨0, by omega, rfl, HB0, ⟨rfl⟩, ⟨Below.refl _ _⟩⟩
  case round =>
    obtain ⟨k, hk, rfl, HA, HD, HB⟩ := hrel
    by_cases hlt : k < 24
    · obtain ⟨x, y, z, HS, HX⟩ := seg_letters (L := L) (k := k) (by have := HL.out; omega)
      have HF : Aside0 (spec_l03Weather.f x y z = some (inR x 0 9 && (inR y 0 9 && inR z 0 9))) := ⟨by obtain ⟨rfl, rfl, rfl⟩ := HX.out; exact l03Weather_f (i8All_get H8.out _) (i8All_get H8.out _) (i8All_get H8.out _)⟩
      have HE : Aside0 (dayOk L = ((inR x 0 9 && (inR y 0 9 && inR z 0 9)) && dayOk (L.drop (3 * (k + 1))))) := ⟨by obtain ⟨rfl, rfl, rfl⟩ := HX.out; rw [← HD.out]; exact dayOk_drop (by have := HL.out; omega)⟩
      cases hb : (inR x 0 9 && (inR y 0 9 && inR z 0 9))
      · have HF2 := Aside0.mk (hb ▸ HF.out)
        have HE2 : Aside0 (dayOk L = false) := ⟨by rw [HE.out, hb]; rfl⟩
        clear hb HE HF
        go_wp2_with (first | (refine wl_load (by rfl) 31 _ (by rfl) g (k * 3) (by rfl) 33 3 _ _ HA.out HS.out (by rfl) _ Tryd.underlying31 (by rfl) (by kernel_rfl) ?_) | (go_at_call 44; refine (hc _ _ _ _ _ HF2.out).mono ?_; rintro e w1 ⟨rfl, hb⟩))
        go_ret
        exact ⟨by rw [HE2.out]; rfl, below_step HB.out hb⟩
      · have HF2 := Aside0.mk (hb ▸ HF.out)
        have HE2 : Aside0 (dayOk (L.drop (3 * (k + 1))) = dayOk L) := ⟨by rw [HE.out, hb]; rfl⟩
        clear hb HE HF
        go_wp2_with (first | (refine wl_load (by rfl) 31 _ (by rfl) g (k * 3) (by rfl) 33 3 _ _ HA.out HS.out (by rfl) _ Tryd.underlying31 (by rfl) (by kernel_rfl) ?_) | (go_at_call 44; refine (hc _ _ _ _ _ HF2.out).mono ?_; rintro e w1 ⟨rfl, hb⟩; have HA1 := Aside0.mk (HA.out.below hb); have HB1 := Aside0.mk (below_step HB.out hb); clear hb HA HB))
        go_roundw
        case rel => exact ⟨k + 1, by omega, by go_num, HA1, HE2, HB1⟩
        case measure => simp [intOf]; omega
    · obtain rfl : k = 24 := by omega
      have HE2 : Aside0 (dayOk L = true) := ⟨by rw [← HD.out, List.drop_of_length_le (by have := HL.out; omega)]; rfl⟩
      go_wp2
      go_ret
      exact ⟨by rw [HE2.out]; rfl, HB.out⟩
/-- the code of a day, things, and whether numbers are as told -/
def askedF (L : List Int) (ws : List S52) (fine : Bool) : Int :=
  if dayOk L = true then (if (ws.all fun x => washOk x.f0 x.f1) = true then (if fine = true then 0 else 2) else 1) else 1
def wshR (x : S52) : Prop := (-32768 ≤ x.f0 ∧ x.f0 ≤ 32767) ∧ (-128 ≤ x.f1 ∧ x.f1 ≤ 127)
theorem l03Wash_f {a b : Int} (ha : -32768 ≤ a ∧ a ≤ 32767) (hb : -128 ≤ b ∧ b ≤ 127) : spec_l03Wash.f a b = some (washOk a b) := by
  unfold spec_l03Wash.f spec_l00In.f washOk inR
  rw [w64 (by omega) (by omega), w64 (by omega) (by omega)]
  by_cases h1 : 0 ≤ a <;> by_cases h2 : a ≤ 1000 <;> by_cases h3 : 1 ≤ b <;> simp [h1, h2, h3]
theorem rdT_mem {ws : List S52} {k : Nat} (h : k < ws.length) : rd_T52 ws k ∈ ws := by
  simp [rd_T52, List.getD_eq_getElem?_getD, List.getElem?_eq_getElem h]
theorem all_drop {α : Type} {ws : List α} {k : Nat} {p : α → Bool} (z : α) (h : k < ws.length) : (ws.drop k).all p = (p (ws.getD k z) && (ws.drop (k + 1)).all p) := by
  rw [List.drop_eq_getElem_cons h, List.all_cons, List.getD_eq_getElem?_getD, List.getElem?_eq_getElem h]; rfl
set_option maxHeartbeats 4000000 in
set_option maxRecDepth 100000 in
theorem l03Asked_calls (L : List Int) (hL : L.length = 72) (h8 : i8All L) (ws : List S52) (hws : ∀ x ∈ ws, wshR x) (fine : Bool) (g : Nat) (A : Option Addr) (c : Nat) (w : World) (hB : Blk w g 33 (nums .i8 L)) (hC : Kd.C k52 w A ws.length ws) : Calls Tryd.prog 14 #[.pointer (some ⟨g, 0, none⟩), .slice A ws.length c, .bool fine] w fun e w' => e = .returned (.int .i64 (askedF L ws fine)) ∧ Below w.heap.size w w' := by
  have hm := Kd.C_max hC
  have HW := Aside0.mk hws
  have HOK := Aside0.mk (fun W h => l03Ok_calls L hL h8 g W h)
  have hwh := fun (a b : Int) (r : Bool) (W : World) h => spec_l03Wash.calls a b r W h
  have HB0 := Aside0.mk hB
  have HC0 := Aside0.mk hC
  clear hL h8 hB hC hws
  cases hd : dayOk L
  · have HOK2 := Aside0.mk (hd ▸ HOK.out)
    have HR : Aside0 (askedF L ws fine = 1) := ⟨by unfold askedF; rw [hd]; rfl⟩
    clear hd HOK
    go_enter Tryd.func14, Tryd.ntmps14
    go_wp2_with (go_at_call 32; refine (HOK2.out _ HB0.out).mono ?_; rintro e w1 ⟨rfl, hb⟩; have HB1 := Aside0.mk hb; clear hb)
    go_ret
    exact ⟨by rw [HR.out]; rfl, HB1.out⟩
  · have HOK2 := Aside0.mk (hd ▸ HOK.out)
    have HR : Aside0 (askedF L ws fine = if (ws.all fun x => washOk x.f0 x.f1) = true then (if fine = true then 0 else 2) else 1) := ⟨by unfold askedF; rw [hd]; rfl⟩
    clear hd HOK
    go_enter Tryd.func14, Tryd.ntmps14
    go_wp2_with (go_at_call 32; refine (HOK2.out _ HB0.out).mono ?_; rintro e w1 ⟨rfl, hb⟩; have HB1 := Aside0.mk hb; have HC1 := Aside0.mk (Kd.C_below HC0.out hb); clear hb HB0 HC0)
    go_loopw [7] (fun v7 w' => ∃ k : Nat, k ≤ ws.length ∧ v7 = .int .i64 k ∧ Aside0 (Kd.C k52 w' A ws.length ws) ∧ Aside0 (((ws.drop k).all fun x => washOk x.f0 x.f1) = (ws.all fun x => washOk x.f0 x.f1)) ∧ Aside0 (Below w.heap.size w w')) (fun v7 _ => ws.length - (intOf v7).toNat)
    case atStart => exact ⟨0, by omega, rfl, HC1, ⟨rfl⟩, HB1⟩
    case round =>
      clear HC1 HB1 HOK2
      obtain ⟨k, hk, rfl, HC, HD, HB⟩ := hrel
      by_cases hlt : k < ws.length
      · obtain ⟨ad, rfl, hx0, hx1⟩ := at_T52 HC.out (k : Int) (by omega) (by omega)
        have HR0 := Aside0.mk (HW.out _ (rdT_mem hlt))
        have HE := Aside0.mk (all_drop (p := fun x : S52 => washOk x.f0 x.f1) z52 hlt)
        rw [show rd_T52 ws k = ws.getD k z52 from rfl] at hx0 hx1 HR0
        replace hx0 := (show (k : Int).toNat = k from rfl) ▸ hx0
        replace hx1 := (show (k : Int).toNat = k from rfl) ▸ hx1
        generalize ws.getD k z52 = x at hx0 hx1 HE HR0
        have HF := Aside0.mk (l03Wash_f HR0.out.1 HR0.out.2)
        cases hb : washOk x.f0 x.f1
        · have HF2 := Aside0.mk (hb ▸ HF.out)
          have HE2 : Aside0 (askedF L ws fine = 1) := ⟨by rw [HR.out, ← HD.out, HE.out, hb]; rfl⟩
          clear hb HE HF HR
          go_wp2_with (go_at_call 33; refine (hwh _ _ _ _ HF2.out).mono ?_; rintro e w1 ⟨rfl, hb⟩)
          go_ret
          exact ⟨by rw [HE2.out]; rfl, below_step HB.out hb⟩
        · have HF2 := Aside0.mk (hb ▸ HF.out)
          have HE2 : Aside0 (((ws.drop (k + 1)).all fun x => washOk x.f0 x.f1) = (ws.all fun x => washOk x.f0 x.f1)) := ⟨by rw [← HD.out, HE.out, hb]; rfl⟩
          clear hb HE HF HR
          go_wp2_with (go_at_call 33; refine (hwh _ _ _ _ HF2.out).mono ?_; rintro e w1 ⟨rfl, hb⟩; have HC1 := Aside0.mk (Kd.C_below HC.out hb); have HB1 := Aside0.mk (below_step HB.out hb); clear hb HC HB hx0 hx1)
          go_roundw
          case rel => exact ⟨k + 1, by omega, by go_num, HC1, HE2, HB1⟩
          case measure => simp [intOf]; omega
      · have HE2 : Aside0 (askedF L ws fine = if fine = true then 0 else 2) := ⟨by rw [HR.out, ← HD.out, List.drop_of_length_le (by omega)]; rfl⟩
        clear HR HD
        cases fine
        · go_wp2
          go_ret
          exact ⟨by rw [HE2.out]; rfl, HB.out⟩
        · go_wp2
          go_ret
          exact ⟨by rw [HE2.out]; rfl, HB.out⟩
end Go.Proofs.YtdepnieanfjhjaaDoor.X

/- what stood in the text Spec2 -/
set_option linter.unusedVariables false
set_option linter.unusedSimpArgs false
namespace Go.Proofs.YtdepnieanfjhjaaDoor.X
open Go.RowKit Go.Proofs.YtdepnieanfjhjaaDoorW.PrintWords Go.Proofs.YtdepnieanfjhjaaDoorW.PrintLast Go.Proofs.YtdepnieanfjhjaaDoorW.PrintMore
attribute [local go_sem] max2_int min2_int max_two min_two max_three min_three max_four min_four
theorem washOk_iff {a b : Int} : washOk a b = true ↔ (0 ≤ a ∧ a ≤ 1000) ∧ (1 ≤ b ∧ b ≤ 9) := by simp [washOk, inR]
set_option maxHeartbeats 400000 in
set_option maxRecDepth 100000 in
theorem l03Behind_calls (L : List Int) (hL : L.length = 72) (hd : dayOk L = true) (wet thick : Int) (hw : washOk wet thick = true) (h n : Nat) (hh : h + n ≤ 24) (t1 : Int) (hto : t1 = (h : Int) + n) (shade : Bool) (g : Nat) (w : World) (hB : Blk w g 33 (nums .i8 L)) :
    Calls Tryd.prog 17 #[.pointer (some ⟨g, 0, none⟩), .agg #[.int .i16 wet, .int .i8 thick], .int .i64 h, .int .i64 t1, .bool shade] w fun e w' => e = .returned (.int .i64 (beh L thick shade h n wet)) ∧ Below w.heap.size w w' := by
  subst hto
  obtain ⟨⟨hw0, hw1⟩, ht0, ht1⟩ := washOk_iff.1 hw
  clear hw
  have HL := Aside0.mk hL
  have HD := Aside0.mk hd
  have HB0 := Aside0.mk hB
  have hc := fun (a b x y z : Int) (s : Bool) (r : Int) (W : World) H => spec_l03Hour.calls a b x y z s r W H
  clear hL hd hB
  go_enter Tryd.func17, Tryd.ntmps17
  go_wp2
  go_loopw [11, 12] (fun v11 v12 w' => ∃ q : Nat, h ≤ q ∧ q ≤ h + n ∧ v11 = .int .i64 (beh L thick shade h (q - h) wet) ∧ v12 = .int .i64 q ∧ Aside0 (Blk w' g 33 (nums .i8 L)) ∧ Aside0 (Blk w' w.heap.size 52 [.int .i16 wet, .int .i8 thick]) ∧ Aside0 (Below w.heap.size w w')) (fun _ v12 _ => h + n - (intOf v12).toNat)
  case atStart => exact ⟨h, by omega, by omega, by simp [beh], rfl, ⟨HB0.out.alloc _⟩, ⟨Blk.new w _ _⟩, ⟨below_alloc (Below.refl _ _) _⟩⟩
  case round =>
    obtain ⟨q, hq0, hq1, rfl, rfl, HA, HV, HB⟩ := hrel
    have hbr := beh_range (shade := shade) HD.out ht0 (q - h) h wet hw0 hw1
    by_cases hlt : q < h + n
    · obtain ⟨x, y, z, HS, HX⟩ := seg_letters (L := L) (k := q) (by have := HL.out; omega)
      have HE := Aside0.mk (beh_at L thick shade hq0 wet)
      generalize beh L thick shade h (q - h) wet = u at HE hbr
      have HF : Aside0 (spec_l03Hour.f u thick x y z shade = some (beh L thick shade h (q + 1 - h) wet)) := ⟨by obtain ⟨rfl, rfl, rfl⟩ := HX.out; rw [HE.out]; exact l03Hour_f shade hbr.1 hbr.2 ht0 (dayOk_get HD.out _) (dayOk_get HD.out _) (dayOk_get HD.out _)⟩
      have c0 := HV.out.cell 1 (v := .int .i8 thick) rfl
      have c1 := HA.out.rangeAt (q * 3) (seg := [.int .i8 x, .int .i8 y, .int .i8 z]) HS.out 0 _ rfl
      have c2 := HA.out.rangeAt (q * 3) (seg := [.int .i8 x, .int .i8 y, .int .i8 z]) HS.out 1 _ rfl
      have c3 := HA.out.rangeAt (q * 3) (seg := [.int .i8 x, .int .i8 y, .int .i8 z]) HS.out 2 _ rfl
      rw [Nat.add_zero] at c1
      have i0 : (0 : Int) ≤ (q : Int) := by omega
      have i1 : (q : Int) < 24 := by omega
      have i2 : IntKind.i64.wrap thick = thick := IntWalk.i64_in _ ⟨by omega, by omega⟩
      go_wp2_with fail
      go_region_held3 (fun w' => w'.cell? ⟨w.heap.size, 1, none⟩ = some (.int .i8 thick) ∧ w'.cell? ⟨g, q * 3, none⟩ = some (.int .i8 x) ∧ w'.cell? ⟨g, q * 3 + 1, none⟩ = some (.int .i8 y) ∧ w'.cell? ⟨g, q * 3 + 2, none⟩ = some (.int .i8 z)) (go_keep) ((go_at_call 34; refine (hc _ _ _ _ _ _ _ _ HF.out).mono ?_; rintro e w1 ⟨rfl, hb⟩; replace hb := below_step (w := wr) (below_drew (Below.refl _ _)) hb; have d0 := pw_cell_below hb c0; have d1 := pw_cell_below hb c1; have d2 := pw_cell_below hb c2; have d3 := pw_cell_below hb c3))
      go_wp2
      go_roundw
      case rel => exact ⟨q + 1, by omega, by omega, rfl, by go_num, ⟨HA.out.below hb⟩, ⟨HV.out.below hb⟩, ⟨below_step HB.out hb⟩⟩
      case measure => simp [intOf]; omega
    · obtain rfl : q = h + n := by omega
      go_wp2
      go_ret
      exact ⟨by simp, HB.out⟩
end Go.Proofs.YtdepnieanfjhjaaDoor.X
