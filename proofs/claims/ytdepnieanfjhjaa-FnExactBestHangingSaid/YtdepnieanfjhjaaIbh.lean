/- Contracts of functions, and plain facts: what each call answers, and what it leaves as it was. -/
import Derived.Test.YtdepnieanfjhjaaBh
set_option linter.unusedVariables false
set_option linter.unusedSimpArgs false
namespace Go.Proofs.Ytdepnieanfjhjaa.X
open Go.RowKit Go.Proofs.YtdepnieanfjhjaaW.PrintWords Go.Proofs.YtdepnieanfjhjaaW.PrintLast Go.Proofs.YtdepnieanfjhjaaW.PrintMore
attribute [local go_sem] max2_int min2_int max_two min_two max_three min_three max_four min_four
theorem fewHung_f (ws : List S52) : impl_fewHung.f ws = some (if ws.length ≤ 6 then 0 else 3) := by
  unfold impl_fewHung.f impl_unless.f
  by_cases h : ws.length ≤ 6
  · have : (ws.length : Int) ≤ 6 := by omega
    simp [h, this]
  · have : ¬ (ws.length : Int) ≤ 6 := by omega
    simp [h, this]
theorem code_24 (L : List Int) (ws : List S52) (h : Int) : codeF L ws h 24 = askedF L ws (inR h 0 24) := by
  unfold codeF
  simp
set_option maxHeartbeats 8000000 in
set_option maxRecDepth 100000 in
theorem implBH_calls (L : List Int) (hL : L.length = 72) (h8 : i8All L) (ws : List S52) (hws : ∀ x ∈ ws, wshR x) (h : Int) (A : Option Addr) (c : Nat) (hc : ws.length ≤ c) (b : List Int) (l code : Int) (hF : BhF L ws h b l code) (w : World) (hC : Kd.C k52 w A ws.length ws) :
    Calls Try.prog 8 #[(.agg (nums .i8 L).toArray), .slice A ws.length c, .int .i64 h] w fun e w' => ∃ v, e = .returned (.tuple #[v, .int .i64 l, .int .i64 code]) ∧ Ir w' w.heap.size v b ∧ Below w.heap.size w w' := by
  obtain ⟨hcode, hbad, hgood⟩ := hF
  have HDC := Aside0.mk (fun W hCW => dayCode_calls L hL h8 ws hws A c h 24 W hCW)
  rw [code_24] at HDC
  have HFH := Aside0.mk (fun W hCW => impl_fewHung.calls A c ws _ W hCW hc (fewHung_f ws))
  have HFO := Aside0.mk (fun W A2 hCW => firstOf2_below (askedF L ws (inR h 0 24)) (if ws.length ≤ 6 then 0 else 3) W A2 hCW)
  rw [show (if askedF L ws (inR h 0 24) = 0 then (if ws.length ≤ 6 then (0 : Int) else 3) else askedF L ws (inR h 0 24)) = code from hcode.symm] at HFO
  have HOK : Aside0 (code = 0 → ∀ W, Blk W w.heap.size 33 (nums .i8 L) → Blk W (w.heap.size + 1) 35 [.slice A ws.length c] → Blk W (w.heap.size + 1 + 1) 2 [.int .i64 h] → Kd.C k52 W A ws.length ws → Calls Try.prog 22 #[.int .i64 (ws.length : Int), .func (.func 23) #[] #[.pointer (some ⟨w.heap.size, 0, none⟩), .pointer (some ⟨w.heap.size + 1, 0, none⟩), .pointer (some ⟨w.heap.size + 1 + 1, 0, none⟩)]] W fun e w' => ∃ v, e = .returned (.tuple #[v, .int .i64 l]) ∧ Ir w' W.heap.size v b ∧ Below W.heap.size W w') := ⟨fun h0 W p1 p2 p3 p4 => by
    obtain ⟨o1, o2, ⟨o3, o3'⟩, o4⟩ := bh_ok (h0 ▸ hcode).symm
    obtain ⟨m, rfl⟩ := Int.eq_ofNat_of_zero_le o3
    exact bestOrder_calls L hL o1 ws o2 m (by omega) ws.length c rfl o4 A _ _ _ b l (hgood h0) W p1 p2 p3 p4⟩
  generalize askedF L ws (inR h 0 24) = ca at HDC HFO
  generalize (if ws.length ≤ 6 then (0 : Int) else 3) = cb at HFH HFO
  have HN : Aside0 ((nums .i8 L).length = 72) := ⟨by rw [nums_len]; exact hL⟩
  have HHC := Aside0.mk hC
  have HBAD := Aside0.mk hbad
  clear hcode hgood hbad h8 hws hL hC
  have hlen := HN.out
  have hi : (Try.prog.info? 33).map (·.size) = some (nums .i8 L).length := by rw [hlen]; kernel_rfl
  have hone : ∀ v ∈ nums .i8 L, v.oneCell' = true := by simp [nums, Value.oneCell']
  have hu := Try.underlying33
  go_enter Try.func8, Try.ntmps8
  go_wp2_with fail
  have p1 : Blk (((w.alloc (.cells (nums .i8 L).toArray 33)).alloc (.cells #[.slice A ws.length c] 35)).alloc (.cells #[.int .i64 h] 2)) w.heap.size 33 (nums .i8 L) := ((Blk.new w _ (nums .i8 L)).alloc _).alloc _
  have p2 : Blk (((w.alloc (.cells (nums .i8 L).toArray 33)).alloc (.cells #[.slice A ws.length c] 35)).alloc (.cells #[.int .i64 h] 2)) (w.heap.size + 1) 35 [.slice A ws.length c] := (Blk.at_ (by simp) rfl).alloc _
  have p3 : Blk (((w.alloc (.cells (nums .i8 L).toArray 33)).alloc (.cells #[.slice A ws.length c] 35)).alloc (.cells #[.int .i64 h] 2)) (w.heap.size + 1 + 1) 2 [.int .i64 h] := Blk.at_ (by simp) rfl
  have p4 : Below w.heap.size w (((w.alloc (.cells (nums .i8 L).toArray 33)).alloc (.cells #[.slice A ws.length c] 35)).alloc (.cells #[.int .i64 h] 2)) := below_alloc (below_alloc (below_alloc (Below.refl _ _) _) _) _
  generalize (((w.alloc (.cells (nums .i8 L).toArray 33)).alloc (.cells #[.slice A ws.length c] 35)).alloc (.cells #[.int .i64 h] 2)) = W3 at p1 p2 p3 p4 ⊢
  have HP1 := Aside0.mk p1
  have HP2 := Aside0.mk p2
  have HP3 := Aside0.mk p3
  have HP4 := Aside0.mk p4
  have HC3 := Aside0.mk (Kd.C_below HHC.out p4)
  have c0 := p2.cell 0 (v := .slice A ws.length c) rfl
  have c1 := p3.cell 0 (v := .int .i64 h) rfl
  have c2 : W3.rangeAt w.heap.size 0 (nums .i8 L) := p1.rangeAt 0 (by rw [List.drop_zero, List.take_length])
  clear p1 p2 p3 p4
  go_region_held3 (fun w' => w'.rangeAt w.heap.size 0 (nums .i8 L) ∧ w'.cell? ⟨w.heap.size + 1, 0, none⟩ = some (.slice A ws.length c) ∧ w'.cell? ⟨w.heap.size + 1 + 1, 0, none⟩ = some (.int .i64 h)) (first | exact ⟨f2, f0, f1⟩ | exact ⟨e2, e0, e1⟩ | exact ⟨fun j v hv => pw_cell_below (below_alloc (Below.refl _ _) _) (e2 j v hv), pw_cell_below (below_alloc (Below.refl _ _) _) e0, pw_cell_below (below_alloc (Below.refl _ _) _) e1⟩ | exact ⟨d2, d0, d1⟩ | go_keep_ranges) ((first | (go_at_call 20; refine (HDC.out _ (Kd.C_below HC3.out (by repeat (first | exact Below.refl _ _ | assumption | apply below_drew | apply pw_below_drewN | apply below_alloc)))).mono ?_; rintro e w4 ⟨rfl, hb⟩; have qd := below_step (w := W3) (by repeat (first | exact Below.refl _ _ | assumption | apply below_drew | apply pw_below_drewN | apply below_alloc)) hb; clear hb; have d0 := pw_cell_below qd c0; have d1 := pw_cell_below qd c1; have d2 : World.rangeAt _ w.heap.size 0 (nums .i8 L) := fun j v hv => pw_cell_below qd (c2 j v hv)) | (go_at_call 21; refine (HFH.out _ (Kd.C_below HC3.out (by repeat (first | exact Below.refl _ _ | assumption | apply below_drew | apply pw_below_drewN | apply below_alloc)))).mono ?_; rintro e w5 ⟨rfl, hd5⟩; have hb := hd5.below; clear hd5; have qe := below_step (w := W3) (by repeat (first | exact Below.refl _ _ | assumption | apply below_drew | apply pw_below_drewN | apply below_alloc)) hb; clear hb; have e0 := pw_cell_below qe c0; have e1 := pw_cell_below qe c1; have e2 : World.rangeAt _ w.heap.size 0 (nums .i8 L) := fun j v hv => pw_cell_below qe (c2 j v hv)) | (go_at_call 19; refine (HFO.out _ _ (C_int2 (by first | exact Blk.new _ _ _ | exact Blk.at_ (by simp) rfl | (apply Blk.drew; exact Blk.new _ _ _)))).mono ?_; rintro e w6 ⟨rfl, hb⟩; have qf := below_step (w := W3) (by repeat (first | exact Below.refl _ _ | assumption | apply below_drew | apply pw_below_drewN | apply below_alloc)) hb; clear hb; have f0 := pw_cell_below qf c0; have f1 := pw_cell_below qf c1; have f2 : World.rangeAt _ w.heap.size 0 (nums .i8 L) := fun j v hv => pw_cell_below qf (c2 j v hv))))
  have HQ := Aside0.mk qf
  by_cases hcode : code = 0
  · subst hcode
    have HBO := Aside0.mk (HOK.out rfl)
    clear qf HOK d0 d1 d2 e0 e1 e2
    go_wp2_with fail
    refine (HBO.out _ (HP1.out.below HQ.out) (HP2.out.below HQ.out) (HP3.out.below HQ.out) (Kd.C_below HC3.out HQ.out)).mono ?_
    rintro e w7 ⟨v, rfl, hI, hb⟩
    have HI := Aside0.mk (hI.lower (Below.size (HP4.out.trans (HQ.out.mono (Below.size HP4.out)))))
    have HB := Aside0.mk (below_step (below_step HP4.out HQ.out) hb)
    clear hI hb
    go_wp2
    go_ret3
    exact ⟨v, rfl, HI.out, HB.out⟩
  · obtain ⟨rfl, rfl⟩ := HBAD.out hcode
    have hcb : (code != 0) = true := by simpa using hcode
    clear qf HOK d0 d1 d2 e0 e1 e2 f0 f1 f2
    go_wp2
    go_ret3
    exact ⟨_, rfl, Ir.of_row (ok := fun _ => True) (Kd.R_nil _ _ _ _ _), below_step HP4.out HQ.out⟩
end Go.Proofs.Ytdepnieanfjhjaa.X
