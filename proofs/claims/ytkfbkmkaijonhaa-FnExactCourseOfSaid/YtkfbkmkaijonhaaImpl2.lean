/- Contracts of functions over blocks of cells: what each call answers, and what it leaves as it was. -/
import Derived.Test.YtkfbkmkaijonhaaCourse
import Derived.Test.YtkfbkmkaijonhaaDry2
set_option linter.unusedVariables false
set_option linter.unusedSimpArgs false
namespace Go.Proofs.Ytkfbkmkaijonhaa.X
open Go.RowKit Go.Proofs.YtkfbkmkaijonhaaW.PrintWords Go.Proofs.YtkfbkmkaijonhaaW.PrintLast Go.Proofs.YtkfbkmkaijonhaaW.PrintMore
attribute [local go_sem] max2_int min2_int max_two min_two max_three min_three max_four min_four
set_option maxHeartbeats 8000000 in
set_option maxRecDepth 100000 in
theorem dryAt_calls (L : List Int) (hL : L.length = 72) (hd : dayOk L = true) (wet thick : Int) (hw : washOk wet thick = true) (h : Nat) (hh : h ≤ 24) (shade : Bool) (w : World) :
    Calls Try.prog 57 #[(.agg (nums .i8 L).toArray), .agg #[.int .i16 wet, .int .i8 thick], .int .i64 h, .bool shade] w fun e w' => e = .returned (.int .i64 (dryF L wet thick shade h)) ∧ Below w.heap.size w w' := by
  have HC := Aside0.mk (fun W => course_calls L hL hd wet thick hw h hh shade W)
  have HR := Aside0.mk (dry_course L wet thick shade hh)
  have hlen := courseF_length L thick shade h wet (24 - h)
  have hx := ixR_range 0 (courseF L thick shade h wet (24 - h)) 0
  have HN : Aside0 ((nums .i8 L).length = 72) := ⟨by rw [nums_len]; exact hL⟩
  have HS : Aside0 (((nums .i8 L).drop 0).take 72 = nums .i8 L) := ⟨by rw [List.drop_zero, List.take_of_length_le (by rw [HN.out]; exact Nat.le_refl _)]⟩
  generalize dryF L wet thick shade h = R at *
  generalize courseF L thick shade h wet (24 - h) = xs at *
  have hlb : xs.length ≤ 25 := by omega
  have HI := Aside0.mk (fun A c W hC hc => slices_Index_int64_int64.calls 30 A c xs 0 _ W hC hc (index_f 0 (by omega) (by omega)))
  generalize ixR 0 xs 0 = r at *
  have hr1 : -1 ≤ r := by omega
  have hr2 : r ≤ 24 := by omega
  clear hL hd hw hlen hx
  have HB0 : Aside0 (Blk ((w.alloc (.cells (nums .i8 L).toArray 30)).alloc (.cells #[.int .i16 wet, .int .i8 thick] 39)) w.heap.size 30 (nums .i8 L)) := ⟨(Blk.new w _ _).alloc _⟩
  by_cases hr : r < 0
  · have HQ : Aside0 (R = -1) := ⟨by rw [HR.out, if_pos hr]⟩
    clear HR
    go_enter Try.func57, Try.ntmps57
    go_wp2_with (first | (refine wl_load (by rfl) 30 _ (by rfl) w.heap.size 0 (by rfl) 30 72 _ _ HB0.out HS.out HN.out _ Try.underlying30 (by rfl) (by kernel_rfl) ?_) | (go_at_call 49; refine (HC.out _).mono ?_; rintro e w1 ⟨v, rfl, hR, hb⟩; have HB1 := Aside0.mk (below_step (below_alloc (below_alloc (Below.refl w.heap.size w) _) _) hb); obtain ⟨A, c, rfl, hAc, hC⟩ := Kd.R_reads hR; have HR1 := Aside0.mk hC; have HAC := Aside0.mk hAc; clear hR hb hC hAc) | (go_at_call 55; refine (HI.out _ _ _ HR1.out HAC.out).mono ?_; rintro e w2 ⟨rfl, ⟨nd, rfl⟩⟩))
    go_ret
    exact ⟨by rw [HQ.out]; rfl, pw_below_drewN HB1.out _⟩
  · have HQ : Aside0 (R = (h : Int) + r) := ⟨by rw [HR.out, if_neg hr]⟩
    clear HR
    go_enter Try.func57, Try.ntmps57
    go_wp2_with (first | (refine wl_load (by rfl) 30 _ (by rfl) w.heap.size 0 (by rfl) 30 72 _ _ HB0.out HS.out HN.out _ Try.underlying30 (by rfl) (by kernel_rfl) ?_) | (go_at_call 49; refine (HC.out _).mono ?_; rintro e w1 ⟨v, rfl, hR, hb⟩; have HB1 := Aside0.mk (below_step (below_alloc (below_alloc (Below.refl w.heap.size w) _) _) hb); obtain ⟨A, c, rfl, hAc, hC⟩ := Kd.R_reads hR; have HR1 := Aside0.mk hC; have HAC := Aside0.mk hAc; clear hR hb hC hAc) | (go_at_call 55; refine (HI.out _ _ _ HR1.out HAC.out).mono ?_; rintro e w2 ⟨rfl, ⟨nd, rfl⟩⟩))
    go_ret
    exact ⟨by rw [HQ.out]; rfl, pw_below_drewN HB1.out _⟩

end Go.Proofs.Ytkfbkmkaijonhaa.X
