/- Contracts of functions, and plain facts: what each call answers, and what it leaves as it was. -/
import Derived.Test.YtddlhjhnnmkgaaaDoorHtL
import Derived.Test.YtddlhjhnnmkgaaaDoorHValid
set_option linter.unusedVariables false
set_option linter.unusedSimpArgs false
namespace Go.Proofs.YtddlhjhnnmkgaaaDoor.X
open Go.RowKit Go.Proofs.YtddlhjhnnmkgaaaDoorW.PrintWords Go.Proofs.YtddlhjhnnmkgaaaDoorW.PrintLast Go.Proofs.YtddlhjhnnmkgaaaDoorW.PrintMore
attribute [local go_sem] max2_int min2_int max_two min_two max_three min_three max_four min_four
/-- the text of a house, none where it is not valid -/
def houseTx (f : Nat → Int) (n : Nat) (tub every today : Int) : ByteArray := if houseB f n tub every today = true then bsT (houseT f tub every today n) else (⟨#[]⟩ : ByteArray)
theorem houseB_parts {f : Nat → Int} {n : Nat} {tub every today : Int} (h : houseB f n tub every today = true) : Fine f n ∧ (1 ≤ n ∧ n ≤ 4) ∧ (0 ≤ tub ∧ tub ≤ 1000) ∧ (1 ≤ every ∧ every ≤ 7) ∧ 0 ≤ today ∧ today ≤ 60 := by
  simp only [houseB, Bool.and_eq_true, decide_eq_true_eq, goodsB_iff] at h
  exact ⟨h.1, h.2.1.1.1, h.2.1.1.2, h.2.1.2, h.2.2⟩
theorem C_nums64 {W : World} {g t : Nat} {xs : List Int} (h : Blk W g t (nums .i64 xs)) (hm : xs.length ≤ 1099511627776) : Kd.C (Kd.int .i64) W (some ⟨g, 0, none⟩) xs.length xs := by
  have hr := h.rangeAt 0 (seg := nums .i64 xs) (by rw [List.drop_zero]; exact List.take_of_length_le (Nat.le_refl _))
  refine ⟨rfl, by omega, fun _ => ⟨_, rfl, fun j p hj => ?_⟩⟩
  refine ⟨_, rfl, rfl, fun i u hi => ?_⟩
  match i, hi with
  | 0, hi =>
    have : (⟨g, 0, none⟩ : Addr).add (j * (Kd.int .i64).sz + 0) = ⟨g, 0 + j, none⟩ := by rw [Addr.add_mid]; simp [show (Kd.int .i64).sz = 1 from rfl]
    rw [this]
    refine hr j u ?_
    simp at hi
    subst hi
    simp [nums, hj]
set_option maxHeartbeats 8000000 in
set_option maxRecDepth 100000 in
theorem specHT_calls (f : Nat → Int) (n c g : Nat) (tub every today : Int) (hn : n ≤ 1048576) (hR : Rng f n) (ht : -32768 ≤ tub ∧ tub ≤ 32767) (hv : -128 ≤ every ∧ every ≤ 127) (hd : -32768 ≤ today ∧ today ≤ 32767) (w : World) (hB : Rw w g n f) :
    Calls Tryd.prog 5 #[.agg #[.slice (some ⟨g, 0, none⟩) n c, .int .i16 tub, .int .i8 every, .int .i16 today]] w fun e w' => e = .returned (.string (houseTx f n tub every today)) ∧ Below w.heap.size w w' := by
  have HC := Aside0.mk (l05Ok_calls f n c g w.heap.size tub every today hn hR ht hv hd _ (Blk.new w _ _) (hB.alloc _))
  unfold houseTx
  cases hg : houseB f n tub every today
  · rw [hg] at HC
    clear hR ht hv hd hB hn hg
    go_enter Tryd.func5, Tryd.ntmps5
    go_wp2_with fail
    refine HC.out.mono ?_
    rintro e w1 ⟨rfl, hb⟩
    have HB := Aside0.mk (below_step (below_alloc (Below.refl w.heap.size w) _) hb)
    clear hb
    go_wp2
    go_ret
    exact ⟨rfl, HB.out⟩
  · obtain ⟨hG, ⟨h1, h4⟩, gt, gv, gd⟩ := houseB_parts hg
    have HX := Aside0.mk (fun W h1 h2 => l05Text_calls f n c g w.heap.size tub every today h4 hG gt gv gd W h1 h2)
    have HW := Aside0.mk hB
    rw [hg] at HC
    clear hR ht hv hd hB hn hg hG h1 h4 gt gv gd
    rw [if_pos rfl]
    generalize bsT (houseT f tub every today n) = T at *
    go_enter Tryd.func5, Tryd.ntmps5
    go_wp2_with fail
    refine HC.out.mono ?_
    rintro e w1 ⟨rfl, hb⟩
    have HB := Aside0.mk (below_step (below_alloc (Below.refl w.heap.size w) _) hb)
    have HH1 := Aside0.mk (Blk.below (Blk.new w 31 (hcells (some ⟨g, 0, none⟩) n c tub every today)) hb)
    have HR1 := Aside0.mk (Rw.below (HW.out.alloc (.cells #[.slice (some ⟨g, 0, none⟩) n c, .int .i16 tub, .int .i8 every, .int .i16 today] 31)) hb)
    clear hb HW
    go_wp2_with fail
    refine (HX.out _ HH1.out HR1.out).mono ?_
    rintro e w2 ⟨rfl, hb⟩
    have HB2 := Aside0.mk (below_step HB.out hb)
    clear hb
    go_wp2
    go_ret
    exact ⟨rfl, HB2.out⟩
end Go.Proofs.YtddlhjhnnmkgaaaDoor.X
