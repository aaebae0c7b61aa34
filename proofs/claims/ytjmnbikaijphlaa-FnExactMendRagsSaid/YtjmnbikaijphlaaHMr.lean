/- Contracts of functions over blocks of cells: what each call answers, and what it leaves as it was. -/
import Derived.Test.YtjmnbikaijphlaaHAsk
import Derived.Test.YtjmnbikaijphlaaHUse
import Derived.Test.YtjmnbikaijphlaaHOwn
import Derived.Test.YtjmnbikaijphlaaRes
set_option linter.unusedVariables false
set_option linter.unusedSimpArgs false
namespace Go.Proofs.Ytjmnbikaijphlaa.X
open Go.RowKit Go.Proofs.YtjmnbikaijphlaaW.PrintWords Go.Proofs.YtjmnbikaijphlaaW.PrintLast Go.Proofs.YtjmnbikaijphlaaW.PrintMore
attribute [local go_sem] max2_int min2_int max_two min_two max_three min_three max_four min_four
theorem askC_and (ok : Bool) (kind : Int) (n : Nat) (b d : Bool) : firstL [askC ok kind n b, if d = true then 0 else 2] = askC ok kind n (b && d) := by
  unfold askC
  generalize decide (0 ≤ kind ∧ kind ≤ (n : Int) - 1) = e
  cases ok <;> cases b <;> cases d <;> cases e <;> rfl
theorem mendF_eq (f : Nat → Int) (o u : Nat) (p : Int) : mendF f o u p = upd (upd f (o + 24) (f (o + 24) - p)) (o + u) (f (o + u) + p) := rfl
set_option maxHeartbeats 8000000 in
set_option maxRecDepth 100000 in
theorem specMR_bad (f : Nat → Int) (n c g : Nat) (tub every today : Int) (kind pieces uses : Int) (hn : n ≤ 1048576) (hR : Rng f n) (ht : -32768 ≤ tub ∧ tub ≤ 32767) (hv : -128 ≤ every ∧ every ≤ 127) (hd : -32768 ≤ today ∧ today ≤ 32767) (code : Int) (hcode : askC (houseB f n tub every today) kind n ((decide (0 ≤ pieces ∧ pieces ≤ 500)) && (decide (1 ≤ uses ∧ uses ≤ 8))) = code) (hc0 : code ≠ 0) (w : World) (hB : Rw w g n f) :
    Calls Try.prog 48 #[.agg #[.slice (some ⟨g, 0, none⟩) n c, .int .i16 tub, .int .i8 every, .int .i16 today], .int .i64 kind, .int .i64 pieces, .int .i64 uses] w fun e w' => e = .returned (.tuple #[.agg #[.slice none 0 0, .int .i16 0, .int .i8 0, .int .i16 0], .int .i64 code]) ∧ Below w.heap.size w w' := by
  have HB0 : Aside0 (Blk ((w.alloc (.cells #[.slice (some ⟨g, 0, none⟩) n c, .int .i16 tub, .int .i8 every, .int .i16 today] 40)).alloc (.cells #[.slice none 0 0, .int .i16 0, .int .i8 0, .int .i16 0] 40)) w.heap.size 40 [.slice (some ⟨g, 0, none⟩) n c, .int .i16 tub, .int .i8 every, .int .i16 today]) := ⟨(Blk.new w _ _).alloc _⟩
  have HO : Aside0 (Blk ((w.alloc (.cells #[.slice (some ⟨g, 0, none⟩) n c, .int .i16 tub, .int .i8 every, .int .i16 today] 40)).alloc (.cells #[.slice none 0 0, .int .i16 0, .int .i8 0, .int .i16 0] 40)) (w.heap.size + 1) 40 [.slice none 0 0, .int .i16 0, .int .i8 0, .int .i16 0]) := ⟨Blk.at_ (by simp) rfl⟩
  have HW : Aside0 (Below w.heap.size w ((w.alloc (.cells #[.slice (some ⟨g, 0, none⟩) n c, .int .i16 tub, .int .i8 every, .int .i16 today] 40)).alloc (.cells #[.slice none 0 0, .int .i16 0, .int .i8 0, .int .i16 0] 40))) := ⟨below_alloc (below_alloc (Below.refl _ _) _) _⟩
  have HR0 : Aside0 (Rw ((w.alloc (.cells #[.slice (some ⟨g, 0, none⟩) n c, .int .i16 tub, .int .i8 every, .int .i16 today] 40)).alloc (.cells #[.slice none 0 0, .int .i16 0, .int .i8 0, .int .i16 0] 40)) g n f) := ⟨(hB.alloc _).alloc _⟩
  have hl0 := hB.lt
  have HK := Aside0.mk (fun fine W h h' => l05Asked_calls f n c g w.heap.size tub every today kind fine hn hR ht hv hd W h h')
  have HCT := Aside0.mk (fun W => count_q pieces W)
  have HIN := Aside0.mk (fun W => in_q uses 1 8 W)
  generalize decide (0 ≤ pieces ∧ pieces ≤ 500) = b at *
  generalize decide (1 ≤ uses ∧ uses ≤ 8) = d at *
  clear hn
  have hc1 : (code != 0) = true := by simpa using hc0
  have hc2 : (code == 0) = false := by simpa using hc0
  have hc3 : decide (code = 0) = false := decide_eq_false hc0
  cases b
  · replace HK := Aside0.mk (HK.out false)
    rw [show askC (houseB f n tub every today) kind n false = code from hcode] at HK
    clear hB hR ht hv hd hcode hc0
    go_enter Try.func48, Try.ntmps48
    go_wp2_with (first | (go_at_call 76; refine (HCT.out _).mono ?_; rintro e w' ⟨rfl, rfl⟩) | (go_at_call 74; refine (HIN.out _).mono ?_; rintro e w' ⟨rfl, rfl⟩))
    refine (HK.out _ (by with_reducible repeat (first | exact HB0.out | refine Blk.alloc ?_ _ | refine Rw.alloc ?_ _ | refine Arg.alloc ?_ _ | apply below_alloc | refine Blk.drew ?_ | refine Rw.drew ?_ | refine Arg.drew ?_ | apply below_drew | refine Blk.drewN ?_ _ | refine Rw.drewN ?_ _ | refine Arg.drewN ?_ _ | apply pw_below_drewN)) (by with_reducible repeat (first | exact HR0.out | refine Blk.alloc ?_ _ | refine Rw.alloc ?_ _ | refine Arg.alloc ?_ _ | apply below_alloc | refine Blk.drew ?_ | refine Rw.drew ?_ | refine Arg.drew ?_ | apply below_drew | refine Blk.drewN ?_ _ | refine Rw.drewN ?_ _ | refine Arg.drewN ?_ _ | apply pw_below_drewN))).mono ?_
    rintro e w1 ⟨rfl, hb⟩
    replace HB0 : Aside0 (Blk w1 (w.heap.size) 40 [.slice (some ⟨g, 0, none⟩) n c, .int .i16 tub, .int .i8 every, .int .i16 today]) := ⟨Blk.below (by with_reducible repeat (first | exact HB0.out | refine Blk.alloc ?_ _ | refine Rw.alloc ?_ _ | refine Arg.alloc ?_ _ | apply below_alloc | refine Blk.drew ?_ | refine Rw.drew ?_ | refine Arg.drew ?_ | apply below_drew | refine Blk.drewN ?_ _ | refine Rw.drewN ?_ _ | refine Arg.drewN ?_ _ | apply pw_below_drewN)) hb⟩
    replace HO : Aside0 (Blk w1 (w.heap.size + 1) 40 [.slice none 0 0, .int .i16 0, .int .i8 0, .int .i16 0]) := ⟨Blk.below (by with_reducible repeat (first | exact HO.out | refine Blk.alloc ?_ _ | refine Rw.alloc ?_ _ | refine Arg.alloc ?_ _ | apply below_alloc | refine Blk.drew ?_ | refine Rw.drew ?_ | refine Arg.drew ?_ | apply below_drew | refine Blk.drewN ?_ _ | refine Rw.drewN ?_ _ | refine Arg.drewN ?_ _ | apply pw_below_drewN)) hb⟩
    replace HR0 : Aside0 (Rw w1 g n f) := ⟨Rw.below (by with_reducible repeat (first | exact HR0.out | refine Blk.alloc ?_ _ | refine Rw.alloc ?_ _ | refine Arg.alloc ?_ _ | apply below_alloc | refine Blk.drew ?_ | refine Rw.drew ?_ | refine Arg.drew ?_ | apply below_drew | refine Blk.drewN ?_ _ | refine Rw.drewN ?_ _ | refine Arg.drewN ?_ _ | apply pw_below_drewN)) hb⟩
    replace HW : Aside0 (Below w.heap.size w w1) := ⟨below_step (by with_reducible repeat (first | exact HW.out | refine Blk.alloc ?_ _ | refine Rw.alloc ?_ _ | refine Arg.alloc ?_ _ | apply below_alloc | refine Blk.drew ?_ | refine Rw.drew ?_ | refine Arg.drew ?_ | apply below_drew | refine Blk.drewN ?_ _ | refine Rw.drewN ?_ _ | refine Arg.drewN ?_ _ | apply pw_below_drewN)) hb⟩
    clear hb
    go_wp2_with (first | (refine wl_store (by rfl) 40 _ _ (by rfl) (w.heap.size + 1) 0 (by rfl) 40 4 [.slice none 0 0, .int .i16 0, .int .i8 0, .int .i16 0] [.slice none 0 0, .int .i16 0, .int .i8 0, .int .i16 0] (by rfl) (by with_reducible repeat (first | exact HO.out | refine Blk.alloc ?_ _ | refine Rw.alloc ?_ _ | refine Arg.alloc ?_ _ | apply below_alloc | refine Blk.drew ?_ | refine Rw.drew ?_ | refine Arg.drew ?_ | apply below_drew | refine Blk.drewN ?_ _ | refine Rw.drewN ?_ _ | refine Arg.drewN ?_ _ | apply pw_below_drewN)) (by rfl) (by decide) (by kernel_rfl) (by rfl) ?_; intro w9 hw_ hg_; have HO9 : Aside0 (Blk w9 (w.heap.size + 1) 40 [.slice none 0 0, .int .i16 0, .int .i8 0, .int .i16 0]) := ⟨Blk.all hw_ (by decide)⟩; have HW9 : Aside0 (Below w.heap.size w w9) := ⟨below_grown (by with_reducible repeat (first | exact HW.out | refine Blk.alloc ?_ _ | refine Rw.alloc ?_ _ | refine Arg.alloc ?_ _ | apply below_alloc | refine Blk.drew ?_ | refine Rw.drew ?_ | refine Arg.drew ?_ | apply below_drew | refine Blk.drewN ?_ _ | refine Rw.drewN ?_ _ | refine Arg.drewN ?_ _ | apply pw_below_drewN)) (by omega) (Below.size (by with_reducible repeat (first | exact HW.out | refine Blk.alloc ?_ _ | refine Rw.alloc ?_ _ | refine Arg.alloc ?_ _ | apply below_alloc | refine Blk.drew ?_ | refine Rw.drew ?_ | refine Arg.drew ?_ | apply below_drew | refine Blk.drewN ?_ _ | refine Rw.drewN ?_ _ | refine Arg.drewN ?_ _ | apply pw_below_drewN))) hg_⟩; have HR09 : Aside0 (Rw w9 g n f) := ⟨Rw.grown (by with_reducible repeat (first | exact HR0.out | refine Blk.alloc ?_ _ | refine Rw.alloc ?_ _ | refine Arg.alloc ?_ _ | apply below_alloc | refine Blk.drew ?_ | refine Rw.drew ?_ | refine Arg.drew ?_ | apply below_drew | refine Blk.drewN ?_ _ | refine Rw.drewN ?_ _ | refine Arg.drewN ?_ _ | apply pw_below_drewN)) hg_ (by intro h_; injection h_ with h_; omega)⟩; clear hw_ hg_))
    refine bodyPost_ret (v := .tuple #[.agg #[.slice none 0 0, .int .i16 0, .int .i8 0, .int .i16 0], .int .i64 code]) (results_cell2 (by rfl) _ _ (w.heap.size + 1) [.slice none 0 0, .int .i16 0, .int .i8 0, .int .i16 0] _ _ (by rfl) (by rfl) HO9.out.whole Try.underlying40 (by rfl) (by kernel_rfl)) rfl ⟨rfl, HW9.out⟩
  · replace HK := Aside0.mk (HK.out d)
    rw [show askC (houseB f n tub every today) kind n d = code from hcode] at HK
    clear hB hR ht hv hd hcode hc0
    go_enter Try.func48, Try.ntmps48
    go_wp2_with (first | (go_at_call 76; refine (HCT.out _).mono ?_; rintro e w' ⟨rfl, rfl⟩) | (go_at_call 74; refine (HIN.out _).mono ?_; rintro e w' ⟨rfl, rfl⟩))
    refine (HK.out _ (by with_reducible repeat (first | exact HB0.out | refine Blk.alloc ?_ _ | refine Rw.alloc ?_ _ | refine Arg.alloc ?_ _ | apply below_alloc | refine Blk.drew ?_ | refine Rw.drew ?_ | refine Arg.drew ?_ | apply below_drew | refine Blk.drewN ?_ _ | refine Rw.drewN ?_ _ | refine Arg.drewN ?_ _ | apply pw_below_drewN)) (by with_reducible repeat (first | exact HR0.out | refine Blk.alloc ?_ _ | refine Rw.alloc ?_ _ | refine Arg.alloc ?_ _ | apply below_alloc | refine Blk.drew ?_ | refine Rw.drew ?_ | refine Arg.drew ?_ | apply below_drew | refine Blk.drewN ?_ _ | refine Rw.drewN ?_ _ | refine Arg.drewN ?_ _ | apply pw_below_drewN))).mono ?_
    rintro e w1 ⟨rfl, hb⟩
    replace HB0 : Aside0 (Blk w1 (w.heap.size) 40 [.slice (some ⟨g, 0, none⟩) n c, .int .i16 tub, .int .i8 every, .int .i16 today]) := ⟨Blk.below (by with_reducible repeat (first | exact HB0.out | refine Blk.alloc ?_ _ | refine Rw.alloc ?_ _ | refine Arg.alloc ?_ _ | apply below_alloc | refine Blk.drew ?_ | refine Rw.drew ?_ | refine Arg.drew ?_ | apply below_drew | refine Blk.drewN ?_ _ | refine Rw.drewN ?_ _ | refine Arg.drewN ?_ _ | apply pw_below_drewN)) hb⟩
    replace HO : Aside0 (Blk w1 (w.heap.size + 1) 40 [.slice none 0 0, .int .i16 0, .int .i8 0, .int .i16 0]) := ⟨Blk.below (by with_reducible repeat (first | exact HO.out | refine Blk.alloc ?_ _ | refine Rw.alloc ?_ _ | refine Arg.alloc ?_ _ | apply below_alloc | refine Blk.drew ?_ | refine Rw.drew ?_ | refine Arg.drew ?_ | apply below_drew | refine Blk.drewN ?_ _ | refine Rw.drewN ?_ _ | refine Arg.drewN ?_ _ | apply pw_below_drewN)) hb⟩
    replace HR0 : Aside0 (Rw w1 g n f) := ⟨Rw.below (by with_reducible repeat (first | exact HR0.out | refine Blk.alloc ?_ _ | refine Rw.alloc ?_ _ | refine Arg.alloc ?_ _ | apply below_alloc | refine Blk.drew ?_ | refine Rw.drew ?_ | refine Arg.drew ?_ | apply below_drew | refine Blk.drewN ?_ _ | refine Rw.drewN ?_ _ | refine Arg.drewN ?_ _ | apply pw_below_drewN)) hb⟩
    replace HW : Aside0 (Below w.heap.size w w1) := ⟨below_step (by with_reducible repeat (first | exact HW.out | refine Blk.alloc ?_ _ | refine Rw.alloc ?_ _ | refine Arg.alloc ?_ _ | apply below_alloc | refine Blk.drew ?_ | refine Rw.drew ?_ | refine Arg.drew ?_ | apply below_drew | refine Blk.drewN ?_ _ | refine Rw.drewN ?_ _ | refine Arg.drewN ?_ _ | apply pw_below_drewN)) hb⟩
    clear hb
    go_wp2_with (first | (refine wl_store (by rfl) 40 _ _ (by rfl) (w.heap.size + 1) 0 (by rfl) 40 4 [.slice none 0 0, .int .i16 0, .int .i8 0, .int .i16 0] [.slice none 0 0, .int .i16 0, .int .i8 0, .int .i16 0] (by rfl) (by with_reducible repeat (first | exact HO.out | refine Blk.alloc ?_ _ | refine Rw.alloc ?_ _ | refine Arg.alloc ?_ _ | apply below_alloc | refine Blk.drew ?_ | refine Rw.drew ?_ | refine Arg.drew ?_ | apply below_drew | refine Blk.drewN ?_ _ | refine Rw.drewN ?_ _ | refine Arg.drewN ?_ _ | apply pw_below_drewN)) (by rfl) (by decide) (by kernel_rfl) (by rfl) ?_; intro w9 hw_ hg_; have HO9 : Aside0 (Blk w9 (w.heap.size + 1) 40 [.slice none 0 0, .int .i16 0, .int .i8 0, .int .i16 0]) := ⟨Blk.all hw_ (by decide)⟩; have HW9 : Aside0 (Below w.heap.size w w9) := ⟨below_grown (by with_reducible repeat (first | exact HW.out | refine Blk.alloc ?_ _ | refine Rw.alloc ?_ _ | refine Arg.alloc ?_ _ | apply below_alloc | refine Blk.drew ?_ | refine Rw.drew ?_ | refine Arg.drew ?_ | apply below_drew | refine Blk.drewN ?_ _ | refine Rw.drewN ?_ _ | refine Arg.drewN ?_ _ | apply pw_below_drewN)) (by omega) (Below.size (by with_reducible repeat (first | exact HW.out | refine Blk.alloc ?_ _ | refine Rw.alloc ?_ _ | refine Arg.alloc ?_ _ | apply below_alloc | refine Blk.drew ?_ | refine Rw.drew ?_ | refine Arg.drew ?_ | apply below_drew | refine Blk.drewN ?_ _ | refine Rw.drewN ?_ _ | refine Arg.drewN ?_ _ | apply pw_below_drewN))) hg_⟩; have HR09 : Aside0 (Rw w9 g n f) := ⟨Rw.grown (by with_reducible repeat (first | exact HR0.out | refine Blk.alloc ?_ _ | refine Rw.alloc ?_ _ | refine Arg.alloc ?_ _ | apply below_alloc | refine Blk.drew ?_ | refine Rw.drew ?_ | refine Arg.drew ?_ | apply below_drew | refine Blk.drewN ?_ _ | refine Rw.drewN ?_ _ | refine Arg.drewN ?_ _ | apply pw_below_drewN)) hg_ (by intro h_; injection h_ with h_; omega)⟩; clear hw_ hg_))
    refine bodyPost_ret (v := .tuple #[.agg #[.slice none 0 0, .int .i16 0, .int .i8 0, .int .i16 0], .int .i64 code]) (results_cell2 (by rfl) _ _ (w.heap.size + 1) [.slice none 0 0, .int .i16 0, .int .i8 0, .int .i16 0] _ _ (by rfl) (by rfl) HO9.out.whole Try.underlying40 (by rfl) (by kernel_rfl)) rfl ⟨rfl, HW9.out⟩
set_option maxHeartbeats 8000000 in
set_option maxRecDepth 100000 in
theorem specMR_few (f : Nat → Int) (n c g : Nat) (tub every today : Int) (kind pieces uses : Int) (hn : n ≤ 1048576) (hR : Rng f n) (ht : -32768 ≤ tub ∧ tub ≤ 32767) (hv : -128 ≤ every ∧ every ≤ 127) (hd : -32768 ≤ today ∧ today ≤ 32767) (k u : Nat) (hk : kind = (k : Int)) (hu : uses = (u : Int) + 1) (hkn : k < n) (hn4 : n ≤ 4) (hu8 : u < 8) (hG : Good f (k * 25)) (hp : 0 ≤ pieces ∧ pieces ≤ 500) (hcode : askC (houseB f n tub every today) kind n ((decide (0 ≤ pieces ∧ pieces ≤ 500)) && (decide (1 ≤ uses ∧ uses ≤ 8))) = 0) (hrg : f (k * 25 + 24) < pieces) (w : World) (hB : Rw w g n f) :
    Calls Try.prog 48 #[.agg #[.slice (some ⟨g, 0, none⟩) n c, .int .i16 tub, .int .i8 every, .int .i16 today], .int .i64 kind, .int .i64 pieces, .int .i64 uses] w fun e w' => e = .returned (.tuple #[.agg #[.slice none 0 0, .int .i16 0, .int .i8 0, .int .i16 0], .int .i64 4]) ∧ Below w.heap.size w w' := by
  have HB0 : Aside0 (Blk ((w.alloc (.cells #[.slice (some ⟨g, 0, none⟩) n c, .int .i16 tub, .int .i8 every, .int .i16 today] 40)).alloc (.cells #[.slice none 0 0, .int .i16 0, .int .i8 0, .int .i16 0] 40)) w.heap.size 40 [.slice (some ⟨g, 0, none⟩) n c, .int .i16 tub, .int .i8 every, .int .i16 today]) := ⟨(Blk.new w _ _).alloc _⟩
  have HO : Aside0 (Blk ((w.alloc (.cells #[.slice (some ⟨g, 0, none⟩) n c, .int .i16 tub, .int .i8 every, .int .i16 today] 40)).alloc (.cells #[.slice none 0 0, .int .i16 0, .int .i8 0, .int .i16 0] 40)) (w.heap.size + 1) 40 [.slice none 0 0, .int .i16 0, .int .i8 0, .int .i16 0]) := ⟨Blk.at_ (by simp) rfl⟩
  have HW : Aside0 (Below w.heap.size w ((w.alloc (.cells #[.slice (some ⟨g, 0, none⟩) n c, .int .i16 tub, .int .i8 every, .int .i16 today] 40)).alloc (.cells #[.slice none 0 0, .int .i16 0, .int .i8 0, .int .i16 0] 40))) := ⟨below_alloc (below_alloc (Below.refl _ _) _) _⟩
  have HR0 : Aside0 (Rw ((w.alloc (.cells #[.slice (some ⟨g, 0, none⟩) n c, .int .i16 tub, .int .i8 every, .int .i16 today] 40)).alloc (.cells #[.slice none 0 0, .int .i16 0, .int .i8 0, .int .i16 0] 40)) g n f) := ⟨(hB.alloc _).alloc _⟩
  have hl0 := hB.lt
  have HK := Aside0.mk (fun fine W h h' => l05Asked_calls f n c g w.heap.size tub every today kind fine hn hR ht hv hd W h h')
  have HCT := Aside0.mk (fun W => count_q pieces W)
  have HIN := Aside0.mk (fun W => in_q uses 1 8 W)
  replace HK := Aside0.mk (HK.out true)
  rw [show (decide (0 ≤ pieces ∧ pieces ≤ 500)) = true from decide_eq_true hp, show (decide (1 ≤ uses ∧ uses ≤ 8)) = true from decide_eq_true (by omega)] at hcode
  rw [show (decide (0 ≤ pieces ∧ pieces ≤ 500)) = true from decide_eq_true hp] at HCT
  rw [show (decide (1 ≤ uses ∧ uses ≤ 8)) = true from decide_eq_true (by omega)] at HIN
  rw [show askC (houseB f n tub every today) kind n true = 0 from hcode] at HK
  have x1 := hG.1 24 (by decide)
  have x2 := hG.le (i := 24) (by decide)
  have y1 := hG.1 u (by omega)
  have y2 := hG.le (i := u) (by omega)
  obtain ⟨hp1, hp2⟩ := hp
  have c24 : ∀ W, Rw W g n f → W.cell? ⟨g, k * 25 + 24, none⟩ = some (.int .i32 (f (k * 25 + 24))) := fun W h => h.rag (q := k) (by omega) hkn rfl
  have C24 := Aside0.mk c24
  have e24 : ∀ W gg, Rw W gg n f → W.cell? ⟨gg, k * 25 + 24, none⟩ = some (.int .i32 (f (k * 25 + 24))) := fun W gg h => h.rag (q := k) (by omega) hkn rfl
  have E24 := Aside0.mk e24
  clear c24 e24
  obtain ⟨x, hx⟩ : ∃ x, f (k * 25 + 24) = x := ⟨_, rfl⟩
  rw [hx] at C24 E24 x1 x2 hrg
  clear hx
  have i1 : IntKind.i64.wrap x = x := IntWalk.i64_in _ ⟨by omega, by omega⟩
  have hk0 : (k : Int) < n := by omega
  have hrg2 : x < pieces := by omega
  subst hk hu
  clear hB hR ht hv hd hcode hG hn
  go_enter Try.func48, Try.ntmps48
  go_wp2_with (first | (go_at_call 76; refine (HCT.out _).mono ?_; rintro e w' ⟨rfl, rfl⟩) | (go_at_call 74; refine (HIN.out _).mono ?_; rintro e w' ⟨rfl, rfl⟩))
  refine (HK.out _ (by with_reducible repeat (first | exact HB0.out | refine Blk.alloc ?_ _ | refine Rw.alloc ?_ _ | refine Arg.alloc ?_ _ | apply below_alloc | refine Blk.drew ?_ | refine Rw.drew ?_ | refine Arg.drew ?_ | apply below_drew | refine Blk.drewN ?_ _ | refine Rw.drewN ?_ _ | refine Arg.drewN ?_ _ | apply pw_below_drewN)) (by with_reducible repeat (first | exact HR0.out | refine Blk.alloc ?_ _ | refine Rw.alloc ?_ _ | refine Arg.alloc ?_ _ | apply below_alloc | refine Blk.drew ?_ | refine Rw.drew ?_ | refine Arg.drew ?_ | apply below_drew | refine Blk.drewN ?_ _ | refine Rw.drewN ?_ _ | refine Arg.drewN ?_ _ | apply pw_below_drewN))).mono ?_
  rintro e w1 ⟨rfl, hb⟩
  replace HB0 : Aside0 (Blk w1 (w.heap.size) 40 [.slice (some ⟨g, 0, none⟩) n c, .int .i16 tub, .int .i8 every, .int .i16 today]) := ⟨Blk.below (by with_reducible repeat (first | exact HB0.out | refine Blk.alloc ?_ _ | refine Rw.alloc ?_ _ | refine Arg.alloc ?_ _ | apply below_alloc | refine Blk.drew ?_ | refine Rw.drew ?_ | refine Arg.drew ?_ | apply below_drew | refine Blk.drewN ?_ _ | refine Rw.drewN ?_ _ | refine Arg.drewN ?_ _ | apply pw_below_drewN)) hb⟩
  replace HO : Aside0 (Blk w1 (w.heap.size + 1) 40 [.slice none 0 0, .int .i16 0, .int .i8 0, .int .i16 0]) := ⟨Blk.below (by with_reducible repeat (first | exact HO.out | refine Blk.alloc ?_ _ | refine Rw.alloc ?_ _ | refine Arg.alloc ?_ _ | apply below_alloc | refine Blk.drew ?_ | refine Rw.drew ?_ | refine Arg.drew ?_ | apply below_drew | refine Blk.drewN ?_ _ | refine Rw.drewN ?_ _ | refine Arg.drewN ?_ _ | apply pw_below_drewN)) hb⟩
  replace HR0 : Aside0 (Rw w1 g n f) := ⟨Rw.below (by with_reducible repeat (first | exact HR0.out | refine Blk.alloc ?_ _ | refine Rw.alloc ?_ _ | refine Arg.alloc ?_ _ | apply below_alloc | refine Blk.drew ?_ | refine Rw.drew ?_ | refine Arg.drew ?_ | apply below_drew | refine Blk.drewN ?_ _ | refine Rw.drewN ?_ _ | refine Arg.drewN ?_ _ | apply pw_below_drewN)) hb⟩
  replace HW : Aside0 (Below w.heap.size w w1) := ⟨below_step (by with_reducible repeat (first | exact HW.out | refine Blk.alloc ?_ _ | refine Rw.alloc ?_ _ | refine Arg.alloc ?_ _ | apply below_alloc | refine Blk.drew ?_ | refine Rw.drew ?_ | refine Arg.drew ?_ | apply below_drew | refine Blk.drewN ?_ _ | refine Rw.drewN ?_ _ | refine Arg.drewN ?_ _ | apply pw_below_drewN)) hb⟩
  clear hb
  have c24 := C24.out _ (HR0.out)
  have c0 := HB0.out.cell 0 (v := .slice (some ⟨g, 0, none⟩) n c) rfl
  clear HR0
  go_wp2_with (first | (refine wl_store (by rfl) 40 _ _ (by rfl) (w.heap.size + 1) 0 (by rfl) 40 4 [.slice none 0 0, .int .i16 0, .int .i8 0, .int .i16 0] [.slice none 0 0, .int .i16 0, .int .i8 0, .int .i16 0] (by rfl) (by with_reducible repeat (first | exact HO.out | refine Blk.alloc ?_ _ | refine Rw.alloc ?_ _ | refine Arg.alloc ?_ _ | apply below_alloc | refine Blk.drew ?_ | refine Rw.drew ?_ | refine Arg.drew ?_ | apply below_drew | refine Blk.drewN ?_ _ | refine Rw.drewN ?_ _ | refine Arg.drewN ?_ _ | apply pw_below_drewN)) (by rfl) (by decide) (by kernel_rfl) (by rfl) ?_; intro w9 hw_ hg_; have HO9 : Aside0 (Blk w9 (w.heap.size + 1) 40 [.slice none 0 0, .int .i16 0, .int .i8 0, .int .i16 0]) := ⟨Blk.all hw_ (by decide)⟩; have HW9 : Aside0 (Below w.heap.size w w9) := ⟨below_grown (by with_reducible repeat (first | exact HW.out | refine Blk.alloc ?_ _ | refine Rw.alloc ?_ _ | refine Arg.alloc ?_ _ | apply below_alloc | refine Blk.drew ?_ | refine Rw.drew ?_ | refine Arg.drew ?_ | apply below_drew | refine Blk.drewN ?_ _ | refine Rw.drewN ?_ _ | refine Arg.drewN ?_ _ | apply pw_below_drewN)) (by omega) (Below.size (by with_reducible repeat (first | exact HW.out | refine Blk.alloc ?_ _ | refine Rw.alloc ?_ _ | refine Arg.alloc ?_ _ | apply below_alloc | refine Blk.drew ?_ | refine Rw.drew ?_ | refine Arg.drew ?_ | apply below_drew | refine Blk.drewN ?_ _ | refine Rw.drewN ?_ _ | refine Arg.drewN ?_ _ | apply pw_below_drewN))) hg_⟩; clear hw_ hg_))
  refine bodyPost_ret (v := .tuple #[.agg #[.slice none 0 0, .int .i16 0, .int .i8 0, .int .i16 0], .int .i64 4]) (results_cell2 (by rfl) _ _ (w.heap.size + 1) [.slice none 0 0, .int .i16 0, .int .i8 0, .int .i16 0] _ _ (by rfl) (by rfl) HO9.out.whole Try.underlying40 (by rfl) (by kernel_rfl)) rfl ⟨rfl, HW9.out⟩
set_option maxHeartbeats 8000000 in
set_option maxRecDepth 100000 in
theorem specMR_ok (f : Nat → Int) (n c g : Nat) (tub every today : Int) (kind pieces uses : Int) (hn : n ≤ 1048576) (hR : Rng f n) (ht : -32768 ≤ tub ∧ tub ≤ 32767) (hv : -128 ≤ every ∧ every ≤ 127) (hd : -32768 ≤ today ∧ today ≤ 32767) (k u : Nat) (hk : kind = (k : Int)) (hu : uses = (u : Int) + 1) (hkn : k < n) (hn4 : n ≤ 4) (hu8 : u < 8) (hG : Good f (k * 25)) (hp : 0 ≤ pieces ∧ pieces ≤ 500) (hcode : askC (houseB f n tub every today) kind n ((decide (0 ≤ pieces ∧ pieces ≤ 500)) && (decide (1 ≤ uses ∧ uses ≤ 8))) = 0) (hrg : pieces ≤ f (k * 25 + 24)) (w : World) (hB : Rw w g n f) :
    Calls Try.prog 48 #[.agg #[.slice (some ⟨g, 0, none⟩) n c, .int .i16 tub, .int .i8 every, .int .i16 today], .int .i64 kind, .int .i64 pieces, .int .i64 uses] w fun e w' => ∃ g' c', e = .returned (.tuple #[.agg #[.slice (some ⟨g', 0, none⟩) n c', .int .i16 tub, .int .i8 every, .int .i16 today], .int .i64 0]) ∧ w.heap.size ≤ g' ∧ Rw w' g' n (mendF f (k * 25) u pieces) ∧ Below w.heap.size w w' := by
  have HB0 : Aside0 (Blk ((w.alloc (.cells #[.slice (some ⟨g, 0, none⟩) n c, .int .i16 tub, .int .i8 every, .int .i16 today] 40)).alloc (.cells #[.slice none 0 0, .int .i16 0, .int .i8 0, .int .i16 0] 40)) w.heap.size 40 [.slice (some ⟨g, 0, none⟩) n c, .int .i16 tub, .int .i8 every, .int .i16 today]) := ⟨(Blk.new w _ _).alloc _⟩
  have HO : Aside0 (Blk ((w.alloc (.cells #[.slice (some ⟨g, 0, none⟩) n c, .int .i16 tub, .int .i8 every, .int .i16 today] 40)).alloc (.cells #[.slice none 0 0, .int .i16 0, .int .i8 0, .int .i16 0] 40)) (w.heap.size + 1) 40 [.slice none 0 0, .int .i16 0, .int .i8 0, .int .i16 0]) := ⟨Blk.at_ (by simp) rfl⟩
  have HW : Aside0 (Below w.heap.size w ((w.alloc (.cells #[.slice (some ⟨g, 0, none⟩) n c, .int .i16 tub, .int .i8 every, .int .i16 today] 40)).alloc (.cells #[.slice none 0 0, .int .i16 0, .int .i8 0, .int .i16 0] 40))) := ⟨below_alloc (below_alloc (Below.refl _ _) _) _⟩
  have HR0 : Aside0 (Rw ((w.alloc (.cells #[.slice (some ⟨g, 0, none⟩) n c, .int .i16 tub, .int .i8 every, .int .i16 today] 40)).alloc (.cells #[.slice none 0 0, .int .i16 0, .int .i8 0, .int .i16 0] 40)) g n f) := ⟨(hB.alloc _).alloc _⟩
  have hl0 := hB.lt
  have HK := Aside0.mk (fun fine W h h' => l05Asked_calls f n c g w.heap.size tub every today kind fine hn hR ht hv hd W h h')
  have HCT := Aside0.mk (fun W => count_q pieces W)
  have HIN := Aside0.mk (fun W => in_q uses 1 8 W)
  replace HK := Aside0.mk (HK.out true)
  rw [show (decide (0 ≤ pieces ∧ pieces ≤ 500)) = true from decide_eq_true hp, show (decide (1 ≤ uses ∧ uses ≤ 8)) = true from decide_eq_true (by omega)] at hcode
  rw [show (decide (0 ≤ pieces ∧ pieces ≤ 500)) = true from decide_eq_true hp] at HCT
  rw [show (decide (1 ≤ uses ∧ uses ≤ 8)) = true from decide_eq_true (by omega)] at HIN
  rw [show askC (houseB f n tub every today) kind n true = 0 from hcode] at HK
  have HOW := Aside0.mk (fun W h h' => l05Own_calls f n c g w.heap.size tub every today ⟨by omega, hn4⟩ W h h')
  have x1 := hG.1 24 (by decide)
  have x2 := hG.le (i := 24) (by decide)
  have y1 := hG.1 u (by omega)
  have y2 := hG.le (i := u) (by omega)
  obtain ⟨hp1, hp2⟩ := hp
  have HF : Aside0 (mendF f (k * 25) u pieces = upd (upd f (k * 25 + 24) (f (k * 25 + 24) - pieces)) (k * 25 + u) (f (k * 25 + u) + pieces)) := ⟨rfl⟩
  have HY : Aside0 ((upd f (k * 25 + 24) (f (k * 25 + 24) - pieces)) (k * 25 + u) = f (k * 25 + u)) := ⟨by rw [upd_at, if_neg (by omega)]⟩
  obtain ⟨F, hF⟩ : ∃ F, mendF f (k * 25) u pieces = F := ⟨_, rfl⟩
  rw [hF] at HF ⊢
  clear hF
  obtain ⟨y, hy⟩ : ∃ y, f (k * 25 + u) = y := ⟨_, rfl⟩
  rw [hy] at HF HY y1 y2
  clear hy
  have c24 : ∀ W, Rw W g n f → W.cell? ⟨g, k * 25 + 24, none⟩ = some (.int .i32 (f (k * 25 + 24))) := fun W h => h.rag (q := k) (by omega) hkn rfl
  have C24 := Aside0.mk c24
  have e24 : ∀ W gg, Rw W gg n f → W.cell? ⟨gg, k * 25 + 24, none⟩ = some (.int .i32 (f (k * 25 + 24))) := fun W gg h => h.rag (q := k) (by omega) hkn rfl
  have E24 := Aside0.mk e24
  clear c24 e24
  obtain ⟨x, hx⟩ : ∃ x, f (k * 25 + 24) = x := ⟨_, rfl⟩
  rw [hx] at C24 E24 x1 x2 hrg HF HY
  clear hx
  have i1 : IntKind.i64.wrap x = x := IntWalk.i64_in _ ⟨by omega, by omega⟩
  obtain ⟨F1, hF1⟩ : ∃ F1, F1 = upd f (k * 25 + 24) (x - pieces) := ⟨_, rfl⟩
  have HF1 := Aside0.mk hF1
  rw [← hF1] at HF HY
  clear hF1
  have i2 : IntKind.i32.wrap pieces = pieces := IntWalk.i32_in _ ⟨by omega, by omega⟩
  have i3 : IntKind.i32.wrap (x - pieces) = x - pieces := IntWalk.i32_in _ ⟨by omega, by omega⟩
  have i4 : IntKind.i64.wrap ((u : Int) + 1 - 1) = (u : Int) := by rw [show (u : Int) + 1 - 1 = u by omega]; exact IntWalk.i64_in _ ⟨by omega, by omega⟩
  have i7 : IntKind.i64.wrap (u : Int) = (u : Int) := IntWalk.i64_in _ ⟨by omega, by omega⟩
  have i5 : IntKind.i16.wrap pieces = pieces := IntWalk.i16_in _ ⟨by omega, by omega⟩
  have i6 : IntKind.i16.wrap (y + pieces) = y + pieces := IntWalk.i16_in _ ⟨by omega, by omega⟩
  have hu0 : (0 : Int) ≤ (u : Int) := by omega
  have hu9 : (u : Int) < 8 := by omega
  have hk0 : (k : Int) < n := by omega
  have hrg2 : ¬ (x < pieces) := by omega
  subst hk hu
  clear hB hR ht hv hd hcode hG hn
  go_enter Try.func48, Try.ntmps48
  go_wp2_with (first | (go_at_call 76; refine (HCT.out _).mono ?_; rintro e w' ⟨rfl, rfl⟩) | (go_at_call 74; refine (HIN.out _).mono ?_; rintro e w' ⟨rfl, rfl⟩))
  refine (HK.out _ (by with_reducible repeat (first | exact HB0.out | refine Blk.alloc ?_ _ | refine Rw.alloc ?_ _ | refine Arg.alloc ?_ _ | apply below_alloc | refine Blk.drew ?_ | refine Rw.drew ?_ | refine Arg.drew ?_ | apply below_drew | refine Blk.drewN ?_ _ | refine Rw.drewN ?_ _ | refine Arg.drewN ?_ _ | apply pw_below_drewN)) (by with_reducible repeat (first | exact HR0.out | refine Blk.alloc ?_ _ | refine Rw.alloc ?_ _ | refine Arg.alloc ?_ _ | apply below_alloc | refine Blk.drew ?_ | refine Rw.drew ?_ | refine Arg.drew ?_ | apply below_drew | refine Blk.drewN ?_ _ | refine Rw.drewN ?_ _ | refine Arg.drewN ?_ _ | apply pw_below_drewN))).mono ?_
  rintro e w1 ⟨rfl, hb⟩
  replace HB0 : Aside0 (Blk w1 (w.heap.size) 40 [.slice (some ⟨g, 0, none⟩) n c, .int .i16 tub, .int .i8 every, .int .i16 today]) := ⟨Blk.below (by with_reducible repeat (first | exact HB0.out | refine Blk.alloc ?_ _ | refine Rw.alloc ?_ _ | refine Arg.alloc ?_ _ | apply below_alloc | refine Blk.drew ?_ | refine Rw.drew ?_ | refine Arg.drew ?_ | apply below_drew | refine Blk.drewN ?_ _ | refine Rw.drewN ?_ _ | refine Arg.drewN ?_ _ | apply pw_below_drewN)) hb⟩
  replace HO : Aside0 (Blk w1 (w.heap.size + 1) 40 [.slice none 0 0, .int .i16 0, .int .i8 0, .int .i16 0]) := ⟨Blk.below (by with_reducible repeat (first | exact HO.out | refine Blk.alloc ?_ _ | refine Rw.alloc ?_ _ | refine Arg.alloc ?_ _ | apply below_alloc | refine Blk.drew ?_ | refine Rw.drew ?_ | refine Arg.drew ?_ | apply below_drew | refine Blk.drewN ?_ _ | refine Rw.drewN ?_ _ | refine Arg.drewN ?_ _ | apply pw_below_drewN)) hb⟩
  replace HR0 : Aside0 (Rw w1 g n f) := ⟨Rw.below (by with_reducible repeat (first | exact HR0.out | refine Blk.alloc ?_ _ | refine Rw.alloc ?_ _ | refine Arg.alloc ?_ _ | apply below_alloc | refine Blk.drew ?_ | refine Rw.drew ?_ | refine Arg.drew ?_ | apply below_drew | refine Blk.drewN ?_ _ | refine Rw.drewN ?_ _ | refine Arg.drewN ?_ _ | apply pw_below_drewN)) hb⟩
  replace HW : Aside0 (Below w.heap.size w w1) := ⟨below_step (by with_reducible repeat (first | exact HW.out | refine Blk.alloc ?_ _ | refine Rw.alloc ?_ _ | refine Arg.alloc ?_ _ | apply below_alloc | refine Blk.drew ?_ | refine Rw.drew ?_ | refine Arg.drew ?_ | apply below_drew | refine Blk.drewN ?_ _ | refine Rw.drewN ?_ _ | refine Arg.drewN ?_ _ | apply pw_below_drewN)) hb⟩
  clear hb
  have c24 := C24.out _ (HR0.out)
  have c0 := HB0.out.cell 0 (v := .slice (some ⟨g, 0, none⟩) n c) rfl
  go_wp2_with fail
  clear c24 c0
  refine (HOW.out _ (by with_reducible repeat (first | exact HB0.out | refine Blk.alloc ?_ _ | refine Rw.alloc ?_ _ | refine Arg.alloc ?_ _ | apply below_alloc | refine Blk.drew ?_ | refine Rw.drew ?_ | refine Arg.drew ?_ | apply below_drew | refine Blk.drewN ?_ _ | refine Rw.drewN ?_ _ | refine Arg.drewN ?_ _ | apply pw_below_drewN)) (by with_reducible repeat (first | exact HR0.out | refine Blk.alloc ?_ _ | refine Rw.alloc ?_ _ | refine Arg.alloc ?_ _ | apply below_alloc | refine Blk.drew ?_ | refine Rw.drew ?_ | refine Arg.drew ?_ | apply below_drew | refine Blk.drewN ?_ _ | refine Rw.drewN ?_ _ | refine Arg.drewN ?_ _ | apply pw_below_drewN))).mono ?_
  rintro e w2 ⟨g1, c1, rfl, hg_, hR_, hb⟩
  have l_HR0g1 : g < g1 := Nat.lt_of_lt_of_le (Rw.lt (n := n) (f := f) (by with_reducible repeat (first | exact HR0.out | refine Blk.alloc ?_ _ | refine Rw.alloc ?_ _ | refine Arg.alloc ?_ _ | apply below_alloc | refine Blk.drew ?_ | refine Rw.drew ?_ | refine Arg.drew ?_ | apply below_drew | refine Blk.drewN ?_ _ | refine Rw.drewN ?_ _ | refine Arg.drewN ?_ _ | apply pw_below_drewN))) hg_
  have l_HB0g1 : w.heap.size < g1 := Nat.lt_of_lt_of_le (Blk.lt (t := 40) (cs := [.slice (some ⟨g, 0, none⟩) n c, .int .i16 tub, .int .i8 every, .int .i16 today]) (by with_reducible repeat (first | exact HB0.out | refine Blk.alloc ?_ _ | refine Rw.alloc ?_ _ | refine Arg.alloc ?_ _ | apply below_alloc | refine Blk.drew ?_ | refine Rw.drew ?_ | refine Arg.drew ?_ | apply below_drew | refine Blk.drewN ?_ _ | refine Rw.drewN ?_ _ | refine Arg.drewN ?_ _ | apply pw_below_drewN))) hg_
  have l_HOg1 : w.heap.size + 1 < g1 := Nat.lt_of_lt_of_le (Blk.lt (t := 40) (cs := [.slice none 0 0, .int .i16 0, .int .i8 0, .int .i16 0]) (by with_reducible repeat (first | exact HO.out | refine Blk.alloc ?_ _ | refine Rw.alloc ?_ _ | refine Arg.alloc ?_ _ | apply below_alloc | refine Blk.drew ?_ | refine Rw.drew ?_ | refine Arg.drew ?_ | apply below_drew | refine Blk.drewN ?_ _ | refine Rw.drewN ?_ _ | refine Arg.drewN ?_ _ | apply pw_below_drewN))) hg_
  have b_g1 : w.heap.size ≤ g1 := Nat.le_trans (Below.size (by with_reducible repeat (first | exact HW.out | refine Blk.alloc ?_ _ | refine Rw.alloc ?_ _ | refine Arg.alloc ?_ _ | apply below_alloc | refine Blk.drew ?_ | refine Rw.drew ?_ | refine Arg.drew ?_ | apply below_drew | refine Blk.drewN ?_ _ | refine Rw.drewN ?_ _ | refine Arg.drewN ?_ _ | apply pw_below_drewN))) hg_
  replace HB0 : Aside0 (Blk w2 (w.heap.size) 40 [.slice (some ⟨g, 0, none⟩) n c, .int .i16 tub, .int .i8 every, .int .i16 today]) := ⟨Blk.below (by with_reducible repeat (first | exact HB0.out | refine Blk.alloc ?_ _ | refine Rw.alloc ?_ _ | refine Arg.alloc ?_ _ | apply below_alloc | refine Blk.drew ?_ | refine Rw.drew ?_ | refine Arg.drew ?_ | apply below_drew | refine Blk.drewN ?_ _ | refine Rw.drewN ?_ _ | refine Arg.drewN ?_ _ | apply pw_below_drewN)) hb⟩
  replace HO : Aside0 (Blk w2 (w.heap.size + 1) 40 [.slice none 0 0, .int .i16 0, .int .i8 0, .int .i16 0]) := ⟨Blk.below (by with_reducible repeat (first | exact HO.out | refine Blk.alloc ?_ _ | refine Rw.alloc ?_ _ | refine Arg.alloc ?_ _ | apply below_alloc | refine Blk.drew ?_ | refine Rw.drew ?_ | refine Arg.drew ?_ | apply below_drew | refine Blk.drewN ?_ _ | refine Rw.drewN ?_ _ | refine Arg.drewN ?_ _ | apply pw_below_drewN)) hb⟩
  replace HR0 : Aside0 (Rw w2 g n f) := ⟨Rw.below (by with_reducible repeat (first | exact HR0.out | refine Blk.alloc ?_ _ | refine Rw.alloc ?_ _ | refine Arg.alloc ?_ _ | apply below_alloc | refine Blk.drew ?_ | refine Rw.drew ?_ | refine Arg.drew ?_ | apply below_drew | refine Blk.drewN ?_ _ | refine Rw.drewN ?_ _ | refine Arg.drewN ?_ _ | apply pw_below_drewN)) hb⟩
  replace HW : Aside0 (Below w.heap.size w w2) := ⟨below_step (by with_reducible repeat (first | exact HW.out | refine Blk.alloc ?_ _ | refine Rw.alloc ?_ _ | refine Arg.alloc ?_ _ | apply below_alloc | refine Blk.drew ?_ | refine Rw.drew ?_ | refine Arg.drew ?_ | apply below_drew | refine Blk.drewN ?_ _ | refine Rw.drewN ?_ _ | refine Arg.drewN ?_ _ | apply pw_below_drewN)) hb⟩
  clear hb
  have HR1 := Aside0.mk hR_
  clear hR_ hg_
  have l_g1 : g1 < w2.heap.size := Rw.lt HR1.out
  have e24 := E24.out _ _ (HR1.out.alloc (.cells #[.slice (some ⟨g1, 0, none⟩) n c1, .int .i16 tub, .int .i8 every, .int .i16 today] 40))
  have s24 := (HR1.out.alloc (.cells #[.slice (some ⟨g1, 0, none⟩) n c1, .int .i16 tub, .int .i8 every, .int .i16 today] 40)).frozen (k * 25 + 24)
  have c0 := (Blk.new w2 40 [.slice (some ⟨g1, 0, none⟩) n c1, .int .i16 tub, .int .i8 every, .int .i16 today]).cell 0 (v := .slice (some ⟨g1, 0, none⟩) n c1) rfl
  go_wp2_with fail
  clear e24 s24 c0
  obtain ⟨w6, hw_⟩ : ∃ W_, W_ = w2.setCell ⟨g1, k * 25 + 24, none⟩ (.int .i32 (x - pieces)) := ⟨_, rfl⟩
  rw [← hw_]
  have hs_w6 : w6.heap.size = w2.heap.size := by rw [hw_]; simp
  replace HB0 : Aside0 (Blk w6 (w.heap.size) 40 [.slice (some ⟨g, 0, none⟩) n c, .int .i16 tub, .int .i8 every, .int .i16 today]) := ⟨by rw [hw_]; exact blk_other HB0.out (by omega)⟩
  replace HO : Aside0 (Blk w6 (w.heap.size + 1) 40 [.slice none 0 0, .int .i16 0, .int .i8 0, .int .i16 0]) := ⟨by rw [hw_]; exact blk_other HO.out (by omega)⟩
  replace HR0 : Aside0 (Rw w6 g n f) := ⟨by rw [hw_]; exact Rw.other HR0.out (by omega)⟩
  replace HW : Aside0 (Below w.heap.size w w6) := ⟨by rw [hw_]; exact below_setc HW.out (by omega)⟩
  replace HR1 : Aside0 (Rw w6 g1 n F1) := ⟨by rw [hw_]; exact (by rw [HF1.out]; exact HR1.out.setRag (q := k) (by omega) hkn rfl _)⟩
  clear hw_
  have l_HR0HX : g < w2.heap.size := (by first | exact Rw.lt HR0.out | (have h_ := Rw.lt HR0.out; omega))
  have l_HR1HX : g1 < w2.heap.size := (by first | exact Rw.lt HR1.out | (have h_ := Rw.lt HR1.out; omega))
  refine seq_region 15 (by kernel_rfl) (by kernel_rfl) (fun w7 hw_ => ?_)
  replace HB0 : Aside0 (Blk w7 (w.heap.size) 40 [.slice (some ⟨g, 0, none⟩) n c, .int .i16 tub, .int .i8 every, .int .i16 today]) := ⟨by rw [hw_]; exact (by with_reducible repeat (first | exact HB0.out | refine Blk.alloc ?_ _ | refine Rw.alloc ?_ _ | refine Arg.alloc ?_ _ | apply below_alloc | refine Blk.drew ?_ | refine Rw.drew ?_ | refine Arg.drew ?_ | apply below_drew | refine Blk.drewN ?_ _ | refine Rw.drewN ?_ _ | refine Arg.drewN ?_ _ | apply pw_below_drewN))⟩
  replace HO : Aside0 (Blk w7 (w.heap.size + 1) 40 [.slice none 0 0, .int .i16 0, .int .i8 0, .int .i16 0]) := ⟨by rw [hw_]; exact (by with_reducible repeat (first | exact HO.out | refine Blk.alloc ?_ _ | refine Rw.alloc ?_ _ | refine Arg.alloc ?_ _ | apply below_alloc | refine Blk.drew ?_ | refine Rw.drew ?_ | refine Arg.drew ?_ | apply below_drew | refine Blk.drewN ?_ _ | refine Rw.drewN ?_ _ | refine Arg.drewN ?_ _ | apply pw_below_drewN))⟩
  have HX : Aside0 (Blk w7 (w2.heap.size) 40 [.slice (some ⟨g1, 0, none⟩) n c1, .int .i16 tub, .int .i8 every, .int .i16 today]) := ⟨by rw [hw_]; (repeat (first | exact Blk.at_ (by first | (simp; done) | assumption) rfl | refine Blk.alloc ?_ _ | refine Blk.drew ?_))⟩
  replace HR0 : Aside0 (Rw w7 g n f) := ⟨by rw [hw_]; exact (by with_reducible repeat (first | exact HR0.out | refine Blk.alloc ?_ _ | refine Rw.alloc ?_ _ | refine Arg.alloc ?_ _ | apply below_alloc | refine Blk.drew ?_ | refine Rw.drew ?_ | refine Arg.drew ?_ | apply below_drew | refine Blk.drewN ?_ _ | refine Rw.drewN ?_ _ | refine Arg.drewN ?_ _ | apply pw_below_drewN))⟩
  replace HR1 : Aside0 (Rw w7 g1 n F1) := ⟨by rw [hw_]; exact (by with_reducible repeat (first | exact HR1.out | refine Blk.alloc ?_ _ | refine Rw.alloc ?_ _ | refine Arg.alloc ?_ _ | apply below_alloc | refine Blk.drew ?_ | refine Rw.drew ?_ | refine Arg.drew ?_ | apply below_drew | refine Blk.drewN ?_ _ | refine Rw.drewN ?_ _ | refine Arg.drewN ?_ _ | apply pw_below_drewN))⟩
  replace HW : Aside0 (Below w.heap.size w w7) := ⟨by rw [hw_]; exact (by with_reducible repeat (first | exact HW.out | refine Blk.alloc ?_ _ | refine Rw.alloc ?_ _ | refine Arg.alloc ?_ _ | apply below_alloc | refine Blk.drew ?_ | refine Rw.drew ?_ | refine Arg.drew ?_ | apply below_drew | refine Blk.drewN ?_ _ | refine Rw.drewN ?_ _ | refine Arg.drewN ?_ _ | apply pw_below_drewN))⟩
  clear hw_
  have c0 := HX.out.cell 0 (v := .slice (some ⟨g1, 0, none⟩) n c1) rfl
  have cu := HR1.out.num (o := k * 25) (q := k) (u := u) (j := k * 25 + u) (by omega) hkn (by omega) rfl
  have du := HR1.out.frozen (k * 25 + u)
  rw [HY.out] at cu
  simp only [List.take_succ_cons, List.take_zero, List.drop_succ_cons, List.drop_zero]
  repeat still_step
  try refine wpStill_nil ?_
  replace HB0 : Aside0 (Blk (w7.setCell ⟨g1, k * 25 + u, none⟩ (.int .i16 (y + pieces))) (w.heap.size) 40 [.slice (some ⟨g, 0, none⟩) n c, .int .i16 tub, .int .i8 every, .int .i16 today]) := ⟨blk_other HB0.out (by omega)⟩
  replace HO : Aside0 (Blk (w7.setCell ⟨g1, k * 25 + u, none⟩ (.int .i16 (y + pieces))) (w.heap.size + 1) 40 [.slice none 0 0, .int .i16 0, .int .i8 0, .int .i16 0]) := ⟨blk_other HO.out (by omega)⟩
  replace HX : Aside0 (Blk (w7.setCell ⟨g1, k * 25 + u, none⟩ (.int .i16 (y + pieces))) (w2.heap.size) 40 [.slice (some ⟨g1, 0, none⟩) n c1, .int .i16 tub, .int .i8 every, .int .i16 today]) := ⟨blk_other HX.out (by omega)⟩
  replace HR0 : Aside0 (Rw (w7.setCell ⟨g1, k * 25 + u, none⟩ (.int .i16 (y + pieces))) g n f) := ⟨Rw.other HR0.out (by omega)⟩
  replace HW : Aside0 (Below w.heap.size w (w7.setCell ⟨g1, k * 25 + u, none⟩ (.int .i16 (y + pieces)))) := ⟨below_setc HW.out (by omega)⟩
  replace HR1 : Aside0 (Rw (w7.setCell ⟨g1, k * 25 + u, none⟩ (.int .i16 (y + pieces))) g1 n F) := ⟨(by rw [HF.out]; exact HR1.out.setNum (o := k * 25) (q := k) (u := u) (by omega) hkn (by omega) rfl _)⟩
  go_wp2_with (first | (refine wl_load (by rfl) 40 _ (by rfl) (w2.heap.size) 0 (by rfl) 40 4 [.slice (some ⟨g1, 0, none⟩) n c1, .int .i16 tub, .int .i8 every, .int .i16 today] [.slice (some ⟨g1, 0, none⟩) n c1, .int .i16 tub, .int .i8 every, .int .i16 today] (by with_reducible repeat (first | exact HX.out | refine Blk.alloc ?_ _ | refine Rw.alloc ?_ _ | refine Arg.alloc ?_ _ | apply below_alloc | refine Blk.drew ?_ | refine Rw.drew ?_ | refine Arg.drew ?_ | apply below_drew | refine Blk.drewN ?_ _ | refine Rw.drewN ?_ _ | refine Arg.drewN ?_ _ | apply pw_below_drewN)) (by rfl) (by rfl) _ Try.underlying40 (by rfl) (by kernel_rfl) ?_) | (refine wl_store (by rfl) 40 _ _ (by rfl) (w.heap.size + 1) 0 (by rfl) 40 4 [.slice none 0 0, .int .i16 0, .int .i8 0, .int .i16 0] [.slice (some ⟨g1, 0, none⟩) n c1, .int .i16 tub, .int .i8 every, .int .i16 today] (by rfl) (by with_reducible repeat (first | exact HO.out | refine Blk.alloc ?_ _ | refine Rw.alloc ?_ _ | refine Arg.alloc ?_ _ | apply below_alloc | refine Blk.drew ?_ | refine Rw.drew ?_ | refine Arg.drew ?_ | apply below_drew | refine Blk.drewN ?_ _ | refine Rw.drewN ?_ _ | refine Arg.drewN ?_ _ | apply pw_below_drewN)) (by rfl) (by decide) (by kernel_rfl) (by rfl) ?_; intro w9 hw_ hg_; have HO9 : Aside0 (Blk w9 (w.heap.size + 1) 40 [.slice (some ⟨g1, 0, none⟩) n c1, .int .i16 tub, .int .i8 every, .int .i16 today]) := ⟨Blk.all hw_ (by decide)⟩; have HW9 : Aside0 (Below w.heap.size w w9) := ⟨below_grown (by with_reducible repeat (first | exact HW.out | refine Blk.alloc ?_ _ | refine Rw.alloc ?_ _ | refine Arg.alloc ?_ _ | apply below_alloc | refine Blk.drew ?_ | refine Rw.drew ?_ | refine Arg.drew ?_ | apply below_drew | refine Blk.drewN ?_ _ | refine Rw.drewN ?_ _ | refine Arg.drewN ?_ _ | apply pw_below_drewN)) (by omega) (Below.size (by with_reducible repeat (first | exact HW.out | refine Blk.alloc ?_ _ | refine Rw.alloc ?_ _ | refine Arg.alloc ?_ _ | apply below_alloc | refine Blk.drew ?_ | refine Rw.drew ?_ | refine Arg.drew ?_ | apply below_drew | refine Blk.drewN ?_ _ | refine Rw.drewN ?_ _ | refine Arg.drewN ?_ _ | apply pw_below_drewN))) hg_⟩; have HR09 : Aside0 (Rw w9 g n f) := ⟨Rw.grown (by with_reducible repeat (first | exact HR0.out | refine Blk.alloc ?_ _ | refine Rw.alloc ?_ _ | refine Arg.alloc ?_ _ | apply below_alloc | refine Blk.drew ?_ | refine Rw.drew ?_ | refine Arg.drew ?_ | apply below_drew | refine Blk.drewN ?_ _ | refine Rw.drewN ?_ _ | refine Arg.drewN ?_ _ | apply pw_below_drewN)) hg_ (by intro h_; injection h_ with h_; omega)⟩; have HR19 : Aside0 (Rw w9 g1 n F) := ⟨Rw.grown (by with_reducible repeat (first | exact HR1.out | refine Blk.alloc ?_ _ | refine Rw.alloc ?_ _ | refine Arg.alloc ?_ _ | apply below_alloc | refine Blk.drew ?_ | refine Rw.drew ?_ | refine Arg.drew ?_ | apply below_drew | refine Blk.drewN ?_ _ | refine Rw.drewN ?_ _ | refine Arg.drewN ?_ _ | apply pw_below_drewN)) hg_ (by intro h_; injection h_ with h_; omega)⟩; clear hw_ hg_))
  refine bodyPost_ret (v := .tuple #[.agg #[.slice (some ⟨g1, 0, none⟩) n c1, .int .i16 tub, .int .i8 every, .int .i16 today], .int .i64 0]) (results_cell2 (by rfl) _ _ (w.heap.size + 1) [.slice (some ⟨g1, 0, none⟩) n c1, .int .i16 tub, .int .i8 every, .int .i16 today] _ _ (by rfl) (by rfl) HO9.out.whole Try.underlying40 (by rfl) (by kernel_rfl)) rfl ⟨g1, c1, rfl, b_g1, HR19.out, HW9.out⟩

theorem firstOf_two (c1 c2 : Int) (gg : Nat) (W : World) (hc : ∀ k, k < 2 → W.cell? ⟨gg, k, none⟩ = some (.int .i64 ([c1, c2].getD k 0))) : Calls Try.prog 83 #[.slice (some ⟨gg, 0, none⟩) 2 2] W fun e w' => e = .returned (.int .i64 (firstL [c1, c2])) ∧ Below W.heap.size W w' :=
  (firstOf_q [c1, c2] gg 2 2 W rfl (by decide) hc).mono (by rintro e w' ⟨rfl, rfl⟩; exact ⟨rfl, Below.refl _ _⟩)
set_option maxHeartbeats 8000000 in
set_option maxRecDepth 100000 in
theorem implMR_bad (f : Nat → Int) (n c g : Nat) (tub every today : Int) (kind pieces uses : Int) (hn : n ≤ 1048576) (hR : Rng f n) (ht : -32768 ≤ tub ∧ tub ≤ 32767) (hv : -128 ≤ every ∧ every ≤ 127) (hd : -32768 ≤ today ∧ today ≤ 32767) (code : Int) (hcode : askC (houseB f n tub every today) kind n ((decide (0 ≤ pieces ∧ pieces ≤ 500)) && (decide (1 ≤ uses ∧ uses ≤ 8))) = code) (hc0 : code ≠ 0) (w : World) (hB : Rw w g n f) :
    Calls Try.prog 49 #[.agg #[.slice (some ⟨g, 0, none⟩) n c, .int .i16 tub, .int .i8 every, .int .i16 today], .int .i64 kind, .int .i64 pieces, .int .i64 uses] w fun e w' => e = .returned (.tuple #[.agg #[.slice none 0 0, .int .i16 0, .int .i8 0, .int .i16 0], .int .i64 code]) ∧ Below w.heap.size w w' := by
  have HB0 : Aside0 (Blk ((w.alloc (.cells #[.slice (some ⟨g, 0, none⟩) n c, .int .i16 tub, .int .i8 every, .int .i16 today] 40)).alloc (.cells #[.slice none 0 0, .int .i16 0, .int .i8 0, .int .i16 0] 40)) w.heap.size 40 [.slice (some ⟨g, 0, none⟩) n c, .int .i16 tub, .int .i8 every, .int .i16 today]) := ⟨(Blk.new w _ _).alloc _⟩
  have HO : Aside0 (Blk ((w.alloc (.cells #[.slice (some ⟨g, 0, none⟩) n c, .int .i16 tub, .int .i8 every, .int .i16 today] 40)).alloc (.cells #[.slice none 0 0, .int .i16 0, .int .i8 0, .int .i16 0] 40)) (w.heap.size + 1) 40 [.slice none 0 0, .int .i16 0, .int .i8 0, .int .i16 0]) := ⟨Blk.at_ (by simp) rfl⟩
  have HW : Aside0 (Below w.heap.size w ((w.alloc (.cells #[.slice (some ⟨g, 0, none⟩) n c, .int .i16 tub, .int .i8 every, .int .i16 today] 40)).alloc (.cells #[.slice none 0 0, .int .i16 0, .int .i8 0, .int .i16 0] 40))) := ⟨below_alloc (below_alloc (Below.refl _ _) _) _⟩
  have HR0 : Aside0 (Rw ((w.alloc (.cells #[.slice (some ⟨g, 0, none⟩) n c, .int .i16 tub, .int .i8 every, .int .i16 today] 40)).alloc (.cells #[.slice none 0 0, .int .i16 0, .int .i8 0, .int .i16 0] 40)) g n f) := ⟨(hB.alloc _).alloc _⟩
  have hl0 := hB.lt
  have HK := Aside0.mk (fun W h => kindCode_calls f n c g tub every today kind pieces hn hR ht hv hd W h)
  have HIN := Aside0.mk (fun W => within_q uses 1 8 W)
  have HFO := Aside0.mk (fun W gg => firstOf_two (askC (houseB f n tub every today) kind n (decide (0 ≤ pieces ∧ pieces ≤ 500))) (if (decide (1 ≤ uses ∧ uses ≤ 8)) = true then 0 else 2) gg W)
  rw [askC_and, hcode] at HFO
  have HUN := Aside0.mk (fun W => unless_q (decide (1 ≤ uses ∧ uses ≤ 8)) 2 W)
  generalize (if (decide (1 ≤ uses ∧ uses ≤ 8)) = true then (0 : Int) else 2) = c2 at *
  generalize decide (1 ≤ uses ∧ uses ≤ 8) = d at *
  generalize askC (houseB f n tub every today) kind n (decide (0 ≤ pieces ∧ pieces ≤ 500)) = c1 at *
  clear hB hR ht hv hd hn hcode
  have hc1 : (code != 0) = true := by simpa using hc0
  have hc2 : (code == 0) = false := by simpa using hc0
  have hc3 : decide (code = 0) = false := decide_eq_false hc0
  clear hc0
  go_enter Try.func49, Try.ntmps49
  go_wp2_with (first | (refine wl_load (by rfl) 40 _ (by rfl) (w.heap.size) 0 (by rfl) 40 4 [.slice (some ⟨g, 0, none⟩) n c, .int .i16 tub, .int .i8 every, .int .i16 today] [.slice (some ⟨g, 0, none⟩) n c, .int .i16 tub, .int .i8 every, .int .i16 today] (by with_reducible repeat (first | exact HB0.out | refine Blk.alloc ?_ _ | refine Rw.alloc ?_ _ | refine Arg.alloc ?_ _ | apply below_alloc | refine Blk.drew ?_ | refine Rw.drew ?_ | refine Arg.drew ?_ | apply below_drew | refine Blk.drewN ?_ _ | refine Rw.drewN ?_ _ | refine Arg.drewN ?_ _ | apply pw_below_drewN)) (by rfl) (by rfl) _ Try.underlying40 (by rfl) (by kernel_rfl) ?_))
  refine (HK.out _ (by with_reducible repeat (first | exact HR0.out | refine Blk.alloc ?_ _ | refine Rw.alloc ?_ _ | refine Arg.alloc ?_ _ | apply below_alloc | refine Blk.drew ?_ | refine Rw.drew ?_ | refine Arg.drew ?_ | apply below_drew | refine Blk.drewN ?_ _ | refine Rw.drewN ?_ _ | refine Arg.drewN ?_ _ | apply pw_below_drewN))).mono ?_
  rintro e w1 ⟨rfl, hb⟩
  replace HB0 : Aside0 (Blk w1 (w.heap.size) 40 [.slice (some ⟨g, 0, none⟩) n c, .int .i16 tub, .int .i8 every, .int .i16 today]) := ⟨Blk.below (by with_reducible repeat (first | exact HB0.out | refine Blk.alloc ?_ _ | refine Rw.alloc ?_ _ | refine Arg.alloc ?_ _ | apply below_alloc | refine Blk.drew ?_ | refine Rw.drew ?_ | refine Arg.drew ?_ | apply below_drew | refine Blk.drewN ?_ _ | refine Rw.drewN ?_ _ | refine Arg.drewN ?_ _ | apply pw_below_drewN)) hb⟩
  replace HO : Aside0 (Blk w1 (w.heap.size + 1) 40 [.slice none 0 0, .int .i16 0, .int .i8 0, .int .i16 0]) := ⟨Blk.below (by with_reducible repeat (first | exact HO.out | refine Blk.alloc ?_ _ | refine Rw.alloc ?_ _ | refine Arg.alloc ?_ _ | apply below_alloc | refine Blk.drew ?_ | refine Rw.drew ?_ | refine Arg.drew ?_ | apply below_drew | refine Blk.drewN ?_ _ | refine Rw.drewN ?_ _ | refine Arg.drewN ?_ _ | apply pw_below_drewN)) hb⟩
  replace HR0 : Aside0 (Rw w1 g n f) := ⟨Rw.below (by with_reducible repeat (first | exact HR0.out | refine Blk.alloc ?_ _ | refine Rw.alloc ?_ _ | refine Arg.alloc ?_ _ | apply below_alloc | refine Blk.drew ?_ | refine Rw.drew ?_ | refine Arg.drew ?_ | apply below_drew | refine Blk.drewN ?_ _ | refine Rw.drewN ?_ _ | refine Arg.drewN ?_ _ | apply pw_below_drewN)) hb⟩
  replace HW : Aside0 (Below w.heap.size w w1) := ⟨below_step (by with_reducible repeat (first | exact HW.out | refine Blk.alloc ?_ _ | refine Rw.alloc ?_ _ | refine Arg.alloc ?_ _ | apply below_alloc | refine Blk.drew ?_ | refine Rw.drew ?_ | refine Arg.drew ?_ | apply below_drew | refine Blk.drewN ?_ _ | refine Rw.drewN ?_ _ | refine Arg.drewN ?_ _ | apply pw_below_drewN)) hb⟩
  clear hb
  go_wp2_with (first | (go_at_call 70; refine (HIN.out _).mono ?_; rintro e w' ⟨rfl, rfl⟩) | (go_at_call 84; refine (HUN.out _).mono ?_; rintro e w' ⟨rfl, rfl⟩))
  refine (HFO.out _ _ (fun j hj => by match j, hj with | 0, _ => (first | rfl | (simp; done)) | 1, _ => (first | rfl | (simp; done)))).mono ?_
  rintro e w2 ⟨rfl, hb⟩
  replace HB0 : Aside0 (Blk w2 (w.heap.size) 40 [.slice (some ⟨g, 0, none⟩) n c, .int .i16 tub, .int .i8 every, .int .i16 today]) := ⟨Blk.below (by with_reducible repeat (first | exact HB0.out | refine Blk.alloc ?_ _ | refine Rw.alloc ?_ _ | refine Arg.alloc ?_ _ | apply below_alloc | refine Blk.drew ?_ | refine Rw.drew ?_ | refine Arg.drew ?_ | apply below_drew | refine Blk.drewN ?_ _ | refine Rw.drewN ?_ _ | refine Arg.drewN ?_ _ | apply pw_below_drewN)) hb⟩
  replace HO : Aside0 (Blk w2 (w.heap.size + 1) 40 [.slice none 0 0, .int .i16 0, .int .i8 0, .int .i16 0]) := ⟨Blk.below (by with_reducible repeat (first | exact HO.out | refine Blk.alloc ?_ _ | refine Rw.alloc ?_ _ | refine Arg.alloc ?_ _ | apply below_alloc | refine Blk.drew ?_ | refine Rw.drew ?_ | refine Arg.drew ?_ | apply below_drew | refine Blk.drewN ?_ _ | refine Rw.drewN ?_ _ | refine Arg.drewN ?_ _ | apply pw_below_drewN)) hb⟩
  replace HR0 : Aside0 (Rw w2 g n f) := ⟨Rw.below (by with_reducible repeat (first | exact HR0.out | refine Blk.alloc ?_ _ | refine Rw.alloc ?_ _ | refine Arg.alloc ?_ _ | apply below_alloc | refine Blk.drew ?_ | refine Rw.drew ?_ | refine Arg.drew ?_ | apply below_drew | refine Blk.drewN ?_ _ | refine Rw.drewN ?_ _ | refine Arg.drewN ?_ _ | apply pw_below_drewN)) hb⟩
  replace HW : Aside0 (Below w.heap.size w w2) := ⟨below_step (by with_reducible repeat (first | exact HW.out | refine Blk.alloc ?_ _ | refine Rw.alloc ?_ _ | refine Arg.alloc ?_ _ | apply below_alloc | refine Blk.drew ?_ | refine Rw.drew ?_ | refine Arg.drew ?_ | apply below_drew | refine Blk.drewN ?_ _ | refine Rw.drewN ?_ _ | refine Arg.drewN ?_ _ | apply pw_below_drewN)) hb⟩
  clear hb
  go_wp2_with (first | (refine wl_store (by rfl) 40 _ _ (by rfl) (w.heap.size + 1) 0 (by rfl) 40 4 [.slice none 0 0, .int .i16 0, .int .i8 0, .int .i16 0] [.slice none 0 0, .int .i16 0, .int .i8 0, .int .i16 0] (by rfl) (by with_reducible repeat (first | exact HO.out | refine Blk.alloc ?_ _ | refine Rw.alloc ?_ _ | refine Arg.alloc ?_ _ | apply below_alloc | refine Blk.drew ?_ | refine Rw.drew ?_ | refine Arg.drew ?_ | apply below_drew | refine Blk.drewN ?_ _ | refine Rw.drewN ?_ _ | refine Arg.drewN ?_ _ | apply pw_below_drewN)) (by rfl) (by decide) (by kernel_rfl) (by rfl) ?_; intro w9 hw_ hg_; have HO9 : Aside0 (Blk w9 (w.heap.size + 1) 40 [.slice none 0 0, .int .i16 0, .int .i8 0, .int .i16 0]) := ⟨Blk.all hw_ (by decide)⟩; have HW9 : Aside0 (Below w.heap.size w w9) := ⟨below_grown (by with_reducible repeat (first | exact HW.out | refine Blk.alloc ?_ _ | refine Rw.alloc ?_ _ | refine Arg.alloc ?_ _ | apply below_alloc | refine Blk.drew ?_ | refine Rw.drew ?_ | refine Arg.drew ?_ | apply below_drew | refine Blk.drewN ?_ _ | refine Rw.drewN ?_ _ | refine Arg.drewN ?_ _ | apply pw_below_drewN)) (by omega) (Below.size (by with_reducible repeat (first | exact HW.out | refine Blk.alloc ?_ _ | refine Rw.alloc ?_ _ | refine Arg.alloc ?_ _ | apply below_alloc | refine Blk.drew ?_ | refine Rw.drew ?_ | refine Arg.drew ?_ | apply below_drew | refine Blk.drewN ?_ _ | refine Rw.drewN ?_ _ | refine Arg.drewN ?_ _ | apply pw_below_drewN))) hg_⟩; have HR09 : Aside0 (Rw w9 g n f) := ⟨Rw.grown (by with_reducible repeat (first | exact HR0.out | refine Blk.alloc ?_ _ | refine Rw.alloc ?_ _ | refine Arg.alloc ?_ _ | apply below_alloc | refine Blk.drew ?_ | refine Rw.drew ?_ | refine Arg.drew ?_ | apply below_drew | refine Blk.drewN ?_ _ | refine Rw.drewN ?_ _ | refine Arg.drewN ?_ _ | apply pw_below_drewN)) hg_ (by intro h_; injection h_ with h_; omega)⟩; clear hw_ hg_))
  refine bodyPost_ret (v := .tuple #[.agg #[.slice none 0 0, .int .i16 0, .int .i8 0, .int .i16 0], .int .i64 code]) (results_cell2 (by rfl) _ _ (w.heap.size + 1) [.slice none 0 0, .int .i16 0, .int .i8 0, .int .i16 0] _ _ (by rfl) (by rfl) HO9.out.whole Try.underlying40 (by rfl) (by kernel_rfl)) rfl ⟨rfl, HW9.out⟩
set_option maxHeartbeats 8000000 in
set_option maxRecDepth 100000 in
theorem implMR_few (f : Nat → Int) (n c g : Nat) (tub every today : Int) (kind pieces uses : Int) (hn : n ≤ 1048576) (hR : Rng f n) (ht : -32768 ≤ tub ∧ tub ≤ 32767) (hv : -128 ≤ every ∧ every ≤ 127) (hd : -32768 ≤ today ∧ today ≤ 32767) (k u : Nat) (hk : kind = (k : Int)) (hu : uses = (u : Int) + 1) (hkn : k < n) (hn4 : n ≤ 4) (hu8 : u < 8) (hG : Good f (k * 25)) (hp : 0 ≤ pieces ∧ pieces ≤ 500) (hcode : askC (houseB f n tub every today) kind n ((decide (0 ≤ pieces ∧ pieces ≤ 500)) && (decide (1 ≤ uses ∧ uses ≤ 8))) = 0) (hrg : f (k * 25 + 24) < pieces) (w : World) (hB : Rw w g n f) :
    Calls Try.prog 49 #[.agg #[.slice (some ⟨g, 0, none⟩) n c, .int .i16 tub, .int .i8 every, .int .i16 today], .int .i64 kind, .int .i64 pieces, .int .i64 uses] w fun e w' => e = .returned (.tuple #[.agg #[.slice none 0 0, .int .i16 0, .int .i8 0, .int .i16 0], .int .i64 4]) ∧ Below w.heap.size w w' := by
  have HB0 : Aside0 (Blk ((w.alloc (.cells #[.slice (some ⟨g, 0, none⟩) n c, .int .i16 tub, .int .i8 every, .int .i16 today] 40)).alloc (.cells #[.slice none 0 0, .int .i16 0, .int .i8 0, .int .i16 0] 40)) w.heap.size 40 [.slice (some ⟨g, 0, none⟩) n c, .int .i16 tub, .int .i8 every, .int .i16 today]) := ⟨(Blk.new w _ _).alloc _⟩
  have HO : Aside0 (Blk ((w.alloc (.cells #[.slice (some ⟨g, 0, none⟩) n c, .int .i16 tub, .int .i8 every, .int .i16 today] 40)).alloc (.cells #[.slice none 0 0, .int .i16 0, .int .i8 0, .int .i16 0] 40)) (w.heap.size + 1) 40 [.slice none 0 0, .int .i16 0, .int .i8 0, .int .i16 0]) := ⟨Blk.at_ (by simp) rfl⟩
  have HW : Aside0 (Below w.heap.size w ((w.alloc (.cells #[.slice (some ⟨g, 0, none⟩) n c, .int .i16 tub, .int .i8 every, .int .i16 today] 40)).alloc (.cells #[.slice none 0 0, .int .i16 0, .int .i8 0, .int .i16 0] 40))) := ⟨below_alloc (below_alloc (Below.refl _ _) _) _⟩
  have HR0 : Aside0 (Rw ((w.alloc (.cells #[.slice (some ⟨g, 0, none⟩) n c, .int .i16 tub, .int .i8 every, .int .i16 today] 40)).alloc (.cells #[.slice none 0 0, .int .i16 0, .int .i8 0, .int .i16 0] 40)) g n f) := ⟨(hB.alloc _).alloc _⟩
  have hl0 := hB.lt
  have HK := Aside0.mk (fun W h => kindCode_calls f n c g tub every today kind pieces hn hR ht hv hd W h)
  have HIN := Aside0.mk (fun W => within_q uses 1 8 W)
  have HFO := Aside0.mk (fun W gg => firstOf_two (askC (houseB f n tub every today) kind n (decide (0 ≤ pieces ∧ pieces ≤ 500))) (if (decide (1 ≤ uses ∧ uses ≤ 8)) = true then 0 else 2) gg W)
  rw [askC_and, hcode] at HFO
  have HUN := Aside0.mk (fun W => unless_q (decide (1 ≤ uses ∧ uses ≤ 8)) 2 W)
  generalize (if (decide (1 ≤ uses ∧ uses ≤ 8)) = true then (0 : Int) else 2) = c2 at *
  generalize decide (1 ≤ uses ∧ uses ≤ 8) = d at *
  generalize askC (houseB f n tub every today) kind n (decide (0 ≤ pieces ∧ pieces ≤ 500)) = c1 at *
  have HOW := Aside0.mk (fun W h => own_calls f n c g tub every today ⟨by omega, hn4⟩ W h)
  have x1 := hG.1 24 (by decide)
  have x2 := hG.le (i := 24) (by decide)
  have y1 := hG.1 u (by omega)
  have y2 := hG.le (i := u) (by omega)
  obtain ⟨hp1, hp2⟩ := hp
  have c24 : ∀ W, Rw W g n f → W.cell? ⟨g, k * 25 + 24, none⟩ = some (.int .i32 (f (k * 25 + 24))) := fun W h => h.rag (q := k) (by omega) hkn rfl
  have C24 := Aside0.mk c24
  have e24 : ∀ W gg, Rw W gg n f → W.cell? ⟨gg, k * 25 + 24, none⟩ = some (.int .i32 (f (k * 25 + 24))) := fun W gg h => h.rag (q := k) (by omega) hkn rfl
  have E24 := Aside0.mk e24
  clear c24 e24
  obtain ⟨x, hx⟩ : ∃ x, f (k * 25 + 24) = x := ⟨_, rfl⟩
  rw [hx] at C24 E24 x1 x2 hrg
  clear hx
  have i1 : IntKind.i64.wrap x = x := IntWalk.i64_in _ ⟨by omega, by omega⟩
  have hk0 : (k : Int) < n := by omega
  have hrg2 : x < pieces := by omega
  subst hk hu
  clear hB hR ht hv hd hcode hG hn
  go_enter Try.func49, Try.ntmps49
  go_wp2_with (first | (refine wl_load (by rfl) 40 _ (by rfl) (w.heap.size) 0 (by rfl) 40 4 [.slice (some ⟨g, 0, none⟩) n c, .int .i16 tub, .int .i8 every, .int .i16 today] [.slice (some ⟨g, 0, none⟩) n c, .int .i16 tub, .int .i8 every, .int .i16 today] (by with_reducible repeat (first | exact HB0.out | refine Blk.alloc ?_ _ | refine Rw.alloc ?_ _ | refine Arg.alloc ?_ _ | apply below_alloc | refine Blk.drew ?_ | refine Rw.drew ?_ | refine Arg.drew ?_ | apply below_drew | refine Blk.drewN ?_ _ | refine Rw.drewN ?_ _ | refine Arg.drewN ?_ _ | apply pw_below_drewN)) (by rfl) (by rfl) _ Try.underlying40 (by rfl) (by kernel_rfl) ?_))
  refine (HK.out _ (by with_reducible repeat (first | exact HR0.out | refine Blk.alloc ?_ _ | refine Rw.alloc ?_ _ | refine Arg.alloc ?_ _ | apply below_alloc | refine Blk.drew ?_ | refine Rw.drew ?_ | refine Arg.drew ?_ | apply below_drew | refine Blk.drewN ?_ _ | refine Rw.drewN ?_ _ | refine Arg.drewN ?_ _ | apply pw_below_drewN))).mono ?_
  rintro e w1 ⟨rfl, hb⟩
  replace HB0 : Aside0 (Blk w1 (w.heap.size) 40 [.slice (some ⟨g, 0, none⟩) n c, .int .i16 tub, .int .i8 every, .int .i16 today]) := ⟨Blk.below (by with_reducible repeat (first | exact HB0.out | refine Blk.alloc ?_ _ | refine Rw.alloc ?_ _ | refine Arg.alloc ?_ _ | apply below_alloc | refine Blk.drew ?_ | refine Rw.drew ?_ | refine Arg.drew ?_ | apply below_drew | refine Blk.drewN ?_ _ | refine Rw.drewN ?_ _ | refine Arg.drewN ?_ _ | apply pw_below_drewN)) hb⟩
  replace HO : Aside0 (Blk w1 (w.heap.size + 1) 40 [.slice none 0 0, .int .i16 0, .int .i8 0, .int .i16 0]) := ⟨Blk.below (by with_reducible repeat (first | exact HO.out | refine Blk.alloc ?_ _ | refine Rw.alloc ?_ _ | refine Arg.alloc ?_ _ | apply below_alloc | refine Blk.drew ?_ | refine Rw.drew ?_ | refine Arg.drew ?_ | apply below_drew | refine Blk.drewN ?_ _ | refine Rw.drewN ?_ _ | refine Arg.drewN ?_ _ | apply pw_below_drewN)) hb⟩
  replace HR0 : Aside0 (Rw w1 g n f) := ⟨Rw.below (by with_reducible repeat (first | exact HR0.out | refine Blk.alloc ?_ _ | refine Rw.alloc ?_ _ | refine Arg.alloc ?_ _ | apply below_alloc | refine Blk.drew ?_ | refine Rw.drew ?_ | refine Arg.drew ?_ | apply below_drew | refine Blk.drewN ?_ _ | refine Rw.drewN ?_ _ | refine Arg.drewN ?_ _ | apply pw_below_drewN)) hb⟩
  replace HW : Aside0 (Below w.heap.size w w1) := ⟨below_step (by with_reducible repeat (first | exact HW.out | refine Blk.alloc ?_ _ | refine Rw.alloc ?_ _ | refine Arg.alloc ?_ _ | apply below_alloc | refine Blk.drew ?_ | refine Rw.drew ?_ | refine Arg.drew ?_ | apply below_drew | refine Blk.drewN ?_ _ | refine Rw.drewN ?_ _ | refine Arg.drewN ?_ _ | apply pw_below_drewN)) hb⟩
  clear hb
  go_wp2_with (first | (go_at_call 70; refine (HIN.out _).mono ?_; rintro e w' ⟨rfl, rfl⟩) | (go_at_call 84; refine (HUN.out _).mono ?_; rintro e w' ⟨rfl, rfl⟩))
  refine (HFO.out _ _ (fun j hj => by match j, hj with | 0, _ => (first | rfl | (simp; done)) | 1, _ => (first | rfl | (simp; done)))).mono ?_
  rintro e w2 ⟨rfl, hb⟩
  replace HB0 : Aside0 (Blk w2 (w.heap.size) 40 [.slice (some ⟨g, 0, none⟩) n c, .int .i16 tub, .int .i8 every, .int .i16 today]) := ⟨Blk.below (by with_reducible repeat (first | exact HB0.out | refine Blk.alloc ?_ _ | refine Rw.alloc ?_ _ | refine Arg.alloc ?_ _ | apply below_alloc | refine Blk.drew ?_ | refine Rw.drew ?_ | refine Arg.drew ?_ | apply below_drew | refine Blk.drewN ?_ _ | refine Rw.drewN ?_ _ | refine Arg.drewN ?_ _ | apply pw_below_drewN)) hb⟩
  replace HO : Aside0 (Blk w2 (w.heap.size + 1) 40 [.slice none 0 0, .int .i16 0, .int .i8 0, .int .i16 0]) := ⟨Blk.below (by with_reducible repeat (first | exact HO.out | refine Blk.alloc ?_ _ | refine Rw.alloc ?_ _ | refine Arg.alloc ?_ _ | apply below_alloc | refine Blk.drew ?_ | refine Rw.drew ?_ | refine Arg.drew ?_ | apply below_drew | refine Blk.drewN ?_ _ | refine Rw.drewN ?_ _ | refine Arg.drewN ?_ _ | apply pw_below_drewN)) hb⟩
  replace HR0 : Aside0 (Rw w2 g n f) := ⟨Rw.below (by with_reducible repeat (first | exact HR0.out | refine Blk.alloc ?_ _ | refine Rw.alloc ?_ _ | refine Arg.alloc ?_ _ | apply below_alloc | refine Blk.drew ?_ | refine Rw.drew ?_ | refine Arg.drew ?_ | apply below_drew | refine Blk.drewN ?_ _ | refine Rw.drewN ?_ _ | refine Arg.drewN ?_ _ | apply pw_below_drewN)) hb⟩
  replace HW : Aside0 (Below w.heap.size w w2) := ⟨below_step (by with_reducible repeat (first | exact HW.out | refine Blk.alloc ?_ _ | refine Rw.alloc ?_ _ | refine Arg.alloc ?_ _ | apply below_alloc | refine Blk.drew ?_ | refine Rw.drew ?_ | refine Arg.drew ?_ | apply below_drew | refine Blk.drewN ?_ _ | refine Rw.drewN ?_ _ | refine Arg.drewN ?_ _ | apply pw_below_drewN)) hb⟩
  clear hb
  go_wp2_with (first | (refine wl_load (by rfl) 40 _ (by rfl) (w.heap.size) 0 (by rfl) 40 4 [.slice (some ⟨g, 0, none⟩) n c, .int .i16 tub, .int .i8 every, .int .i16 today] [.slice (some ⟨g, 0, none⟩) n c, .int .i16 tub, .int .i8 every, .int .i16 today] (by with_reducible repeat (first | exact HB0.out | refine Blk.alloc ?_ _ | refine Rw.alloc ?_ _ | refine Arg.alloc ?_ _ | apply below_alloc | refine Blk.drew ?_ | refine Rw.drew ?_ | refine Arg.drew ?_ | apply below_drew | refine Blk.drewN ?_ _ | refine Rw.drewN ?_ _ | refine Arg.drewN ?_ _ | apply pw_below_drewN)) (by rfl) (by rfl) _ Try.underlying40 (by rfl) (by kernel_rfl) ?_))
  refine (HOW.out _ (by with_reducible repeat (first | exact HR0.out | refine Blk.alloc ?_ _ | refine Rw.alloc ?_ _ | refine Arg.alloc ?_ _ | apply below_alloc | refine Blk.drew ?_ | refine Rw.drew ?_ | refine Arg.drew ?_ | apply below_drew | refine Blk.drewN ?_ _ | refine Rw.drewN ?_ _ | refine Arg.drewN ?_ _ | apply pw_below_drewN))).mono ?_
  rintro e w3 ⟨g1, c1, rfl, hg_, hR_, hb⟩
  have l_HR0g1 : g < g1 := Nat.lt_of_lt_of_le (Rw.lt (n := n) (f := f) (by with_reducible repeat (first | exact HR0.out | refine Blk.alloc ?_ _ | refine Rw.alloc ?_ _ | refine Arg.alloc ?_ _ | apply below_alloc | refine Blk.drew ?_ | refine Rw.drew ?_ | refine Arg.drew ?_ | apply below_drew | refine Blk.drewN ?_ _ | refine Rw.drewN ?_ _ | refine Arg.drewN ?_ _ | apply pw_below_drewN))) hg_
  have l_HB0g1 : w.heap.size < g1 := Nat.lt_of_lt_of_le (Blk.lt (t := 40) (cs := [.slice (some ⟨g, 0, none⟩) n c, .int .i16 tub, .int .i8 every, .int .i16 today]) (by with_reducible repeat (first | exact HB0.out | refine Blk.alloc ?_ _ | refine Rw.alloc ?_ _ | refine Arg.alloc ?_ _ | apply below_alloc | refine Blk.drew ?_ | refine Rw.drew ?_ | refine Arg.drew ?_ | apply below_drew | refine Blk.drewN ?_ _ | refine Rw.drewN ?_ _ | refine Arg.drewN ?_ _ | apply pw_below_drewN))) hg_
  have l_HOg1 : w.heap.size + 1 < g1 := Nat.lt_of_lt_of_le (Blk.lt (t := 40) (cs := [.slice none 0 0, .int .i16 0, .int .i8 0, .int .i16 0]) (by with_reducible repeat (first | exact HO.out | refine Blk.alloc ?_ _ | refine Rw.alloc ?_ _ | refine Arg.alloc ?_ _ | apply below_alloc | refine Blk.drew ?_ | refine Rw.drew ?_ | refine Arg.drew ?_ | apply below_drew | refine Blk.drewN ?_ _ | refine Rw.drewN ?_ _ | refine Arg.drewN ?_ _ | apply pw_below_drewN))) hg_
  have b_g1 : w.heap.size ≤ g1 := Nat.le_trans (Below.size (by with_reducible repeat (first | exact HW.out | refine Blk.alloc ?_ _ | refine Rw.alloc ?_ _ | refine Arg.alloc ?_ _ | apply below_alloc | refine Blk.drew ?_ | refine Rw.drew ?_ | refine Arg.drew ?_ | apply below_drew | refine Blk.drewN ?_ _ | refine Rw.drewN ?_ _ | refine Arg.drewN ?_ _ | apply pw_below_drewN))) hg_
  replace HB0 : Aside0 (Blk w3 (w.heap.size) 40 [.slice (some ⟨g, 0, none⟩) n c, .int .i16 tub, .int .i8 every, .int .i16 today]) := ⟨Blk.below (by with_reducible repeat (first | exact HB0.out | refine Blk.alloc ?_ _ | refine Rw.alloc ?_ _ | refine Arg.alloc ?_ _ | apply below_alloc | refine Blk.drew ?_ | refine Rw.drew ?_ | refine Arg.drew ?_ | apply below_drew | refine Blk.drewN ?_ _ | refine Rw.drewN ?_ _ | refine Arg.drewN ?_ _ | apply pw_below_drewN)) hb⟩
  replace HO : Aside0 (Blk w3 (w.heap.size + 1) 40 [.slice none 0 0, .int .i16 0, .int .i8 0, .int .i16 0]) := ⟨Blk.below (by with_reducible repeat (first | exact HO.out | refine Blk.alloc ?_ _ | refine Rw.alloc ?_ _ | refine Arg.alloc ?_ _ | apply below_alloc | refine Blk.drew ?_ | refine Rw.drew ?_ | refine Arg.drew ?_ | apply below_drew | refine Blk.drewN ?_ _ | refine Rw.drewN ?_ _ | refine Arg.drewN ?_ _ | apply pw_below_drewN)) hb⟩
  replace HR0 : Aside0 (Rw w3 g n f) := ⟨Rw.below (by with_reducible repeat (first | exact HR0.out | refine Blk.alloc ?_ _ | refine Rw.alloc ?_ _ | refine Arg.alloc ?_ _ | apply below_alloc | refine Blk.drew ?_ | refine Rw.drew ?_ | refine Arg.drew ?_ | apply below_drew | refine Blk.drewN ?_ _ | refine Rw.drewN ?_ _ | refine Arg.drewN ?_ _ | apply pw_below_drewN)) hb⟩
  replace HW : Aside0 (Below w.heap.size w w3) := ⟨below_step (by with_reducible repeat (first | exact HW.out | refine Blk.alloc ?_ _ | refine Rw.alloc ?_ _ | refine Arg.alloc ?_ _ | apply below_alloc | refine Blk.drew ?_ | refine Rw.drew ?_ | refine Arg.drew ?_ | apply below_drew | refine Blk.drewN ?_ _ | refine Rw.drewN ?_ _ | refine Arg.drewN ?_ _ | apply pw_below_drewN)) hb⟩
  clear hb
  have HR1 := Aside0.mk hR_
  clear hR_ hg_
  have l_g1 : g1 < w3.heap.size := Rw.lt HR1.out
  have e24 := E24.out _ _ (HR1.out.alloc (.cells #[.slice (some ⟨g1, 0, none⟩) n c1, .int .i16 tub, .int .i8 every, .int .i16 today] 40))
  have s24 := (HR1.out.alloc (.cells #[.slice (some ⟨g1, 0, none⟩) n c1, .int .i16 tub, .int .i8 every, .int .i16 today] 40)).frozen (k * 25 + 24)
  have c0 := (Blk.new w3 40 [.slice (some ⟨g1, 0, none⟩) n c1, .int .i16 tub, .int .i8 every, .int .i16 today]).cell 0 (v := .slice (some ⟨g1, 0, none⟩) n c1) rfl
  go_wp2_with (first | (refine wl_store (by rfl) 40 _ _ (by rfl) (w.heap.size + 1) 0 (by rfl) 40 4 [.slice none 0 0, .int .i16 0, .int .i8 0, .int .i16 0] [.slice none 0 0, .int .i16 0, .int .i8 0, .int .i16 0] (by rfl) (by with_reducible repeat (first | exact HO.out | refine Blk.alloc ?_ _ | refine Rw.alloc ?_ _ | refine Arg.alloc ?_ _ | apply below_alloc | refine Blk.drew ?_ | refine Rw.drew ?_ | refine Arg.drew ?_ | apply below_drew | refine Blk.drewN ?_ _ | refine Rw.drewN ?_ _ | refine Arg.drewN ?_ _ | apply pw_below_drewN)) (by rfl) (by decide) (by kernel_rfl) (by rfl) ?_; intro w9 hw_ hg_; have HO9 : Aside0 (Blk w9 (w.heap.size + 1) 40 [.slice none 0 0, .int .i16 0, .int .i8 0, .int .i16 0]) := ⟨Blk.all hw_ (by decide)⟩; have HW9 : Aside0 (Below w.heap.size w w9) := ⟨below_grown (by with_reducible repeat (first | exact HW.out | refine Blk.alloc ?_ _ | refine Rw.alloc ?_ _ | refine Arg.alloc ?_ _ | apply below_alloc | refine Blk.drew ?_ | refine Rw.drew ?_ | refine Arg.drew ?_ | apply below_drew | refine Blk.drewN ?_ _ | refine Rw.drewN ?_ _ | refine Arg.drewN ?_ _ | apply pw_below_drewN)) (by omega) (Below.size (by with_reducible repeat (first | exact HW.out | refine Blk.alloc ?_ _ | refine Rw.alloc ?_ _ | refine Arg.alloc ?_ _ | apply below_alloc | refine Blk.drew ?_ | refine Rw.drew ?_ | refine Arg.drew ?_ | apply below_drew | refine Blk.drewN ?_ _ | refine Rw.drewN ?_ _ | refine Arg.drewN ?_ _ | apply pw_below_drewN))) hg_⟩; have HR09 : Aside0 (Rw w9 g n f) := ⟨Rw.grown (by with_reducible repeat (first | exact HR0.out | refine Blk.alloc ?_ _ | refine Rw.alloc ?_ _ | refine Arg.alloc ?_ _ | apply below_alloc | refine Blk.drew ?_ | refine Rw.drew ?_ | refine Arg.drew ?_ | apply below_drew | refine Blk.drewN ?_ _ | refine Rw.drewN ?_ _ | refine Arg.drewN ?_ _ | apply pw_below_drewN)) hg_ (by intro h_; injection h_ with h_; omega)⟩; have HR19 : Aside0 (Rw w9 g1 n f) := ⟨Rw.grown (by with_reducible repeat (first | exact HR1.out | refine Blk.alloc ?_ _ | refine Rw.alloc ?_ _ | refine Arg.alloc ?_ _ | apply below_alloc | refine Blk.drew ?_ | refine Rw.drew ?_ | refine Arg.drew ?_ | apply below_drew | refine Blk.drewN ?_ _ | refine Rw.drewN ?_ _ | refine Arg.drewN ?_ _ | apply pw_below_drewN)) hg_ (by intro h_; injection h_ with h_; omega)⟩; clear hw_ hg_))
  refine bodyPost_ret (v := .tuple #[.agg #[.slice none 0 0, .int .i16 0, .int .i8 0, .int .i16 0], .int .i64 4]) (results_cell2 (by rfl) _ _ (w.heap.size + 1) [.slice none 0 0, .int .i16 0, .int .i8 0, .int .i16 0] _ _ (by rfl) (by rfl) HO9.out.whole Try.underlying40 (by rfl) (by kernel_rfl)) rfl ⟨rfl, HW9.out⟩
set_option maxHeartbeats 8000000 in
set_option maxRecDepth 100000 in
theorem implMR_ok (f : Nat → Int) (n c g : Nat) (tub every today : Int) (kind pieces uses : Int) (hn : n ≤ 1048576) (hR : Rng f n) (ht : -32768 ≤ tub ∧ tub ≤ 32767) (hv : -128 ≤ every ∧ every ≤ 127) (hd : -32768 ≤ today ∧ today ≤ 32767) (k u : Nat) (hk : kind = (k : Int)) (hu : uses = (u : Int) + 1) (hkn : k < n) (hn4 : n ≤ 4) (hu8 : u < 8) (hG : Good f (k * 25)) (hp : 0 ≤ pieces ∧ pieces ≤ 500) (hcode : askC (houseB f n tub every today) kind n ((decide (0 ≤ pieces ∧ pieces ≤ 500)) && (decide (1 ≤ uses ∧ uses ≤ 8))) = 0) (hrg : pieces ≤ f (k * 25 + 24)) (w : World) (hB : Rw w g n f) :
    Calls Try.prog 49 #[.agg #[.slice (some ⟨g, 0, none⟩) n c, .int .i16 tub, .int .i8 every, .int .i16 today], .int .i64 kind, .int .i64 pieces, .int .i64 uses] w fun e w' => ∃ g' c', e = .returned (.tuple #[.agg #[.slice (some ⟨g', 0, none⟩) n c', .int .i16 tub, .int .i8 every, .int .i16 today], .int .i64 0]) ∧ w.heap.size ≤ g' ∧ Rw w' g' n (mendF f (k * 25) u pieces) ∧ Below w.heap.size w w' := by
  have HB0 : Aside0 (Blk ((w.alloc (.cells #[.slice (some ⟨g, 0, none⟩) n c, .int .i16 tub, .int .i8 every, .int .i16 today] 40)).alloc (.cells #[.slice none 0 0, .int .i16 0, .int .i8 0, .int .i16 0] 40)) w.heap.size 40 [.slice (some ⟨g, 0, none⟩) n c, .int .i16 tub, .int .i8 every, .int .i16 today]) := ⟨(Blk.new w _ _).alloc _⟩
  have HO : Aside0 (Blk ((w.alloc (.cells #[.slice (some ⟨g, 0, none⟩) n c, .int .i16 tub, .int .i8 every, .int .i16 today] 40)).alloc (.cells #[.slice none 0 0, .int .i16 0, .int .i8 0, .int .i16 0] 40)) (w.heap.size + 1) 40 [.slice none 0 0, .int .i16 0, .int .i8 0, .int .i16 0]) := ⟨Blk.at_ (by simp) rfl⟩
  have HW : Aside0 (Below w.heap.size w ((w.alloc (.cells #[.slice (some ⟨g, 0, none⟩) n c, .int .i16 tub, .int .i8 every, .int .i16 today] 40)).alloc (.cells #[.slice none 0 0, .int .i16 0, .int .i8 0, .int .i16 0] 40))) := ⟨below_alloc (below_alloc (Below.refl _ _) _) _⟩
  have HR0 : Aside0 (Rw ((w.alloc (.cells #[.slice (some ⟨g, 0, none⟩) n c, .int .i16 tub, .int .i8 every, .int .i16 today] 40)).alloc (.cells #[.slice none 0 0, .int .i16 0, .int .i8 0, .int .i16 0] 40)) g n f) := ⟨(hB.alloc _).alloc _⟩
  have hl0 := hB.lt
  have HK := Aside0.mk (fun W h => kindCode_calls f n c g tub every today kind pieces hn hR ht hv hd W h)
  have HIN := Aside0.mk (fun W => within_q uses 1 8 W)
  have HFO := Aside0.mk (fun W gg => firstOf_two (askC (houseB f n tub every today) kind n (decide (0 ≤ pieces ∧ pieces ≤ 500))) (if (decide (1 ≤ uses ∧ uses ≤ 8)) = true then 0 else 2) gg W)
  rw [askC_and, hcode] at HFO
  have HUN := Aside0.mk (fun W => unless_q (decide (1 ≤ uses ∧ uses ≤ 8)) 2 W)
  generalize (if (decide (1 ≤ uses ∧ uses ≤ 8)) = true then (0 : Int) else 2) = c2 at *
  generalize decide (1 ≤ uses ∧ uses ≤ 8) = d at *
  generalize askC (houseB f n tub every today) kind n (decide (0 ≤ pieces ∧ pieces ≤ 500)) = c1 at *
  have HOW := Aside0.mk (fun W h => own_calls f n c g tub every today ⟨by omega, hn4⟩ W h)
  have x1 := hG.1 24 (by decide)
  have x2 := hG.le (i := 24) (by decide)
  have y1 := hG.1 u (by omega)
  have y2 := hG.le (i := u) (by omega)
  obtain ⟨hp1, hp2⟩ := hp
  have HF : Aside0 (mendF f (k * 25) u pieces = upd (upd f (k * 25 + 24) (f (k * 25 + 24) - pieces)) (k * 25 + u) (f (k * 25 + u) + pieces)) := ⟨rfl⟩
  have HY : Aside0 ((upd f (k * 25 + 24) (f (k * 25 + 24) - pieces)) (k * 25 + u) = f (k * 25 + u)) := ⟨by rw [upd_at, if_neg (by omega)]⟩
  obtain ⟨F, hF⟩ : ∃ F, mendF f (k * 25) u pieces = F := ⟨_, rfl⟩
  rw [hF] at HF ⊢
  clear hF
  obtain ⟨y, hy⟩ : ∃ y, f (k * 25 + u) = y := ⟨_, rfl⟩
  rw [hy] at HF HY y1 y2
  clear hy
  have c24 : ∀ W, Rw W g n f → W.cell? ⟨g, k * 25 + 24, none⟩ = some (.int .i32 (f (k * 25 + 24))) := fun W h => h.rag (q := k) (by omega) hkn rfl
  have C24 := Aside0.mk c24
  have e24 : ∀ W gg, Rw W gg n f → W.cell? ⟨gg, k * 25 + 24, none⟩ = some (.int .i32 (f (k * 25 + 24))) := fun W gg h => h.rag (q := k) (by omega) hkn rfl
  have E24 := Aside0.mk e24
  clear c24 e24
  obtain ⟨x, hx⟩ : ∃ x, f (k * 25 + 24) = x := ⟨_, rfl⟩
  rw [hx] at C24 E24 x1 x2 hrg HF HY
  clear hx
  have i1 : IntKind.i64.wrap x = x := IntWalk.i64_in _ ⟨by omega, by omega⟩
  obtain ⟨F1, hF1⟩ : ∃ F1, F1 = upd f (k * 25 + 24) (x - pieces) := ⟨_, rfl⟩
  have HF1 := Aside0.mk hF1
  rw [← hF1] at HF HY
  clear hF1
  have i2 : IntKind.i32.wrap pieces = pieces := IntWalk.i32_in _ ⟨by omega, by omega⟩
  have i3 : IntKind.i32.wrap (x - pieces) = x - pieces := IntWalk.i32_in _ ⟨by omega, by omega⟩
  have i4 : IntKind.i64.wrap ((u : Int) + 1 - 1) = (u : Int) := by rw [show (u : Int) + 1 - 1 = u by omega]; exact IntWalk.i64_in _ ⟨by omega, by omega⟩
  have i7 : IntKind.i64.wrap (u : Int) = (u : Int) := IntWalk.i64_in _ ⟨by omega, by omega⟩
  have i5 : IntKind.i16.wrap pieces = pieces := IntWalk.i16_in _ ⟨by omega, by omega⟩
  have i6 : IntKind.i16.wrap (y + pieces) = y + pieces := IntWalk.i16_in _ ⟨by omega, by omega⟩
  have hu0 : (0 : Int) ≤ (u : Int) := by omega
  have hu9 : (u : Int) < 8 := by omega
  have hk0 : (k : Int) < n := by omega
  have hrg2 : ¬ (x < pieces) := by omega
  subst hk hu
  clear hB hR ht hv hd hcode hG hn
  go_enter Try.func49, Try.ntmps49
  go_wp2_with (first | (refine wl_load (by rfl) 40 _ (by rfl) (w.heap.size) 0 (by rfl) 40 4 [.slice (some ⟨g, 0, none⟩) n c, .int .i16 tub, .int .i8 every, .int .i16 today] [.slice (some ⟨g, 0, none⟩) n c, .int .i16 tub, .int .i8 every, .int .i16 today] (by with_reducible repeat (first | exact HB0.out | refine Blk.alloc ?_ _ | refine Rw.alloc ?_ _ | refine Arg.alloc ?_ _ | apply below_alloc | refine Blk.drew ?_ | refine Rw.drew ?_ | refine Arg.drew ?_ | apply below_drew | refine Blk.drewN ?_ _ | refine Rw.drewN ?_ _ | refine Arg.drewN ?_ _ | apply pw_below_drewN)) (by rfl) (by rfl) _ Try.underlying40 (by rfl) (by kernel_rfl) ?_))
  refine (HK.out _ (by with_reducible repeat (first | exact HR0.out | refine Blk.alloc ?_ _ | refine Rw.alloc ?_ _ | refine Arg.alloc ?_ _ | apply below_alloc | refine Blk.drew ?_ | refine Rw.drew ?_ | refine Arg.drew ?_ | apply below_drew | refine Blk.drewN ?_ _ | refine Rw.drewN ?_ _ | refine Arg.drewN ?_ _ | apply pw_below_drewN))).mono ?_
  rintro e w1 ⟨rfl, hb⟩
  replace HB0 : Aside0 (Blk w1 (w.heap.size) 40 [.slice (some ⟨g, 0, none⟩) n c, .int .i16 tub, .int .i8 every, .int .i16 today]) := ⟨Blk.below (by with_reducible repeat (first | exact HB0.out | refine Blk.alloc ?_ _ | refine Rw.alloc ?_ _ | refine Arg.alloc ?_ _ | apply below_alloc | refine Blk.drew ?_ | refine Rw.drew ?_ | refine Arg.drew ?_ | apply below_drew | refine Blk.drewN ?_ _ | refine Rw.drewN ?_ _ | refine Arg.drewN ?_ _ | apply pw_below_drewN)) hb⟩
  replace HO : Aside0 (Blk w1 (w.heap.size + 1) 40 [.slice none 0 0, .int .i16 0, .int .i8 0, .int .i16 0]) := ⟨Blk.below (by with_reducible repeat (first | exact HO.out | refine Blk.alloc ?_ _ | refine Rw.alloc ?_ _ | refine Arg.alloc ?_ _ | apply below_alloc | refine Blk.drew ?_ | refine Rw.drew ?_ | refine Arg.drew ?_ | apply below_drew | refine Blk.drewN ?_ _ | refine Rw.drewN ?_ _ | refine Arg.drewN ?_ _ | apply pw_below_drewN)) hb⟩
  replace HR0 : Aside0 (Rw w1 g n f) := ⟨Rw.below (by with_reducible repeat (first | exact HR0.out | refine Blk.alloc ?_ _ | refine Rw.alloc ?_ _ | refine Arg.alloc ?_ _ | apply below_alloc | refine Blk.drew ?_ | refine Rw.drew ?_ | refine Arg.drew ?_ | apply below_drew | refine Blk.drewN ?_ _ | refine Rw.drewN ?_ _ | refine Arg.drewN ?_ _ | apply pw_below_drewN)) hb⟩
  replace HW : Aside0 (Below w.heap.size w w1) := ⟨below_step (by with_reducible repeat (first | exact HW.out | refine Blk.alloc ?_ _ | refine Rw.alloc ?_ _ | refine Arg.alloc ?_ _ | apply below_alloc | refine Blk.drew ?_ | refine Rw.drew ?_ | refine Arg.drew ?_ | apply below_drew | refine Blk.drewN ?_ _ | refine Rw.drewN ?_ _ | refine Arg.drewN ?_ _ | apply pw_below_drewN)) hb⟩
  clear hb
  go_wp2_with (first | (go_at_call 70; refine (HIN.out _).mono ?_; rintro e w' ⟨rfl, rfl⟩) | (go_at_call 84; refine (HUN.out _).mono ?_; rintro e w' ⟨rfl, rfl⟩))
  refine (HFO.out _ _ (fun j hj => by match j, hj with | 0, _ => (first | rfl | (simp; done)) | 1, _ => (first | rfl | (simp; done)))).mono ?_
  rintro e w2 ⟨rfl, hb⟩
  replace HB0 : Aside0 (Blk w2 (w.heap.size) 40 [.slice (some ⟨g, 0, none⟩) n c, .int .i16 tub, .int .i8 every, .int .i16 today]) := ⟨Blk.below (by with_reducible repeat (first | exact HB0.out | refine Blk.alloc ?_ _ | refine Rw.alloc ?_ _ | refine Arg.alloc ?_ _ | apply below_alloc | refine Blk.drew ?_ | refine Rw.drew ?_ | refine Arg.drew ?_ | apply below_drew | refine Blk.drewN ?_ _ | refine Rw.drewN ?_ _ | refine Arg.drewN ?_ _ | apply pw_below_drewN)) hb⟩
  replace HO : Aside0 (Blk w2 (w.heap.size + 1) 40 [.slice none 0 0, .int .i16 0, .int .i8 0, .int .i16 0]) := ⟨Blk.below (by with_reducible repeat (first | exact HO.out | refine Blk.alloc ?_ _ | refine Rw.alloc ?_ _ | refine Arg.alloc ?_ _ | apply below_alloc | refine Blk.drew ?_ | refine Rw.drew ?_ | refine Arg.drew ?_ | apply below_drew | refine Blk.drewN ?_ _ | refine Rw.drewN ?_ _ | refine Arg.drewN ?_ _ | apply pw_below_drewN)) hb⟩
  replace HR0 : Aside0 (Rw w2 g n f) := ⟨Rw.below (by with_reducible repeat (first | exact HR0.out | refine Blk.alloc ?_ _ | refine Rw.alloc ?_ _ | refine Arg.alloc ?_ _ | apply below_alloc | refine Blk.drew ?_ | refine Rw.drew ?_ | refine Arg.drew ?_ | apply below_drew | refine Blk.drewN ?_ _ | refine Rw.drewN ?_ _ | refine Arg.drewN ?_ _ | apply pw_below_drewN)) hb⟩
  replace HW : Aside0 (Below w.heap.size w w2) := ⟨below_step (by with_reducible repeat (first | exact HW.out | refine Blk.alloc ?_ _ | refine Rw.alloc ?_ _ | refine Arg.alloc ?_ _ | apply below_alloc | refine Blk.drew ?_ | refine Rw.drew ?_ | refine Arg.drew ?_ | apply below_drew | refine Blk.drewN ?_ _ | refine Rw.drewN ?_ _ | refine Arg.drewN ?_ _ | apply pw_below_drewN)) hb⟩
  clear hb
  go_wp2_with (first | (refine wl_load (by rfl) 40 _ (by rfl) (w.heap.size) 0 (by rfl) 40 4 [.slice (some ⟨g, 0, none⟩) n c, .int .i16 tub, .int .i8 every, .int .i16 today] [.slice (some ⟨g, 0, none⟩) n c, .int .i16 tub, .int .i8 every, .int .i16 today] (by with_reducible repeat (first | exact HB0.out | refine Blk.alloc ?_ _ | refine Rw.alloc ?_ _ | refine Arg.alloc ?_ _ | apply below_alloc | refine Blk.drew ?_ | refine Rw.drew ?_ | refine Arg.drew ?_ | apply below_drew | refine Blk.drewN ?_ _ | refine Rw.drewN ?_ _ | refine Arg.drewN ?_ _ | apply pw_below_drewN)) (by rfl) (by rfl) _ Try.underlying40 (by rfl) (by kernel_rfl) ?_))
  refine (HOW.out _ (by with_reducible repeat (first | exact HR0.out | refine Blk.alloc ?_ _ | refine Rw.alloc ?_ _ | refine Arg.alloc ?_ _ | apply below_alloc | refine Blk.drew ?_ | refine Rw.drew ?_ | refine Arg.drew ?_ | apply below_drew | refine Blk.drewN ?_ _ | refine Rw.drewN ?_ _ | refine Arg.drewN ?_ _ | apply pw_below_drewN))).mono ?_
  rintro e w3 ⟨g1, c1, rfl, hg_, hR_, hb⟩
  have l_HR0g1 : g < g1 := Nat.lt_of_lt_of_le (Rw.lt (n := n) (f := f) (by with_reducible repeat (first | exact HR0.out | refine Blk.alloc ?_ _ | refine Rw.alloc ?_ _ | refine Arg.alloc ?_ _ | apply below_alloc | refine Blk.drew ?_ | refine Rw.drew ?_ | refine Arg.drew ?_ | apply below_drew | refine Blk.drewN ?_ _ | refine Rw.drewN ?_ _ | refine Arg.drewN ?_ _ | apply pw_below_drewN))) hg_
  have l_HB0g1 : w.heap.size < g1 := Nat.lt_of_lt_of_le (Blk.lt (t := 40) (cs := [.slice (some ⟨g, 0, none⟩) n c, .int .i16 tub, .int .i8 every, .int .i16 today]) (by with_reducible repeat (first | exact HB0.out | refine Blk.alloc ?_ _ | refine Rw.alloc ?_ _ | refine Arg.alloc ?_ _ | apply below_alloc | refine Blk.drew ?_ | refine Rw.drew ?_ | refine Arg.drew ?_ | apply below_drew | refine Blk.drewN ?_ _ | refine Rw.drewN ?_ _ | refine Arg.drewN ?_ _ | apply pw_below_drewN))) hg_
  have l_HOg1 : w.heap.size + 1 < g1 := Nat.lt_of_lt_of_le (Blk.lt (t := 40) (cs := [.slice none 0 0, .int .i16 0, .int .i8 0, .int .i16 0]) (by with_reducible repeat (first | exact HO.out | refine Blk.alloc ?_ _ | refine Rw.alloc ?_ _ | refine Arg.alloc ?_ _ | apply below_alloc | refine Blk.drew ?_ | refine Rw.drew ?_ | refine Arg.drew ?_ | apply below_drew | refine Blk.drewN ?_ _ | refine Rw.drewN ?_ _ | refine Arg.drewN ?_ _ | apply pw_below_drewN))) hg_
  have b_g1 : w.heap.size ≤ g1 := Nat.le_trans (Below.size (by with_reducible repeat (first | exact HW.out | refine Blk.alloc ?_ _ | refine Rw.alloc ?_ _ | refine Arg.alloc ?_ _ | apply below_alloc | refine Blk.drew ?_ | refine Rw.drew ?_ | refine Arg.drew ?_ | apply below_drew | refine Blk.drewN ?_ _ | refine Rw.drewN ?_ _ | refine Arg.drewN ?_ _ | apply pw_below_drewN))) hg_
  replace HB0 : Aside0 (Blk w3 (w.heap.size) 40 [.slice (some ⟨g, 0, none⟩) n c, .int .i16 tub, .int .i8 every, .int .i16 today]) := ⟨Blk.below (by with_reducible repeat (first | exact HB0.out | refine Blk.alloc ?_ _ | refine Rw.alloc ?_ _ | refine Arg.alloc ?_ _ | apply below_alloc | refine Blk.drew ?_ | refine Rw.drew ?_ | refine Arg.drew ?_ | apply below_drew | refine Blk.drewN ?_ _ | refine Rw.drewN ?_ _ | refine Arg.drewN ?_ _ | apply pw_below_drewN)) hb⟩
  replace HO : Aside0 (Blk w3 (w.heap.size + 1) 40 [.slice none 0 0, .int .i16 0, .int .i8 0, .int .i16 0]) := ⟨Blk.below (by with_reducible repeat (first | exact HO.out | refine Blk.alloc ?_ _ | refine Rw.alloc ?_ _ | refine Arg.alloc ?_ _ | apply below_alloc | refine Blk.drew ?_ | refine Rw.drew ?_ | refine Arg.drew ?_ | apply below_drew | refine Blk.drewN ?_ _ | refine Rw.drewN ?_ _ | refine Arg.drewN ?_ _ | apply pw_below_drewN)) hb⟩
  replace HR0 : Aside0 (Rw w3 g n f) := ⟨Rw.below (by with_reducible repeat (first | exact HR0.out | refine Blk.alloc ?_ _ | refine Rw.alloc ?_ _ | refine Arg.alloc ?_ _ | apply below_alloc | refine Blk.drew ?_ | refine Rw.drew ?_ | refine Arg.drew ?_ | apply below_drew | refine Blk.drewN ?_ _ | refine Rw.drewN ?_ _ | refine Arg.drewN ?_ _ | apply pw_below_drewN)) hb⟩
  replace HW : Aside0 (Below w.heap.size w w3) := ⟨below_step (by with_reducible repeat (first | exact HW.out | refine Blk.alloc ?_ _ | refine Rw.alloc ?_ _ | refine Arg.alloc ?_ _ | apply below_alloc | refine Blk.drew ?_ | refine Rw.drew ?_ | refine Arg.drew ?_ | apply below_drew | refine Blk.drewN ?_ _ | refine Rw.drewN ?_ _ | refine Arg.drewN ?_ _ | apply pw_below_drewN)) hb⟩
  clear hb
  have HR1 := Aside0.mk hR_
  clear hR_ hg_
  have l_g1 : g1 < w3.heap.size := Rw.lt HR1.out
  have e24 := E24.out _ _ (HR1.out.alloc (.cells #[.slice (some ⟨g1, 0, none⟩) n c1, .int .i16 tub, .int .i8 every, .int .i16 today] 40))
  have s24 := (HR1.out.alloc (.cells #[.slice (some ⟨g1, 0, none⟩) n c1, .int .i16 tub, .int .i8 every, .int .i16 today] 40)).frozen (k * 25 + 24)
  have c0 := (Blk.new w3 40 [.slice (some ⟨g1, 0, none⟩) n c1, .int .i16 tub, .int .i8 every, .int .i16 today]).cell 0 (v := .slice (some ⟨g1, 0, none⟩) n c1) rfl
  go_wp2_with fail
  clear e24 s24 c0
  obtain ⟨w6, hw_⟩ : ∃ W_, W_ = w3.setCell ⟨g1, k * 25 + 24, none⟩ (.int .i32 (x - pieces)) := ⟨_, rfl⟩
  rw [← hw_]
  have hs_w6 : w6.heap.size = w3.heap.size := by rw [hw_]; simp
  replace HB0 : Aside0 (Blk w6 (w.heap.size) 40 [.slice (some ⟨g, 0, none⟩) n c, .int .i16 tub, .int .i8 every, .int .i16 today]) := ⟨by rw [hw_]; exact blk_other HB0.out (by omega)⟩
  replace HO : Aside0 (Blk w6 (w.heap.size + 1) 40 [.slice none 0 0, .int .i16 0, .int .i8 0, .int .i16 0]) := ⟨by rw [hw_]; exact blk_other HO.out (by omega)⟩
  replace HR0 : Aside0 (Rw w6 g n f) := ⟨by rw [hw_]; exact Rw.other HR0.out (by omega)⟩
  replace HW : Aside0 (Below w.heap.size w w6) := ⟨by rw [hw_]; exact below_setc HW.out (by omega)⟩
  replace HR1 : Aside0 (Rw w6 g1 n F1) := ⟨by rw [hw_]; exact (by rw [HF1.out]; exact HR1.out.setRag (q := k) (by omega) hkn rfl _)⟩
  clear hw_
  have l_HR0HX : g < w3.heap.size := (by first | exact Rw.lt HR0.out | (have h_ := Rw.lt HR0.out; omega))
  have l_HR1HX : g1 < w3.heap.size := (by first | exact Rw.lt HR1.out | (have h_ := Rw.lt HR1.out; omega))
  refine seq_region 13 (by kernel_rfl) (by kernel_rfl) (fun w7 hw_ => ?_)
  replace HB0 : Aside0 (Blk w7 (w.heap.size) 40 [.slice (some ⟨g, 0, none⟩) n c, .int .i16 tub, .int .i8 every, .int .i16 today]) := ⟨by rw [hw_]; exact (by with_reducible repeat (first | exact HB0.out | refine Blk.alloc ?_ _ | refine Rw.alloc ?_ _ | refine Arg.alloc ?_ _ | apply below_alloc | refine Blk.drew ?_ | refine Rw.drew ?_ | refine Arg.drew ?_ | apply below_drew | refine Blk.drewN ?_ _ | refine Rw.drewN ?_ _ | refine Arg.drewN ?_ _ | apply pw_below_drewN))⟩
  replace HO : Aside0 (Blk w7 (w.heap.size + 1) 40 [.slice none 0 0, .int .i16 0, .int .i8 0, .int .i16 0]) := ⟨by rw [hw_]; exact (by with_reducible repeat (first | exact HO.out | refine Blk.alloc ?_ _ | refine Rw.alloc ?_ _ | refine Arg.alloc ?_ _ | apply below_alloc | refine Blk.drew ?_ | refine Rw.drew ?_ | refine Arg.drew ?_ | apply below_drew | refine Blk.drewN ?_ _ | refine Rw.drewN ?_ _ | refine Arg.drewN ?_ _ | apply pw_below_drewN))⟩
  have HX : Aside0 (Blk w7 (w3.heap.size) 40 [.slice (some ⟨g1, 0, none⟩) n c1, .int .i16 tub, .int .i8 every, .int .i16 today]) := ⟨by rw [hw_]; (repeat (first | exact Blk.at_ (by first | (simp; done) | assumption) rfl | refine Blk.alloc ?_ _ | refine Blk.drew ?_))⟩
  replace HR0 : Aside0 (Rw w7 g n f) := ⟨by rw [hw_]; exact (by with_reducible repeat (first | exact HR0.out | refine Blk.alloc ?_ _ | refine Rw.alloc ?_ _ | refine Arg.alloc ?_ _ | apply below_alloc | refine Blk.drew ?_ | refine Rw.drew ?_ | refine Arg.drew ?_ | apply below_drew | refine Blk.drewN ?_ _ | refine Rw.drewN ?_ _ | refine Arg.drewN ?_ _ | apply pw_below_drewN))⟩
  replace HR1 : Aside0 (Rw w7 g1 n F1) := ⟨by rw [hw_]; exact (by with_reducible repeat (first | exact HR1.out | refine Blk.alloc ?_ _ | refine Rw.alloc ?_ _ | refine Arg.alloc ?_ _ | apply below_alloc | refine Blk.drew ?_ | refine Rw.drew ?_ | refine Arg.drew ?_ | apply below_drew | refine Blk.drewN ?_ _ | refine Rw.drewN ?_ _ | refine Arg.drewN ?_ _ | apply pw_below_drewN))⟩
  replace HW : Aside0 (Below w.heap.size w w7) := ⟨by rw [hw_]; exact (by with_reducible repeat (first | exact HW.out | refine Blk.alloc ?_ _ | refine Rw.alloc ?_ _ | refine Arg.alloc ?_ _ | apply below_alloc | refine Blk.drew ?_ | refine Rw.drew ?_ | refine Arg.drew ?_ | apply below_drew | refine Blk.drewN ?_ _ | refine Rw.drewN ?_ _ | refine Arg.drewN ?_ _ | apply pw_below_drewN))⟩
  clear hw_
  have c0 := HX.out.cell 0 (v := .slice (some ⟨g1, 0, none⟩) n c1) rfl
  have cu := HR1.out.num (o := k * 25) (q := k) (u := u) (j := k * 25 + u) (by omega) hkn (by omega) rfl
  have du := HR1.out.frozen (k * 25 + u)
  rw [HY.out] at cu
  simp only [List.take_succ_cons, List.take_zero, List.drop_succ_cons, List.drop_zero]
  repeat still_step
  try refine wpStill_nil ?_
  replace HB0 : Aside0 (Blk (w7.setCell ⟨g1, k * 25 + u, none⟩ (.int .i16 (y + pieces))) (w.heap.size) 40 [.slice (some ⟨g, 0, none⟩) n c, .int .i16 tub, .int .i8 every, .int .i16 today]) := ⟨blk_other HB0.out (by omega)⟩
  replace HO : Aside0 (Blk (w7.setCell ⟨g1, k * 25 + u, none⟩ (.int .i16 (y + pieces))) (w.heap.size + 1) 40 [.slice none 0 0, .int .i16 0, .int .i8 0, .int .i16 0]) := ⟨blk_other HO.out (by omega)⟩
  replace HX : Aside0 (Blk (w7.setCell ⟨g1, k * 25 + u, none⟩ (.int .i16 (y + pieces))) (w3.heap.size) 40 [.slice (some ⟨g1, 0, none⟩) n c1, .int .i16 tub, .int .i8 every, .int .i16 today]) := ⟨blk_other HX.out (by omega)⟩
  replace HR0 : Aside0 (Rw (w7.setCell ⟨g1, k * 25 + u, none⟩ (.int .i16 (y + pieces))) g n f) := ⟨Rw.other HR0.out (by omega)⟩
  replace HW : Aside0 (Below w.heap.size w (w7.setCell ⟨g1, k * 25 + u, none⟩ (.int .i16 (y + pieces)))) := ⟨below_setc HW.out (by omega)⟩
  replace HR1 : Aside0 (Rw (w7.setCell ⟨g1, k * 25 + u, none⟩ (.int .i16 (y + pieces))) g1 n F) := ⟨(by rw [HF.out]; exact HR1.out.setNum (o := k * 25) (q := k) (u := u) (by omega) hkn (by omega) rfl _)⟩
  go_wp2_with (first | (refine wl_load (by rfl) 40 _ (by rfl) (w3.heap.size) 0 (by rfl) 40 4 [.slice (some ⟨g1, 0, none⟩) n c1, .int .i16 tub, .int .i8 every, .int .i16 today] [.slice (some ⟨g1, 0, none⟩) n c1, .int .i16 tub, .int .i8 every, .int .i16 today] (by with_reducible repeat (first | exact HX.out | refine Blk.alloc ?_ _ | refine Rw.alloc ?_ _ | refine Arg.alloc ?_ _ | apply below_alloc | refine Blk.drew ?_ | refine Rw.drew ?_ | refine Arg.drew ?_ | apply below_drew | refine Blk.drewN ?_ _ | refine Rw.drewN ?_ _ | refine Arg.drewN ?_ _ | apply pw_below_drewN)) (by rfl) (by rfl) _ Try.underlying40 (by rfl) (by kernel_rfl) ?_) | (refine wl_store (by rfl) 40 _ _ (by rfl) (w.heap.size + 1) 0 (by rfl) 40 4 [.slice none 0 0, .int .i16 0, .int .i8 0, .int .i16 0] [.slice (some ⟨g1, 0, none⟩) n c1, .int .i16 tub, .int .i8 every, .int .i16 today] (by rfl) (by with_reducible repeat (first | exact HO.out | refine Blk.alloc ?_ _ | refine Rw.alloc ?_ _ | refine Arg.alloc ?_ _ | apply below_alloc | refine Blk.drew ?_ | refine Rw.drew ?_ | refine Arg.drew ?_ | apply below_drew | refine Blk.drewN ?_ _ | refine Rw.drewN ?_ _ | refine Arg.drewN ?_ _ | apply pw_below_drewN)) (by rfl) (by decide) (by kernel_rfl) (by rfl) ?_; intro w9 hw_ hg_; have HO9 : Aside0 (Blk w9 (w.heap.size + 1) 40 [.slice (some ⟨g1, 0, none⟩) n c1, .int .i16 tub, .int .i8 every, .int .i16 today]) := ⟨Blk.all hw_ (by decide)⟩; have HW9 : Aside0 (Below w.heap.size w w9) := ⟨below_grown (by with_reducible repeat (first | exact HW.out | refine Blk.alloc ?_ _ | refine Rw.alloc ?_ _ | refine Arg.alloc ?_ _ | apply below_alloc | refine Blk.drew ?_ | refine Rw.drew ?_ | refine Arg.drew ?_ | apply below_drew | refine Blk.drewN ?_ _ | refine Rw.drewN ?_ _ | refine Arg.drewN ?_ _ | apply pw_below_drewN)) (by omega) (Below.size (by with_reducible repeat (first | exact HW.out | refine Blk.alloc ?_ _ | refine Rw.alloc ?_ _ | refine Arg.alloc ?_ _ | apply below_alloc | refine Blk.drew ?_ | refine Rw.drew ?_ | refine Arg.drew ?_ | apply below_drew | refine Blk.drewN ?_ _ | refine Rw.drewN ?_ _ | refine Arg.drewN ?_ _ | apply pw_below_drewN))) hg_⟩; have HR09 : Aside0 (Rw w9 g n f) := ⟨Rw.grown (by with_reducible repeat (first | exact HR0.out | refine Blk.alloc ?_ _ | refine Rw.alloc ?_ _ | refine Arg.alloc ?_ _ | apply below_alloc | refine Blk.drew ?_ | refine Rw.drew ?_ | refine Arg.drew ?_ | apply below_drew | refine Blk.drewN ?_ _ | refine Rw.drewN ?_ _ | refine Arg.drewN ?_ _ | apply pw_below_drewN)) hg_ (by intro h_; injection h_ with h_; omega)⟩; have HR19 : Aside0 (Rw w9 g1 n F) := ⟨Rw.grown (by with_reducible repeat (first | exact HR1.out | refine Blk.alloc ?_ _ | refine Rw.alloc ?_ _ | refine Arg.alloc ?_ _ | apply below_alloc | refine Blk.drew ?_ | refine Rw.drew ?_ | refine Arg.drew ?_ | apply below_drew | refine Blk.drewN ?_ _ | refine Rw.drewN ?_ _ | refine Arg.drewN ?_ _ | apply pw_below_drewN)) hg_ (by intro h_; injection h_ with h_; omega)⟩; clear hw_ hg_))
  refine bodyPost_ret (v := .tuple #[.agg #[.slice (some ⟨g1, 0, none⟩) n c1, .int .i16 tub, .int .i8 every, .int .i16 today], .int .i64 0]) (results_cell2 (by rfl) _ _ (w.heap.size + 1) [.slice (some ⟨g1, 0, none⟩) n c1, .int .i16 tub, .int .i8 every, .int .i16 today] _ _ (by rfl) (by rfl) HO9.out.whole Try.underlying40 (by rfl) (by kernel_rfl)) rfl ⟨g1, c1, rfl, b_g1, HR19.out, HW9.out⟩

end Go.Proofs.Ytjmnbikaijphlaa.X
