/- Contracts of functions, and plain facts: what each call answers, and what it leaves as it was. -/
import Derived.Test.YtdepnieanfjhjaaG10
set_option linter.unusedVariables false
set_option linter.unusedSimpArgs false
namespace Go.Proofs.Ytdepnieanfjhjaa.X
open Go.RowKit Go.Proofs.YtdepnieanfjhjaaW.PrintWords Go.Proofs.YtdepnieanfjhjaaW.PrintLast Go.Proofs.YtdepnieanfjhjaaW.PrintMore
attribute [local go_sem] max2_int min2_int max_two min_two max_three min_three max_four min_four
/-- what water a thing that is hung up at q has at the end of the day -/
def leftF (L : List Int) (wet thick : Int) (q : Nat) : Int := beh L thick false q (24 - q) wet
set_option maxHeartbeats 400000 in
set_option maxRecDepth 100000 in
theorem l03Behind_over (L : List Int) (wet thick : Int) (hw : washOk wet thick = true) (h : Nat) (hh : 24 ≤ h) (hm : (h : Int) ≤ 4611686018427387904) (shade : Bool) (g : Nat) (w : World) (hB : Blk w g 33 (nums .i8 L)) :
    Calls Try.prog 43 #[.pointer (some ⟨g, 0, none⟩), .agg #[.int .i16 wet, .int .i8 thick], .int .i64 h, .int .i64 24, .bool shade] w fun e w' => e = .returned (.int .i64 wet) ∧ Below w.heap.size w w' := by
  obtain ⟨⟨hw0, hw1⟩, ht0, ht1⟩ := washOk_iff.1 hw
  have hlt : ¬ (h : Int) < 24 := by omega
  have i2 : IntKind.i64.wrap wet = wet := IntWalk.i64_in _ ⟨by omega, by omega⟩
  clear hw hB
  go_enter Try.func43, Try.ntmps43
  go_wp2
  go_loopw [11, 12] (fun v11 v12 w' => v11 = .int .i64 wet ∧ v12 = .int .i64 h ∧ Aside0 (Below w.heap.size w w')) (fun _ _ _ => 0)
  case atStart => exact ⟨rfl, rfl, ⟨below_alloc (Below.refl _ _) _⟩⟩
  case round =>
    obtain ⟨rfl, rfl, HB⟩ := hrel
    go_wp2
    go_ret
    exact ⟨rfl, HB.out⟩
theorem l03Behind_left (L : List Int) (hL : L.length = 72) (hd : dayOk L = true) (wet thick : Int) (hw : washOk wet thick = true) (q : Nat) (hm : (q : Int) ≤ 4611686018427387904) (g : Nat) (w : World) (hB : Blk w g 33 (nums .i8 L)) :
    Calls Try.prog 43 #[.pointer (some ⟨g, 0, none⟩), .agg #[.int .i16 wet, .int .i8 thick], .int .i64 q, .int .i64 24, .bool false] w fun e w' => e = .returned (.int .i64 (leftF L wet thick q)) ∧ Below w.heap.size w w' := by
  rcases Nat.lt_or_ge 24 q with h | h
  · have := l03Behind_over L wet thick hw q (by omega) hm false g w hB
    unfold leftF
    rw [show 24 - q = 0 by omega]
    exact this
  · exact l03Behind_calls L hL hd wet thick hw q (24 - q) (by omega) 24 (by omega) false g w hB
set_option maxHeartbeats 400000 in
set_option maxRecDepth 100000 in
theorem l03Left_calls (L : List Int) (hL : L.length = 72) (hd : dayOk L = true) (wet thick : Int) (hw : washOk wet thick = true) (q : Nat) (hm : (q : Int) ≤ 4611686018427387904) (g : Nat) (w : World) (hB : Blk w g 33 (nums .i8 L)) :
    Calls Try.prog 31 #[.pointer (some ⟨g, 0, none⟩), .agg #[.int .i16 wet, .int .i8 thick], .int .i64 q] w fun e w' => e = .returned (.int .i64 (leftF L wet thick q)) ∧ Below w.heap.size w w' := by
  have HC := Aside0.mk (l03Behind_left L hL hd wet thick hw q hm g (w.alloc (.cells #[.int .i16 wet, .int .i8 thick] 52)) (hB.alloc _))
  generalize leftF L wet thick q = r at HC
  clear hL hd hw hm hB
  go_enter Try.func31, Try.ntmps31
  go_wp2_with fail
  refine HC.out.mono ?_
  rintro e w1 ⟨rfl, hb⟩
  go_wp2
  go_ret
  exact ⟨rfl, below_step (below_alloc (Below.refl _ _) _) hb⟩
theorem leftF_range {L : List Int} (hd : dayOk L = true) {wet thick : Int} (hw : washOk wet thick = true) (q : Nat) : 0 ≤ leftF L wet thick q ∧ leftF L wet thick q ≤ 1000 := by
  obtain ⟨⟨hw0, hw1⟩, ht0, ht1⟩ := washOk_iff.1 hw
  exact beh_range hd ht0 _ _ _ hw0 hw1
/-- what thing i costs at place k, when the first one is hung up at h -/
def lfF (L : List Int) (ws : List S52) (h : Nat) (i k : Nat) : Int := leftF L (ws.getD i ⟨0, 1⟩).f0 (ws.getD i ⟨0, 1⟩).f1 (h + k)
theorem lfF_ok {L : List Int} (hd : dayOk L = true) {ws : List S52} (hw : ∀ x ∈ ws, washOk x.f0 x.f1 = true) (h : Nat) : LfOk (lfF L ws h) := by
  intro i k
  unfold lfF
  refine leftF_range hd ?_ _
  rcases Nat.lt_or_ge i ws.length with hi | hi
  · rw [List.getD_eq_getElem?_getD, List.getElem?_eq_getElem hi]; exact hw _ (List.getElem_mem hi)
  · rw [List.getD_eq_getElem?_getD, List.getElem?_eq_none hi]; decide
end Go.Proofs.Ytdepnieanfjhjaa.X
