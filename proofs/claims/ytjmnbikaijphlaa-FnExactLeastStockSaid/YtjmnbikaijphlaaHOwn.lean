/- Contracts of functions, and plain facts: what each call answers, and what it leaves as it was. -/
import Derived.Test.YtjmnbikaijphlaaHTo
import Derived.Test.YtjmnbikaijphlaaHSmall
import Derived.Deep.AppendLies
set_option linter.unusedVariables false
set_option linter.unusedSimpArgs false
namespace Go.Proofs.Ytjmnbikaijphlaa.X
open Go.RowKit Go.Proofs.YtjmnbikaijphlaaW.PrintWords Go.Proofs.YtjmnbikaijphlaaW.PrintLast Go.Proofs.YtjmnbikaijphlaaW.PrintMore
attribute [local go_sem] max2_int min2_int max_two min_two max_three min_three max_four min_four
set_option maxHeartbeats 8000000 in
set_option maxRecDepth 100000 in
theorem clone_calls (n c g : Nat) (f : Nat → Int) (hn : 0 < n ∧ n ≤ 4) (w : World) (hB : Rw w g n f) :
    Calls Try.prog 116 #[.slice (some ⟨g, 0, none⟩) n c] w fun e w' => ∃ g' c', e = .returned (.slice (some ⟨g', 0, none⟩) n c') ∧ w.heap.size ≤ g' ∧ Rw w' g' n f ∧ Below w.heap.size w w' := by
  have HB := Aside0.mk hB
  obtain ⟨hn0, hn4⟩ := hn
  obtain ⟨i0, hi, hz0, hz1, hz2⟩ := info_parts stockInfo
  have HI := Aside0.mk (And.intro hi (And.intro hz0 (And.intro hz1 hz2)))
  have HFL := Aside0.mk (hB.alloc (.cells #[] 27)).flat
  have hnil : ∀ W : World, (binOp .eql 38 (.slice (some ⟨g, 0, none⟩) n c) (.slice none 0 0)).run Try.prog W = .ok (.bool false) W := fun W => by kernel_rfl
  clear hB hi hz0 hz1 hz2
  go_enter Try.func116, Try.ntmps116
  go_wp2_with (refine wpList_append_lies _ (by rfl) _ _ 38 (by rfl) w.heap.size 27 i0 _ 25 52 Try.underlying38 HI.out.1 HI.out.2.1 HI.out.2.2.1 HI.out.2.2.2 (by rfl) (by decide) _ 0 [] (by rfl) (World.ownsRow_made w #[] 0 (by exact Nat.le_refl _) (by decide) (by rfl)) ⟨g, 0, none⟩ n c (flat f n) (by rfl) (flat_len f n) HFL.out (flat_one f n) hn0 (by unfold maxLen; omega) (by omega) (by simp <;> omega) _ rfl ?_; intro g' cap' w1 hown hgrow hat hlt'; rw [Nat.zero_add, List.nil_append] at hown; rw [Nat.zero_add]; have HR1 := Aside0.mk (Rw.of_owns hown); have HW1 : Aside0 (Below w.heap.size w w1) := ⟨(below_alloc (Below.refl _ _) _).grown hgrow (by simp) (fun k e => by simp [Value.ownBlock] at e; omega)⟩; clear hown hgrow hat)
  go_ret
  exact ⟨g', cap', rfl, HR1.out.2.1, HR1.out.1, HW1.out⟩
set_option maxHeartbeats 8000000 in
set_option maxRecDepth 100000 in
theorem l05Own_calls (f : Nat → Int) (n c g hb : Nat) (tub every today : Int) (hn : 0 < n ∧ n ≤ 4) (w : World) (hH : Blk w hb 40 (hcells (some ⟨g, 0, none⟩) n c tub every today)) (hB : Rw w g n f) :
    Calls Try.prog 94 #[.pointer (some ⟨hb, 0, none⟩)] w fun e w' => ∃ g' c', e = .returned (.agg #[.slice (some ⟨g', 0, none⟩) n c', .int .i16 tub, .int .i8 every, .int .i16 today]) ∧ w.heap.size ≤ g' ∧ Rw w' g' n f ∧ Below w.heap.size w w' := by
  have HB := Aside0.mk hB
  have HH := Aside0.mk hH
  obtain ⟨hn0, hn4⟩ := hn
  obtain ⟨i0, hi, hz0, hz1, hz2⟩ := info_parts stockInfo
  have HI := Aside0.mk (And.intro hi (And.intro hz0 (And.intro hz1 hz2)))
  clear hi hz0 hz1 hz2
  go_enter Try.func94, Try.ntmps94
  go_wp2_with fail
  obtain ⟨W0, hW0⟩ : ∃ W0, W0 = w.alloc (.cells #[.slice none 0 0, .int .i16 0, .int .i8 0, .int .i16 0] 40) := ⟨_, rfl⟩
  have HFL : Aside0 (∀ j u, (flat f n)[j]? = some u → (W0.drew.alloc (.cells #[] 27)).cell? ((⟨g, 0, none⟩ : Addr).add j) = some u) := ⟨by rw [hW0]; exact (((hB.alloc _).drew).alloc _).flat⟩
  have HH0 : Aside0 (Blk W0 hb 40 (hcells (some ⟨g, 0, none⟩) n c tub every today)) := ⟨by rw [hW0]; exact hH.alloc _⟩
  have HO0 : Aside0 (Blk W0 w.heap.size 40 (hcells none 0 0 0 0 0)) := ⟨by rw [hW0]; exact Blk.at_ rfl rfl⟩
  have HW0 : Aside0 (Below w.heap.size w W0) := ⟨by rw [hW0]; exact below_alloc (Below.refl _ _) _⟩
  have hs : W0.heap.size = w.heap.size + 1 := by rw [hW0]; simp
  have hl : hb < w.heap.size := hH.lt
  rw [← hW0]
  have HS := Aside0.mk hs
  clear hW0 hH hB hs
  have c0 := HH0.out.cell 0 (v := .slice (some ⟨g, 0, none⟩) n c) rfl
  have c1 := HH0.out.cell 1 (v := .int .i16 tub) rfl
  have c2 := HH0.out.cell 2 (v := .int .i8 every) rfl
  have c3 := HH0.out.cell 3 (v := .int .i16 today) rfl
  go_region_held3 (fun w' => w'.cell? ⟨hb, 0, none⟩ = some (.slice (some ⟨g, 0, none⟩) n c) ∧ w'.cell? ⟨hb, 1, none⟩ = some (.int .i16 tub) ∧ w'.cell? ⟨hb, 2, none⟩ = some (.int .i8 every) ∧ w'.cell? ⟨hb, 3, none⟩ = some (.int .i16 today)) (first | exact ⟨c0, c1, c2, c3⟩ | exact ⟨e0, e1, e2, e3⟩ | go_keep) ((refine step_append_lies _ (by rfl) _ _ 38 (by rfl) (w.heap.size + 1) 27 i0 _ 25 52 Try.underlying38 HI.out.1 HI.out.2.1 HI.out.2.2.1 HI.out.2.2.2 (by rfl) (by decide) _ 0 [] (by rfl) (World.ownsRow_made W0 #[] 0 (by have := HS.out; omega) (by decide) (by rfl)) ⟨g, 0, none⟩ n c (flat f n) (by rfl) (flat_len f n) HFL.out (flat_one f n) hn0 (by unfold maxLen; omega) (by omega) (by have h_ := HS.out; simp <;> omega) _ rfl ?_; intro g' cap' w1 hown hgrow hat hlt'; rw [Nat.zero_add, List.nil_append] at hown; rw [Nat.zero_add]; have hne1 : some hb ≠ (Value.slice (some ⟨W0.heap.size, 0, none⟩) 0 0).ownBlock := (by have h_ := HS.out; simp [Value.ownBlock]; omega); have hne2 : some w.heap.size ≠ (Value.slice (some ⟨W0.heap.size, 0, none⟩) 0 0).ownBlock := (by have h_ := HS.out; simp [Value.ownBlock]; omega); have HH1 := Aside0.mk (Blk.grown ((HH0.out.alloc _).drew) hgrow hne1); have HO1 := Aside0.mk (Blk.grown ((HO0.out.alloc _).drew) hgrow hne2); have HR1 := Aside0.mk (Rw.of_owns hown); have HW1 : Aside0 (Below w.heap.size w w1) := ⟨(below_drew (below_alloc HW0.out _)).grown hgrow (by have h_ := HS.out; simp <;> omega) (fun k e => by have h_ := HS.out; simp [Value.ownBlock] at e; omega)⟩; clear hown hgrow hat hne1 hne2; have e0 := HH1.out.cell 0 (v := .slice (some ⟨g, 0, none⟩) n c) rfl; have e1 := HH1.out.cell 1 (v := .int .i16 tub) rfl; have e2 := HH1.out.cell 2 (v := .int .i8 every) rfl; have e3 := HH1.out.cell 3 (v := .int .i16 today) rfl; have o0 := HO1.out.cell 0 (v := .slice none 0 0) rfl; have o1 := HO1.out.cell 1 (v := .int .i16 0) rfl; have o2 := HO1.out.cell 2 (v := .int .i8 0) rfl; have o3 := HO1.out.cell 3 (v := .int .i16 0) rfl; have f0 := HO1.out.frozen 0; have f1 := HO1.out.frozen 1; have f2 := HO1.out.frozen 2; have f3 := HO1.out.frozen 3; have hbo : hb ≠ w.heap.size := (by omega); have hbo2 : w.heap.size ≠ hb := (by omega)))
  go_wp2
  have hgo : w.heap.size ≠ g' := by have := HR1.out.2.1; omega
  refine bodyPost_ret (v := .agg (hcells (some ⟨g', 0, none⟩) n cap' tub every today).toArray) (Blk.result (by rfl) _ _ w.heap.size 40 (hcells (some ⟨g', 0, none⟩) n cap' tub every today) _ rfl ((((HO1.out.set 0 _).set 1 _).set 2 _).set 3 _) Try.underlying40 rfl (by kernel_rfl)) rfl ⟨g', cap', rfl, Nat.le_of_succ_le HR1.out.2.1, ?_, ?_⟩
  · repeat (first | with_reducible exact HR1.out.1 | refine Rw.other ?_ hgo)
  · repeat (first | with_reducible exact HW1.out | refine below_setc ?_ (by omega))
set_option maxHeartbeats 8000000 in
set_option maxRecDepth 100000 in
theorem own_calls (f : Nat → Int) (n c g : Nat) (tub every today : Int) (hn : 0 < n ∧ n ≤ 4) (w : World) (hB : Rw w g n f) :
    Calls Try.prog 96 #[.agg #[.slice (some ⟨g, 0, none⟩) n c, .int .i16 tub, .int .i8 every, .int .i16 today]] w fun e w' => ∃ g' c', e = .returned (.agg #[.slice (some ⟨g', 0, none⟩) n c', .int .i16 tub, .int .i8 every, .int .i16 today]) ∧ w.heap.size ≤ g' ∧ Rw w' g' n f ∧ Below w.heap.size w w' := by
  have HB := Aside0.mk hB
  have HC := Aside0.mk (fun W h => clone_calls n c g f hn W h)
  clear hB
  go_enter Try.func96, Try.ntmps96
  go_wp2_with fail
  refine (HC.out _ ((HB.out.alloc _).alloc _)).mono ?_
  rintro e w1 ⟨g', c', rfl, hg, hR, hb⟩
  have HB0 : Aside0 (Blk w1 w.heap.size 40 (hcells (some ⟨g, 0, none⟩) n c tub every today)) := ⟨((Blk.new w _ _).alloc _).below hb⟩
  have HB1 : Aside0 (Blk w1 (w.heap.size + 1) 40 (hcells none 0 0 0 0 0)) := ⟨(Blk.at_ (by simp) (by rfl)).below hb⟩
  have HR := Aside0.mk hR
  have HW : Aside0 (Below w.heap.size w w1) := ⟨below_step (by repeat (first | exact Below.refl _ _ | apply below_alloc)) hb⟩
  have hg' : w.heap.size + 1 + 1 ≤ g' := by simpa using hg
  have hgo : w.heap.size ≠ g' := by omega
  have hgo1 : w.heap.size + 1 ≠ g' := by omega
  clear hR hb hg
  have a0 := HB0.out.cell 0 (v := .slice (some ⟨g, 0, none⟩) n c) rfl
  have a1 := HB0.out.cell 1 (v := .int .i16 tub) rfl
  have a2 := HB0.out.cell 2 (v := .int .i8 every) rfl
  have a3 := HB0.out.cell 3 (v := .int .i16 today) rfl
  have d0 := HB0.out.frozen 0
  have o0 := HB1.out.cell 0 (v := .slice none 0 0) rfl
  have o1 := HB1.out.cell 1 (v := .int .i16 0) rfl
  have o2 := HB1.out.cell 2 (v := .int .i8 0) rfl
  have o3 := HB1.out.cell 3 (v := .int .i16 0) rfl
  have f0 := HB1.out.frozen 0
  have f1 := HB1.out.frozen 1
  have f2 := HB1.out.frozen 2
  have f3 := HB1.out.frozen 3
  go_wp2
  refine bodyPost_ret (v := .agg (hcells (some ⟨g', 0, none⟩) n c' tub every today).toArray) (Blk.result (by rfl) _ _ (w.heap.size + 1) 40 (hcells (some ⟨g', 0, none⟩) n c' tub every today) _ rfl (((((blk_other HB1.out (by omega)).set 0 _).set 1 _).set 2 _).set 3 _) Try.underlying40 rfl (by kernel_rfl)) rfl ⟨g', c', rfl, by omega, ?_, ?_⟩
  · repeat (first | with_reducible exact HR.out | refine Rw.other ?_ (by omega))
  · repeat (first | with_reducible exact HW.out | refine below_setc ?_ (by omega))
end Go.Proofs.Ytjmnbikaijphlaa.X
