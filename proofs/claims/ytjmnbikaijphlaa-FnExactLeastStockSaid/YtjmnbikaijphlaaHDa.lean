/- Contracts of functions, and plain facts: what each call answers, and what it leaves as it was. -/
import Derived.Test.YtjmnbikaijphlaaHLast
import Derived.Test.YtjmnbikaijphlaaHOnce
import Derived.Test.YtjmnbikaijphlaaHValid
import Derived.Test.YtjmnbikaijphlaaRes
set_option linter.unusedVariables false
set_option linter.unusedSimpArgs false
namespace Go.Proofs.Ytjmnbikaijphlaa.X
open Go.RowKit Go.Proofs.YtjmnbikaijphlaaW.PrintWords Go.Proofs.YtjmnbikaijphlaaW.PrintLast Go.Proofs.YtjmnbikaijphlaaW.PrintMore
attribute [local go_sem] max2_int min2_int max_two min_two max_three min_three max_four min_four
theorem below_q {f : FuncId} {args : Array Value} {E : Ending} {w : World} (h : Calls Try.prog f args w fun e w' => e = E ∧ w' = w) : Calls Try.prog f args w fun e w' => e = E ∧ Below w.heap.size w w' := h.mono (by rintro e w' ⟨rfl, rfl⟩; exact ⟨rfl, Below.refl _ _⟩)
def Nof (x : List Int) : Nat → Int := fun j => x.getD j 0
/-- the code of day k -/
def dcode (l : List (List Int)) (n : Nat) (today : Int) (k : Nat) : Int := if (needB (Nof (l.getD k [])) (l.getD k []).length && decide (((l.getD k []).length : Int) = (n : Int))) = true then (if today + (k : Int) = 60 then 4 else 0) else 2
def daC (l : List (List Int)) (n : Nat) (today : Int) : Nat → Nat → Int
  | 0, _ => 0
  | q + 1, k => if dcode l n today k = 0 then daC l n today q (k + 1) else dcode l n today k
/-- the numbers behind k days, and what was short -/
def daF (f : Nat → Int) (l : List (List Int)) (n : Nat) (tub every today : Int) : Nat → Nat → Int
  | 0 => f
  | k + 1 => dayF (daF f l n tub every today k) (Nof (l.getD k [])) n tub every (today + (k : Int))
def daS (f : Nat → Int) (l : List (List Int)) (n : Nat) (tub every today : Int) : Nat → List (List Int)
  | 0 => []
  | k + 1 => daS f l n tub every today k ++ [shL (daF f l n tub every today k) (Nof (l.getD k [])) n]
theorem daS_len (f : Nat → Int) (l : List (List Int)) (n : Nat) (tub every today : Int) : ∀ k, (daS f l n tub every today k).length = k
  | 0 => rfl
  | k + 1 => by rw [daS, List.length_append, daS_len f l n tub every today k]; rfl
theorem dcode_zero {l : List (List Int)} {n : Nat} {today : Int} {k : Nat} (h : dcode l n today k = 0) (ht : today + (k : Int) ≤ 60) : (l.getD k []).length = n ∧ needB (Nof (l.getD k [])) n = true ∧ today + (k : Int) < 60 := by
  unfold dcode at h
  split at h
  · rename_i h1
    rw [Bool.and_eq_true, decide_eq_true_eq] at h1
    split at h
    · simp at h
    · have e : (l.getD k []).length = n := by omega
      exact ⟨e, by rw [← e]; exact h1.1, by omega⟩
  · simp at h
theorem dcode_first {l : List (List Int)} {n : Nat} {today : Int} {k : Nat} (ht : today + (k : Int) ≤ 60) : firstL [if (needB (Nof (l.getD k [])) (l.getD k []).length && decide (((l.getD k []).length : Int) = (n : Int))) = true then 0 else 2, if decide (today + (k : Int) < 60) = true then 0 else 4] = dcode l n today k := by
  unfold dcode
  generalize (needB (Nof (l.getD k [])) (l.getD k []).length && decide (((l.getD k []).length : Int) = (n : Int))) = b
  cases b
  · rfl
  · by_cases h : today + (k : Int) = 60
    · rw [if_pos rfl, if_pos rfl, if_pos h, decide_eq_false (by omega)]; rfl
    · rw [if_pos rfl, if_pos rfl, if_neg h, decide_eq_true (by omega)]; rfl
theorem daC_yes {l : List (List Int)} {n : Nat} {today : Int} {m k : Nat} {code : Int} (hk : k < m) (h : daC l n today (m - k) k = code) (h0 : dcode l n today k = 0) : daC l n today (m - (k + 1)) (k + 1) = code := by
  rw [show m - k = (m - (k + 1)) + 1 by omega, daC, if_pos h0] at h; exact h
theorem daC_no {l : List (List Int)} {n : Nat} {today : Int} {m k : Nat} {code : Int} (hk : k < m) (h : daC l n today (m - k) k = code) (h0 : dcode l n today k ≠ 0) : dcode l n today k = code := by
  rw [show m - k = (m - (k + 1)) + 1 by omega, daC, if_neg h0] at h; exact h
theorem daF_fine {f : Nat → Int} {l : List (List Int)} {n : Nat} {tub every today : Int} (h : Fine f n) (ht : 0 ≤ tub) : ∀ k, (∀ i, i < k → needB (Nof (l.getD i [])) n = true) → Fine (daF f l n tub every today k) n
  | 0, _ => h
  | k + 1, hN => dayF_fine (daF_fine h ht k (fun i hi => hN i (by omega))) (fun j hj => ((needB_iff _ n).1 (hN k (by omega)) j hj).1) ht
/-- what DayAll answers -/
def DaPost (w : World) (n m : Nat) (tub every today : Int) (F : Nat → Int) (S : List (List Int)) (code : Int) (e : Ending) (w' : World) : Prop :=
  (code ≠ 0 ∧ (∃ v : Value, e = .returned (.tuple #[.agg #[.slice none 0 0, .int .i16 0, .int .i8 0, .int .i16 0], v, .int .i64 code])) ∧ Below w.heap.size w w') ∨
  (code = 0 ∧ (∃ (g' c' : Nat) (v : Value), e = .returned (.tuple #[.agg #[.slice (some ⟨g', 0, none⟩) n c', .int .i16 tub, .int .i8 every, .int .i16 (today + (m : Int))], v, .int .i64 0]) ∧ w.heap.size ≤ g' ∧ Rw w' g' n F ∧ Dy w' v S) ∧ Below w.heap.size w w')
/-- the shortages, while they are gathered -/
def Sh (w : World) (base g1 hb ho : Nat) (v : Value) (l : List (List Int)) : Prop := (Kd.slice 2 (Kd.int .i64)).R 45 w base (fun q => q ≠ g1 ∧ q ≠ hb ∧ q ≠ ho) v l
section
variable {w w1 : World} {base g1 hb ho : Nat} {v : Value} {l : List (List Int)}
theorem Sh.below (h : Sh w base g1 hb ho v l) (hbl : Below w.heap.size w w1) : Sh w1 base g1 hb ho v l := Kd.R_below h hbl
theorem Sh.alloc (h : Sh w base g1 hb ho v l) (o : Obj) : Sh (w.alloc o) base g1 hb ho v l := h.below (below_alloc (Below.refl _ _) o)
theorem Sh.kept (h : Sh w base g1 hb ho v l) (hk : KpG w w1 (fun k => k = g1 ∨ k = hb)) : Sh w1 base g1 hb ho v l := Kd.R_step h (fun q hq hl => hk.2.2 q hl (by rintro (h_ | h_); exact hq.1 h_; exact hq.2.1 h_))
theorem Sh.of_blk {g : Nat} (h : Blk w g 45 []) (hg : g ≠ g1) (hh : g ≠ hb) (ho' : g ≠ ho) (hbs : base ≤ g) : Sh w base g1 hb ho (.slice (some ⟨g, 0, none⟩) 0 0) [] :=
  ⟨fun q hq => by simp [Value.ownBlock] at hq; subst hq; exact ⟨hg, hh, ho'⟩, [], ⟨rfl, .inr ⟨g, 0, #[], rfl, hbs, h, Nat.le_refl _, by decide, rfl, rfl⟩⟩, Reps.none _ _⟩
theorem Sh.dy (h : Sh w base g1 hb ho v l) : Dy w v l := Kd.R_lower (Kd.R_mono h (fun _ _ => trivial)) (Nat.zero_le _)
theorem Sh.lt (h : Sh w base g1 hb ho v l) : ∀ q, v.ownBlock = some q → q < w.heap.size := fun q hq => by obtain ⟨_, ho⟩ := Kd.R_own h; exact own_lt ho q hq
theorem Sh.ne (h : Sh w base g1 hb ho v l) {g : Nat} (hg : g = g1 ∨ g = hb ∨ g = ho) : some g ≠ v.ownBlock := fun he => by
  have := h.1 g he.symm
  omega
end
set_option maxHeartbeats 8000000 in
set_option maxRecDepth 100000 in
theorem specDA_no (f : Nat → Int) (n c g : Nat) (l : List (List Int)) (A : Option Addr) (cD : Nat) (tub every today : Int) (hn : n ≤ 1048576) (hlm : ∀ i, (l.getD i []).length ≤ 1048576) (hl : l.length ≤ 1048576) (hcD : l.length ≤ cD) (hR : Rng f n) (ht : -32768 ≤ tub ∧ tub ≤ 32767) (hv : -128 ≤ every ∧ every ≤ 127) (hd : -32768 ≤ today ∧ today ≤ 32767) (hf : houseB f n tub every today = false) (w : World) (hB : Rw w g n f) (hD : Dy w (.slice A l.length cD) l) :
    Calls Try.prog 104 #[.agg #[.slice (some ⟨g, 0, none⟩) n c, .int .i16 tub, .int .i8 every, .int .i16 today], .slice A l.length cD] w fun e w' => (∃ v : Value, e = .returned (.tuple #[.agg #[.slice none 0 0, .int .i16 0, .int .i8 0, .int .i16 0], v, .int .i64 1])) ∧ Below w.heap.size w w' := by
  have HB0 : Aside0 (Blk ((w.alloc (.cells #[.slice (some ⟨g, 0, none⟩) n c, .int .i16 tub, .int .i8 every, .int .i16 today] 40)).alloc (.cells #[.slice none 0 0, .int .i16 0, .int .i8 0, .int .i16 0] 40)) w.heap.size 40 [.slice (some ⟨g, 0, none⟩) n c, .int .i16 tub, .int .i8 every, .int .i16 today]) := ⟨(Blk.new w _ _).alloc _⟩
  have HO : Aside0 (Blk ((w.alloc (.cells #[.slice (some ⟨g, 0, none⟩) n c, .int .i16 tub, .int .i8 every, .int .i16 today] 40)).alloc (.cells #[.slice none 0 0, .int .i16 0, .int .i8 0, .int .i16 0] 40)) (w.heap.size + 1) 40 [.slice none 0 0, .int .i16 0, .int .i8 0, .int .i16 0]) := ⟨Blk.at_ (by simp) rfl⟩
  have HW : Aside0 (Below w.heap.size w ((w.alloc (.cells #[.slice (some ⟨g, 0, none⟩) n c, .int .i16 tub, .int .i8 every, .int .i16 today] 40)).alloc (.cells #[.slice none 0 0, .int .i16 0, .int .i8 0, .int .i16 0] 40))) := ⟨below_alloc (below_alloc (Below.refl _ _) _) _⟩
  have HR0 : Aside0 (Rw ((w.alloc (.cells #[.slice (some ⟨g, 0, none⟩) n c, .int .i16 tub, .int .i8 every, .int .i16 today] 40)).alloc (.cells #[.slice none 0 0, .int .i16 0, .int .i8 0, .int .i16 0] 40)) g n f) := ⟨(hB.alloc _).alloc _⟩
  have HDD := Aside0.mk hD
  have hl0 := hB.lt
  have HK := Aside0.mk (fun W h h' => l05Ok_calls f n c g w.heap.size tub every today hn hR ht hv hd W h h')
  rw [hf] at HK
  clear hB hD hR ht hv hd hn hl hcD hlm
  go_enter Try.func104, Try.ntmps104
  go_wp2_with (fail)
  refine (HK.out _ (by with_reducible repeat (first | exact HB0.out | refine Blk.alloc ?_ _ | refine Rw.alloc ?_ _ | refine Arg.alloc ?_ _ | apply below_alloc | refine Blk.drew ?_ | refine Rw.drew ?_ | refine Arg.drew ?_ | apply below_drew | refine Blk.drewN ?_ _ | refine Rw.drewN ?_ _ | refine Arg.drewN ?_ _ | apply pw_below_drewN)) (by with_reducible repeat (first | exact HR0.out | refine Blk.alloc ?_ _ | refine Rw.alloc ?_ _ | refine Arg.alloc ?_ _ | apply below_alloc | refine Blk.drew ?_ | refine Rw.drew ?_ | refine Arg.drew ?_ | apply below_drew | refine Blk.drewN ?_ _ | refine Rw.drewN ?_ _ | refine Arg.drewN ?_ _ | apply pw_below_drewN))).mono ?_
  rintro e w1 ⟨rfl, hb⟩
  have hs_w1 := Below.size hb
  (try simp at hs_w1)
  replace HB0 : Aside0 (Blk w1 (w.heap.size) 40 [.slice (some ⟨g, 0, none⟩) n c, .int .i16 tub, .int .i8 every, .int .i16 today]) := ⟨Blk.below (by with_reducible repeat (first | exact HB0.out | refine Blk.alloc ?_ _ | refine Rw.alloc ?_ _ | refine Arg.alloc ?_ _ | apply below_alloc | refine Blk.drew ?_ | refine Rw.drew ?_ | refine Arg.drew ?_ | apply below_drew | refine Blk.drewN ?_ _ | refine Rw.drewN ?_ _ | refine Arg.drewN ?_ _ | apply pw_below_drewN)) hb⟩
  replace HO : Aside0 (Blk w1 (w.heap.size + 1) 40 [.slice none 0 0, .int .i16 0, .int .i8 0, .int .i16 0]) := ⟨Blk.below (by with_reducible repeat (first | exact HO.out | refine Blk.alloc ?_ _ | refine Rw.alloc ?_ _ | refine Arg.alloc ?_ _ | apply below_alloc | refine Blk.drew ?_ | refine Rw.drew ?_ | refine Arg.drew ?_ | apply below_drew | refine Blk.drewN ?_ _ | refine Rw.drewN ?_ _ | refine Arg.drewN ?_ _ | apply pw_below_drewN)) hb⟩
  replace HR0 : Aside0 (Rw w1 g n f) := ⟨Rw.below (by with_reducible repeat (first | exact HR0.out | refine Blk.alloc ?_ _ | refine Rw.alloc ?_ _ | refine Arg.alloc ?_ _ | apply below_alloc | refine Blk.drew ?_ | refine Rw.drew ?_ | refine Arg.drew ?_ | apply below_drew | refine Blk.drewN ?_ _ | refine Rw.drewN ?_ _ | refine Arg.drewN ?_ _ | apply pw_below_drewN)) hb⟩
  replace HW : Aside0 (Below w.heap.size w w1) := ⟨below_step (by with_reducible repeat (first | exact HW.out | refine Blk.alloc ?_ _ | refine Rw.alloc ?_ _ | refine Arg.alloc ?_ _ | apply below_alloc | refine Blk.drew ?_ | refine Rw.drew ?_ | refine Arg.drew ?_ | apply below_drew | refine Blk.drewN ?_ _ | refine Rw.drewN ?_ _ | refine Arg.drewN ?_ _ | apply pw_below_drewN)) hb⟩
  clear hb
  go_wp2_with (first | (refine wl_store (by rfl) 40 _ _ (by rfl) (w.heap.size + 1) 0 (by rfl) 40 4 [.slice none 0 0, .int .i16 0, .int .i8 0, .int .i16 0] [.slice none 0 0, .int .i16 0, .int .i8 0, .int .i16 0] (by rfl) (by with_reducible repeat (first | exact HO.out | refine Blk.alloc ?_ _ | refine Rw.alloc ?_ _ | refine Arg.alloc ?_ _ | apply below_alloc | refine Blk.drew ?_ | refine Rw.drew ?_ | refine Arg.drew ?_ | apply below_drew | refine Blk.drewN ?_ _ | refine Rw.drewN ?_ _ | refine Arg.drewN ?_ _ | apply pw_below_drewN)) (by rfl) (by decide) (by kernel_rfl) (by rfl) ?_; intro w9 hw_ hg_; have HO9 : Aside0 (Blk w9 (w.heap.size + 1) 40 [.slice none 0 0, .int .i16 0, .int .i8 0, .int .i16 0]) := ⟨Blk.all hw_ (by decide)⟩; have HW9 : Aside0 (Below w.heap.size w w9) := ⟨below_grown (by with_reducible repeat (first | exact HW.out | refine Blk.alloc ?_ _ | refine Rw.alloc ?_ _ | refine Arg.alloc ?_ _ | apply below_alloc | refine Blk.drew ?_ | refine Rw.drew ?_ | refine Arg.drew ?_ | apply below_drew | refine Blk.drewN ?_ _ | refine Rw.drewN ?_ _ | refine Arg.drewN ?_ _ | apply pw_below_drewN)) (by omega) (Below.size (by with_reducible repeat (first | exact HW.out | refine Blk.alloc ?_ _ | refine Rw.alloc ?_ _ | refine Arg.alloc ?_ _ | apply below_alloc | refine Blk.drew ?_ | refine Rw.drew ?_ | refine Arg.drew ?_ | apply below_drew | refine Blk.drewN ?_ _ | refine Rw.drewN ?_ _ | refine Arg.drewN ?_ _ | apply pw_below_drewN))) hg_⟩; have HR09 : Aside0 (Rw w9 g n f) := ⟨Rw.grown (by with_reducible repeat (first | exact HR0.out | refine Blk.alloc ?_ _ | refine Rw.alloc ?_ _ | refine Arg.alloc ?_ _ | apply below_alloc | refine Blk.drew ?_ | refine Rw.drew ?_ | refine Arg.drew ?_ | apply below_drew | refine Blk.drewN ?_ _ | refine Rw.drewN ?_ _ | refine Arg.drewN ?_ _ | apply pw_below_drewN)) hg_ (by intro h_; injection h_ with h_; omega)⟩; clear hw_ hg_))
  refine bodyPost_ret (v := .tuple #[.agg #[.slice none 0 0, .int .i16 0, .int .i8 0, .int .i16 0], .slice (some ⟨w.heap.size + 1 + 1, 0, none⟩) 0 0, .int .i64 1]) (results_cell3 (by rfl) _ _ (w.heap.size + 1) [.slice none 0 0, .int .i16 0, .int .i8 0, .int .i16 0] _ _ _ (by rfl) (by rfl) (by rfl) HO9.out.whole Try.underlying40 (by rfl) (by kernel_rfl)) rfl ⟨⟨_, rfl⟩, HW9.out⟩
set_option maxHeartbeats 8000000 in
set_option maxRecDepth 100000 in
theorem specDA_long (f : Nat → Int) (n c g : Nat) (l : List (List Int)) (A : Option Addr) (cD : Nat) (tub every today : Int) (hn : n ≤ 1048576) (hlm : ∀ i, (l.getD i []).length ≤ 1048576) (hl : l.length ≤ 1048576) (hcD : l.length ≤ cD) (hR : Rng f n) (ht : -32768 ≤ tub ∧ tub ≤ 32767) (hv : -128 ≤ every ∧ every ≤ 127) (hd : -32768 ≤ today ∧ today ≤ 32767) (hf : houseB f n tub every today = true) (hlong : ¬ l.length ≤ 60) (w : World) (hB : Rw w g n f) (hD : Dy w (.slice A l.length cD) l) :
    Calls Try.prog 104 #[.agg #[.slice (some ⟨g, 0, none⟩) n c, .int .i16 tub, .int .i8 every, .int .i16 today], .slice A l.length cD] w fun e w' => (∃ v : Value, e = .returned (.tuple #[.agg #[.slice none 0 0, .int .i16 0, .int .i8 0, .int .i16 0], v, .int .i64 3])) ∧ Below w.heap.size w w' := by
  have HB0 : Aside0 (Blk ((w.alloc (.cells #[.slice (some ⟨g, 0, none⟩) n c, .int .i16 tub, .int .i8 every, .int .i16 today] 40)).alloc (.cells #[.slice none 0 0, .int .i16 0, .int .i8 0, .int .i16 0] 40)) w.heap.size 40 [.slice (some ⟨g, 0, none⟩) n c, .int .i16 tub, .int .i8 every, .int .i16 today]) := ⟨(Blk.new w _ _).alloc _⟩
  have HO : Aside0 (Blk ((w.alloc (.cells #[.slice (some ⟨g, 0, none⟩) n c, .int .i16 tub, .int .i8 every, .int .i16 today] 40)).alloc (.cells #[.slice none 0 0, .int .i16 0, .int .i8 0, .int .i16 0] 40)) (w.heap.size + 1) 40 [.slice none 0 0, .int .i16 0, .int .i8 0, .int .i16 0]) := ⟨Blk.at_ (by simp) rfl⟩
  have HW : Aside0 (Below w.heap.size w ((w.alloc (.cells #[.slice (some ⟨g, 0, none⟩) n c, .int .i16 tub, .int .i8 every, .int .i16 today] 40)).alloc (.cells #[.slice none 0 0, .int .i16 0, .int .i8 0, .int .i16 0] 40))) := ⟨below_alloc (below_alloc (Below.refl _ _) _) _⟩
  have HR0 : Aside0 (Rw ((w.alloc (.cells #[.slice (some ⟨g, 0, none⟩) n c, .int .i16 tub, .int .i8 every, .int .i16 today] 40)).alloc (.cells #[.slice none 0 0, .int .i16 0, .int .i8 0, .int .i16 0] 40)) g n f) := ⟨(hB.alloc _).alloc _⟩
  have HDD := Aside0.mk hD
  have hl0 := hB.lt
  have HK := Aside0.mk (fun W h h' => l05Ok_calls f n c g w.heap.size tub every today hn hR ht hv hd W h h')
  rw [hf] at HK
  have hl6 : (60 : Int) < (l.length : Int) := by omega
  clear hB hD hR ht hv hd hn hl hcD hlm
  clear hlong hf
  go_enter Try.func104, Try.ntmps104
  go_wp2_with (fail)
  refine (HK.out _ (by with_reducible repeat (first | exact HB0.out | refine Blk.alloc ?_ _ | refine Rw.alloc ?_ _ | refine Arg.alloc ?_ _ | apply below_alloc | refine Blk.drew ?_ | refine Rw.drew ?_ | refine Arg.drew ?_ | apply below_drew | refine Blk.drewN ?_ _ | refine Rw.drewN ?_ _ | refine Arg.drewN ?_ _ | apply pw_below_drewN)) (by with_reducible repeat (first | exact HR0.out | refine Blk.alloc ?_ _ | refine Rw.alloc ?_ _ | refine Arg.alloc ?_ _ | apply below_alloc | refine Blk.drew ?_ | refine Rw.drew ?_ | refine Arg.drew ?_ | apply below_drew | refine Blk.drewN ?_ _ | refine Rw.drewN ?_ _ | refine Arg.drewN ?_ _ | apply pw_below_drewN))).mono ?_
  rintro e w1 ⟨rfl, hb⟩
  have hs_w1 := Below.size hb
  (try simp at hs_w1)
  replace HB0 : Aside0 (Blk w1 (w.heap.size) 40 [.slice (some ⟨g, 0, none⟩) n c, .int .i16 tub, .int .i8 every, .int .i16 today]) := ⟨Blk.below (by with_reducible repeat (first | exact HB0.out | refine Blk.alloc ?_ _ | refine Rw.alloc ?_ _ | refine Arg.alloc ?_ _ | apply below_alloc | refine Blk.drew ?_ | refine Rw.drew ?_ | refine Arg.drew ?_ | apply below_drew | refine Blk.drewN ?_ _ | refine Rw.drewN ?_ _ | refine Arg.drewN ?_ _ | apply pw_below_drewN)) hb⟩
  replace HO : Aside0 (Blk w1 (w.heap.size + 1) 40 [.slice none 0 0, .int .i16 0, .int .i8 0, .int .i16 0]) := ⟨Blk.below (by with_reducible repeat (first | exact HO.out | refine Blk.alloc ?_ _ | refine Rw.alloc ?_ _ | refine Arg.alloc ?_ _ | apply below_alloc | refine Blk.drew ?_ | refine Rw.drew ?_ | refine Arg.drew ?_ | apply below_drew | refine Blk.drewN ?_ _ | refine Rw.drewN ?_ _ | refine Arg.drewN ?_ _ | apply pw_below_drewN)) hb⟩
  replace HR0 : Aside0 (Rw w1 g n f) := ⟨Rw.below (by with_reducible repeat (first | exact HR0.out | refine Blk.alloc ?_ _ | refine Rw.alloc ?_ _ | refine Arg.alloc ?_ _ | apply below_alloc | refine Blk.drew ?_ | refine Rw.drew ?_ | refine Arg.drew ?_ | apply below_drew | refine Blk.drewN ?_ _ | refine Rw.drewN ?_ _ | refine Arg.drewN ?_ _ | apply pw_below_drewN)) hb⟩
  replace HW : Aside0 (Below w.heap.size w w1) := ⟨below_step (by with_reducible repeat (first | exact HW.out | refine Blk.alloc ?_ _ | refine Rw.alloc ?_ _ | refine Arg.alloc ?_ _ | apply below_alloc | refine Blk.drew ?_ | refine Rw.drew ?_ | refine Arg.drew ?_ | apply below_drew | refine Blk.drewN ?_ _ | refine Rw.drewN ?_ _ | refine Arg.drewN ?_ _ | apply pw_below_drewN)) hb⟩
  clear hb
  go_wp2_with (first | (refine wl_store (by rfl) 40 _ _ (by rfl) (w.heap.size + 1) 0 (by rfl) 40 4 [.slice none 0 0, .int .i16 0, .int .i8 0, .int .i16 0] [.slice none 0 0, .int .i16 0, .int .i8 0, .int .i16 0] (by rfl) (by with_reducible repeat (first | exact HO.out | refine Blk.alloc ?_ _ | refine Rw.alloc ?_ _ | refine Arg.alloc ?_ _ | apply below_alloc | refine Blk.drew ?_ | refine Rw.drew ?_ | refine Arg.drew ?_ | apply below_drew | refine Blk.drewN ?_ _ | refine Rw.drewN ?_ _ | refine Arg.drewN ?_ _ | apply pw_below_drewN)) (by rfl) (by decide) (by kernel_rfl) (by rfl) ?_; intro w9 hw_ hg_; have HO9 : Aside0 (Blk w9 (w.heap.size + 1) 40 [.slice none 0 0, .int .i16 0, .int .i8 0, .int .i16 0]) := ⟨Blk.all hw_ (by decide)⟩; have HW9 : Aside0 (Below w.heap.size w w9) := ⟨below_grown (by with_reducible repeat (first | exact HW.out | refine Blk.alloc ?_ _ | refine Rw.alloc ?_ _ | refine Arg.alloc ?_ _ | apply below_alloc | refine Blk.drew ?_ | refine Rw.drew ?_ | refine Arg.drew ?_ | apply below_drew | refine Blk.drewN ?_ _ | refine Rw.drewN ?_ _ | refine Arg.drewN ?_ _ | apply pw_below_drewN)) (by omega) (Below.size (by with_reducible repeat (first | exact HW.out | refine Blk.alloc ?_ _ | refine Rw.alloc ?_ _ | refine Arg.alloc ?_ _ | apply below_alloc | refine Blk.drew ?_ | refine Rw.drew ?_ | refine Arg.drew ?_ | apply below_drew | refine Blk.drewN ?_ _ | refine Rw.drewN ?_ _ | refine Arg.drewN ?_ _ | apply pw_below_drewN))) hg_⟩; have HR09 : Aside0 (Rw w9 g n f) := ⟨Rw.grown (by with_reducible repeat (first | exact HR0.out | refine Blk.alloc ?_ _ | refine Rw.alloc ?_ _ | refine Arg.alloc ?_ _ | apply below_alloc | refine Blk.drew ?_ | refine Rw.drew ?_ | refine Arg.drew ?_ | apply below_drew | refine Blk.drewN ?_ _ | refine Rw.drewN ?_ _ | refine Arg.drewN ?_ _ | apply pw_below_drewN)) hg_ (by intro h_; injection h_ with h_; omega)⟩; clear hw_ hg_))
  refine bodyPost_ret (v := .tuple #[.agg #[.slice none 0 0, .int .i16 0, .int .i8 0, .int .i16 0], .slice (some ⟨w.heap.size + 1 + 1, 0, none⟩) 0 0, .int .i64 3]) (results_cell3 (by rfl) _ _ (w.heap.size + 1) [.slice none 0 0, .int .i16 0, .int .i8 0, .int .i16 0] _ _ _ (by rfl) (by rfl) (by rfl) HO9.out.whole Try.underlying40 (by rfl) (by kernel_rfl)) rfl ⟨⟨_, rfl⟩, HW9.out⟩
set_option maxHeartbeats 8000000 in
set_option maxRecDepth 100000 in
theorem specDA_go (f : Nat → Int) (n c g : Nat) (l : List (List Int)) (A : Option Addr) (cD : Nat) (tub every today : Int) (hn : n ≤ 1048576) (hlm : ∀ i, (l.getD i []).length ≤ 1048576) (hl : l.length ≤ 1048576) (hcD : l.length ≤ cD) (hR : Rng f n) (ht : -32768 ≤ tub ∧ tub ≤ 32767) (hv : -128 ≤ every ∧ every ≤ 127) (hd : -32768 ≤ today ∧ today ≤ 32767) (hf : houseB f n tub every today = true) (hn4 : 0 < n ∧ n ≤ 4) (hG : Fine f n) (ht1 : 0 ≤ tub ∧ tub ≤ 1000) (hv1 : 1 ≤ every ∧ every ≤ 7) (hd1 : 0 ≤ today ∧ today ≤ 60) (hm6' : l.length ≤ 60) (code : Int) (hcode : daC l n today l.length 0 = code) (w : World) (hB : Rw w g n f) (hD : Dy w (.slice A l.length cD) l) :
    Calls Try.prog 104 #[.agg #[.slice (some ⟨g, 0, none⟩) n c, .int .i16 tub, .int .i8 every, .int .i16 today], .slice A l.length cD] w fun e w' => DaPost w n l.length tub every today (daF f l n tub every today l.length) (daS f l n tub every today l.length) code e w' := by
  have HB0 : Aside0 (Blk ((w.alloc (.cells #[.slice (some ⟨g, 0, none⟩) n c, .int .i16 tub, .int .i8 every, .int .i16 today] 40)).alloc (.cells #[.slice none 0 0, .int .i16 0, .int .i8 0, .int .i16 0] 40)) w.heap.size 40 [.slice (some ⟨g, 0, none⟩) n c, .int .i16 tub, .int .i8 every, .int .i16 today]) := ⟨(Blk.new w _ _).alloc _⟩
  have HO : Aside0 (Blk ((w.alloc (.cells #[.slice (some ⟨g, 0, none⟩) n c, .int .i16 tub, .int .i8 every, .int .i16 today] 40)).alloc (.cells #[.slice none 0 0, .int .i16 0, .int .i8 0, .int .i16 0] 40)) (w.heap.size + 1) 40 [.slice none 0 0, .int .i16 0, .int .i8 0, .int .i16 0]) := ⟨Blk.at_ (by simp) rfl⟩
  have HW : Aside0 (Below w.heap.size w ((w.alloc (.cells #[.slice (some ⟨g, 0, none⟩) n c, .int .i16 tub, .int .i8 every, .int .i16 today] 40)).alloc (.cells #[.slice none 0 0, .int .i16 0, .int .i8 0, .int .i16 0] 40))) := ⟨below_alloc (below_alloc (Below.refl _ _) _) _⟩
  have HR0 : Aside0 (Rw ((w.alloc (.cells #[.slice (some ⟨g, 0, none⟩) n c, .int .i16 tub, .int .i8 every, .int .i16 today] 40)).alloc (.cells #[.slice none 0 0, .int .i16 0, .int .i8 0, .int .i16 0] 40)) g n f) := ⟨(hB.alloc _).alloc _⟩
  have HDD := Aside0.mk hD
  have hl0 := hB.lt
  have HK := Aside0.mk (fun W h h' => l05Ok_calls f n c g w.heap.size tub every today hn hR ht hv hd W h h')
  rw [hf] at HK
  have HOW := Aside0.mk (fun W h h' => l05Own_calls f n c g w.heap.size tub every today hn4 W h h')
  have hm6 : l.length ≤ 60 := hm6'
  have HLM := Aside0.mk hlm
  have HCO := Aside0.mk hcode
  have HGG := Aside0.mk (fun k hN => daF_fine (l := l) (every := every) (today := today) hG ht1.1 k hN)
  have ht2 := ht1
  have hv2 := hv1
  have hd2 := hd1
  have hn2 := hn4
  have HIN : Aside0 (∀ i, i < l.length → ∃ g' A' c', A = some ⟨g', 0, none⟩ ∧ w.cell? ⟨g', i, none⟩ = some (.slice A' (l.getD i []).length c') ∧ (l.getD i []).length ≤ c' ∧ NdA w A' (l.getD i []).length (Nof (l.getD i []))) := ⟨fun i hi => hD.at hi⟩
  clear hcode hG ht1 hv1 hd1 hn4
  clear hB hD hR ht hv hd hn hl hcD hlm
  clear hm6' hf
  go_enter Try.func104, Try.ntmps104
  go_wp2_with (fail)
  refine (HK.out _ (by with_reducible repeat (first | exact HB0.out | refine Blk.alloc ?_ _ | refine Rw.alloc ?_ _ | refine Arg.alloc ?_ _ | apply below_alloc | refine Blk.drew ?_ | refine Rw.drew ?_ | refine Arg.drew ?_ | apply below_drew | refine Blk.drewN ?_ _ | refine Rw.drewN ?_ _ | refine Arg.drewN ?_ _ | apply pw_below_drewN)) (by with_reducible repeat (first | exact HR0.out | refine Blk.alloc ?_ _ | refine Rw.alloc ?_ _ | refine Arg.alloc ?_ _ | apply below_alloc | refine Blk.drew ?_ | refine Rw.drew ?_ | refine Arg.drew ?_ | apply below_drew | refine Blk.drewN ?_ _ | refine Rw.drewN ?_ _ | refine Arg.drewN ?_ _ | apply pw_below_drewN))).mono ?_
  rintro e w1 ⟨rfl, hb⟩
  have hs_w1 := Below.size hb
  (try simp at hs_w1)
  replace HB0 : Aside0 (Blk w1 (w.heap.size) 40 [.slice (some ⟨g, 0, none⟩) n c, .int .i16 tub, .int .i8 every, .int .i16 today]) := ⟨Blk.below (by with_reducible repeat (first | exact HB0.out | refine Blk.alloc ?_ _ | refine Rw.alloc ?_ _ | refine Arg.alloc ?_ _ | apply below_alloc | refine Blk.drew ?_ | refine Rw.drew ?_ | refine Arg.drew ?_ | apply below_drew | refine Blk.drewN ?_ _ | refine Rw.drewN ?_ _ | refine Arg.drewN ?_ _ | apply pw_below_drewN)) hb⟩
  replace HO : Aside0 (Blk w1 (w.heap.size + 1) 40 [.slice none 0 0, .int .i16 0, .int .i8 0, .int .i16 0]) := ⟨Blk.below (by with_reducible repeat (first | exact HO.out | refine Blk.alloc ?_ _ | refine Rw.alloc ?_ _ | refine Arg.alloc ?_ _ | apply below_alloc | refine Blk.drew ?_ | refine Rw.drew ?_ | refine Arg.drew ?_ | apply below_drew | refine Blk.drewN ?_ _ | refine Rw.drewN ?_ _ | refine Arg.drewN ?_ _ | apply pw_below_drewN)) hb⟩
  replace HR0 : Aside0 (Rw w1 g n f) := ⟨Rw.below (by with_reducible repeat (first | exact HR0.out | refine Blk.alloc ?_ _ | refine Rw.alloc ?_ _ | refine Arg.alloc ?_ _ | apply below_alloc | refine Blk.drew ?_ | refine Rw.drew ?_ | refine Arg.drew ?_ | apply below_drew | refine Blk.drewN ?_ _ | refine Rw.drewN ?_ _ | refine Arg.drewN ?_ _ | apply pw_below_drewN)) hb⟩
  have HV0 : Aside0 (Blk w1 (w.heap.size + 2) 45 []) := ⟨Blk.below (by repeat (first | exact Blk.at_ (by simp) rfl | refine Blk.alloc ?_ _)) hb⟩
  replace HW : Aside0 (Below w.heap.size w w1) := ⟨below_step (by with_reducible repeat (first | exact HW.out | refine Blk.alloc ?_ _ | refine Rw.alloc ?_ _ | refine Arg.alloc ?_ _ | apply below_alloc | refine Blk.drew ?_ | refine Rw.drew ?_ | refine Arg.drew ?_ | apply below_drew | refine Blk.drewN ?_ _ | refine Rw.drewN ?_ _ | refine Arg.drewN ?_ _ | apply pw_below_drewN)) hb⟩
  clear hb
  have hz1 : w.heap.size + 3 ≤ w1.heap.size := by omega
  go_wp2_with (fail)
  refine (HOW.out _ (by with_reducible repeat (first | exact HB0.out | refine Blk.alloc ?_ _ | refine Rw.alloc ?_ _ | refine Arg.alloc ?_ _ | apply below_alloc | refine Blk.drew ?_ | refine Rw.drew ?_ | refine Arg.drew ?_ | apply below_drew | refine Blk.drewN ?_ _ | refine Rw.drewN ?_ _ | refine Arg.drewN ?_ _ | apply pw_below_drewN)) (by with_reducible repeat (first | exact HR0.out | refine Blk.alloc ?_ _ | refine Rw.alloc ?_ _ | refine Arg.alloc ?_ _ | apply below_alloc | refine Blk.drew ?_ | refine Rw.drew ?_ | refine Arg.drew ?_ | apply below_drew | refine Blk.drewN ?_ _ | refine Rw.drewN ?_ _ | refine Arg.drewN ?_ _ | apply pw_below_drewN))).mono ?_
  rintro e w2 ⟨g1, c1, rfl, hg_, hR_, hb⟩
  have lo_g1 := hg_
  (try simp at lo_g1)
  have hi_g1 := Rw.lt hR_
  have hs_w2 := Below.size hb
  (try simp at hs_w2)
  replace HB0 : Aside0 (Blk w2 (w.heap.size) 40 [.slice (some ⟨g, 0, none⟩) n c, .int .i16 tub, .int .i8 every, .int .i16 today]) := ⟨Blk.below (by with_reducible repeat (first | exact HB0.out | refine Blk.alloc ?_ _ | refine Rw.alloc ?_ _ | refine Arg.alloc ?_ _ | apply below_alloc | refine Blk.drew ?_ | refine Rw.drew ?_ | refine Arg.drew ?_ | apply below_drew | refine Blk.drewN ?_ _ | refine Rw.drewN ?_ _ | refine Arg.drewN ?_ _ | apply pw_below_drewN)) hb⟩
  replace HO : Aside0 (Blk w2 (w.heap.size + 1) 40 [.slice none 0 0, .int .i16 0, .int .i8 0, .int .i16 0]) := ⟨Blk.below (by with_reducible repeat (first | exact HO.out | refine Blk.alloc ?_ _ | refine Rw.alloc ?_ _ | refine Arg.alloc ?_ _ | apply below_alloc | refine Blk.drew ?_ | refine Rw.drew ?_ | refine Arg.drew ?_ | apply below_drew | refine Blk.drewN ?_ _ | refine Rw.drewN ?_ _ | refine Arg.drewN ?_ _ | apply pw_below_drewN)) hb⟩
  replace HV0 : Aside0 (Blk w2 (w.heap.size + 2) 45 []) := ⟨Blk.below (by with_reducible repeat (first | exact HV0.out | refine Blk.alloc ?_ _ | refine Rw.alloc ?_ _ | refine Arg.alloc ?_ _ | apply below_alloc | refine Blk.drew ?_ | refine Rw.drew ?_ | refine Arg.drew ?_ | apply below_drew | refine Blk.drewN ?_ _ | refine Rw.drewN ?_ _ | refine Arg.drewN ?_ _ | apply pw_below_drewN)) hb⟩
  replace HR0 : Aside0 (Rw w2 g n f) := ⟨Rw.below (by with_reducible repeat (first | exact HR0.out | refine Blk.alloc ?_ _ | refine Rw.alloc ?_ _ | refine Arg.alloc ?_ _ | apply below_alloc | refine Blk.drew ?_ | refine Rw.drew ?_ | refine Arg.drew ?_ | apply below_drew | refine Blk.drewN ?_ _ | refine Rw.drewN ?_ _ | refine Arg.drewN ?_ _ | apply pw_below_drewN)) hb⟩
  replace HW : Aside0 (Below w.heap.size w w2) := ⟨below_step (by with_reducible repeat (first | exact HW.out | refine Blk.alloc ?_ _ | refine Rw.alloc ?_ _ | refine Arg.alloc ?_ _ | apply below_alloc | refine Blk.drew ?_ | refine Rw.drew ?_ | refine Arg.drew ?_ | apply below_drew | refine Blk.drewN ?_ _ | refine Rw.drewN ?_ _ | refine Arg.drewN ?_ _ | apply pw_below_drewN)) hb⟩
  clear hb
  have HR1 := Aside0.mk hR_
  clear hR_ hg_
  go_wp2_with (fail)
  obtain ⟨hb, hhb⟩ : ∃ hb, w2.heap.size = hb := ⟨_, rfl⟩
  have hz0 := HO.out.lt
  have HX : Aside0 (Blk (w2.alloc (.cells #[.slice (some ⟨g1, 0, none⟩) n c1, .int .i16 tub, .int .i8 every, .int .i16 today] 40)) hb 40 (hcells (some ⟨g1, 0, none⟩) n c1 tub every (today + ((0 : Nat) : Int)))) := ⟨by rw [show today + ((0 : Nat) : Int) = today from Int.add_zero _]; exact Blk.at_ (by first | omega | (simp; done) | (simp; omega)) rfl⟩
  have HO2 : Aside0 (Blk (w2.alloc (.cells #[.slice (some ⟨g1, 0, none⟩) n c1, .int .i16 tub, .int .i8 every, .int .i16 today] 40)) (w.heap.size + 1) 40 [.slice none 0 0, .int .i16 0, .int .i8 0, .int .i16 0]) := ⟨HO.out.alloc (.cells #[.slice (some ⟨g1, 0, none⟩) n c1, .int .i16 tub, .int .i8 every, .int .i16 today] 40)⟩
  have hq3 : hb ≠ g1 := by omega
  have hwb : w.heap.size + 2 < hb := by omega
  have hwg : w.heap.size + 2 ≤ g1 := by omega
  rw [hhb]
  have HR2 : Aside0 (Rw (w2.alloc (.cells #[.slice (some ⟨g1, 0, none⟩) n c1, .int .i16 tub, .int .i8 every, .int .i16 today] 40)) g1 n (daF f l n tub every today 0)) := ⟨HR1.out.alloc _⟩
  have HSH : Aside0 (Sh (w2.alloc (.cells #[.slice (some ⟨g1, 0, none⟩) n c1, .int .i16 tub, .int .i8 every, .int .i16 today] 40)) w.heap.size g1 hb (w.heap.size + 1) (.slice (some ⟨w.heap.size + 2, 0, none⟩) 0 0) (daS f l n tub every today 0)) := ⟨Sh.of_blk (HV0.out.alloc _) (by omega) (by omega) (by omega) (by omega)⟩
  have HNB : Aside0 (∀ i, i < 0 → needB (Nof (l.getD i [])) n = true) := ⟨fun i hi => by omega⟩
  replace HW : Aside0 (Below w.heap.size w (w2.alloc (.cells #[.slice (some ⟨g1, 0, none⟩) n c1, .int .i16 tub, .int .i8 every, .int .i16 today] 40))) := ⟨by repeat (first | exact HW.out | refine below_alloc ?_ _)⟩
  clear HB0 HR0 HR1 HO HV0 HOW HK HDD hhb
  go_loopw [7, 9] (fun v7 v9 w' => ∃ (k : Nat) (v : Value), k ≤ l.length ∧ today + (k : Int) ≤ 60 ∧ v7 = v ∧ v9 = .int .i64 k ∧ Aside0 (daC l n today (l.length - k) k = code) ∧ Aside0 (∀ i, i < k → needB (Nof (l.getD i [])) n = true) ∧ Aside0 (Sh w' w.heap.size g1 hb (w.heap.size + 1) v (daS f l n tub every today k)) ∧ Aside0 (Rw w' g1 n (daF f l n tub every today k)) ∧ Aside0 (Blk w' hb 40 (hcells (some ⟨g1, 0, none⟩) n c1 tub every (today + (k : Int)))) ∧ Aside0 (Blk w' (w.heap.size + 1) 40 [.slice none 0 0, .int .i16 0, .int .i8 0, .int .i16 0]) ∧ Aside0 (Below w.heap.size w w')) (fun _ v9 _ => l.length - (intOf v9).toNat)
  case atStart => exact ⟨0, _, by omega, by omega, rfl, rfl, ⟨HCO.out⟩, HNB, HSH, HR2, HX, HO2, HW⟩
  case round =>
    clear HSH HR2 HX HO2 HW HNB HCO
    obtain ⟨k, v, hk, hk6, rfl, rfl, HCO, HNB, HSH, HR, HH, HO, HW⟩ := hrel
    obtain ⟨wo, rfl⟩ : ∃ wo : World, wo = wr := ⟨_, rfl⟩
    have hk9 : IntKind.i64.wrap ((k : Int) + 1) = (k : Int) + 1 := IntWalk.i64_in _ ⟨by omega, by omega⟩
    by_cases hlt : k < l.length
    · have hki : (k : Int) < (l.length : Int) := by omega
      obtain ⟨gD, A', c', hA', cd0, hcc, hND⟩ := HIN.out k hlt
      subst hA'
      have cd := pw_cell_below HW.out cd0
      have HNW := Aside0.mk (hND.below HW.out)
      have HN0 := Aside0.mk hND
      have HG := Aside0.mk (HGG.out k HNB.out)
      clear cd0 hND
      by_cases hdc : dcode l n today k = 0
      · obtain ⟨e1, e2, e3⟩ := dcode_zero hdc hk6
        have HCO2 := Aside0.mk (daC_yes hlt HCO.out hdc)
        have HNB2 : Aside0 (∀ i, i < k + 1 → needB (Nof (l.getD i [])) n = true) := ⟨fun i hi => by rcases Nat.lt_or_ge i k with h | h; exact HNB.out i h; (have : i = k := by omega); subst this; exact e2⟩
        have HFF : Aside0 (daF f l n tub every today (k + 1) = dayF (daF f l n tub every today k) (Nof (l.getD k [])) n tub every (today + (k : Int))) := ⟨rfl⟩
        have HSS : Aside0 (daS f l n tub every today (k + 1) = daS f l n tub every today k ++ [shL (daF f l n tub every today k) (Nof (l.getD k [])) n]) := ⟨rfl⟩
        have HSL := Aside0.mk (daS_len f l n tub every today k)
        have h64 : today + ((k + 1 : Nat) : Int) ≤ 60 := by omega
        rw [e1] at cd HNW HN0 hcc
        obtain ⟨gN, hgN, hNd⟩ := HN0.out (by omega)
        subst hgN
        obtain ⟨gN', hgN', hNd'⟩ := HNW.out (by omega)
        obtain rfl : gN = gN' := by injection hgN' with h_; injection h_
        have hgl := hNd.1
        have HND := Aside0.mk hNd'
        clear hNd hNd' hgN' HNW HN0 HNB HCO
        have HDY : Aside0 (∀ W : World, Blk W hb 40 (hcells (some ⟨g1, 0, none⟩) n c1 tub every (today + (k : Int))) → Rw W g1 n (daF f l n tub every today k) → Nd W gN n (Nof (l.getD k [])) → _) := ⟨fun W hH hB hNd => l05Day_yes (daF f l n tub every today k) _ n c1 g1 hb gN c' tub every (today + (k : Int)) hn2 HG.out e2 ht2 hv2 ⟨by omega, e3⟩ (by omega) (by omega) hq3 W hH hB hNd⟩
        generalize Nof (l.getD k []) = Nk at *
        have HLn : Aside0 ((shL (daF f l n tub every today k) Nk n).length = n) := ⟨shL_len _ _ _⟩
        generalize shL (daF f l n tub every today k) Nk n = Ls at *
        clear hdc e1 e2
        go_wp2_with fail
        refine (HDY.out _ HH.out HR.out HND.out).mono ?_
        rintro e w5 ⟨v2, rfl, hv_, hR_, hH_, hk_⟩
        have hI5 : Ir w5 wo.heap.size v2 Ls := by unfold Ir; rw [HLn.out]; exact hv_
        obtain ⟨gv, cv, hv2e, _⟩ := hI5.nd (by rw [HLn.out]; omega)
        rw [HLn.out] at hv2e
        subst hv2e
        have hv2b : ∀ q, (Value.slice (some ⟨gv, 0, none⟩) n cv).ownBlock = some q → wo.heap.size ≤ q := fun q hq => own_base hI5 q hq
        have hvol := HSH.out.lt
        have hz1 := HR.out.lt
        have hz2 := HH.out.lt
        have hz3 := HO.out.lt
        have hz4 := Below.size HW.out
        have HSH5 := Aside0.mk (HSH.out.kept hk_)
        have HR5 : Aside0 (Rw w5 g1 n (daF f l n tub every today (k + 1))) := ⟨by rw [HFF.out]; exact hR_⟩
        have HH5 : Aside0 (Blk w5 hb 40 (hcells (some ⟨g1, 0, none⟩) n c1 tub every (today + (k : Int) + 1))) := ⟨hH_⟩
        have HO5 : Aside0 (Blk w5 (w.heap.size + 1) 40 [.slice none 0 0, .int .i16 0, .int .i8 0, .int .i16 0]) := ⟨Blk.kept HO.out hk_ (by rintro (h_ | h_) <;> omega)⟩
        have HW5 : Aside0 (Below w.heap.size w w5) := ⟨below_kept HW.out hk_ (by rintro k_ (rfl | rfl) <;> omega)⟩
        have hz5 := hk_.2.1
        have HI5 : Aside0 ((Kd.int .i64).R 2 w5 w.heap.size (fun q => (Value.slice (some ⟨gv, 0, none⟩) n cv).ownBlock = some q) (.slice (some ⟨gv, 0, none⟩) n cv) Ls) := ⟨(hI5.lower hz4).row⟩
        have HOK : Aside0 (∀ q, (Value.slice (some ⟨gv, 0, none⟩) n cv).ownBlock = some q → (q ≠ g1 ∧ q ≠ hb ∧ q ≠ w.heap.size + 1) ∧ some q ≠ u7.ownBlock) := ⟨fun q hq => ⟨by have := hv2b q hq; omega, fun he => by have := hv2b q hq; have := hvol q he.symm; omega⟩⟩
        have hNE1 : some g1 ≠ u7.ownBlock := HSH.out.ne (.inl rfl)
        have hNE2 : some hb ≠ u7.ownBlock := HSH.out.ne (.inr (.inl rfl))
        have hNE3 : some (w.heap.size + 1) ≠ u7.ownBlock := HSH.out.ne (.inr (.inr rfl))
        clear hv_ hR_ hH_ hk_ hI5 hv2b hvol HSH HR HH HO HW HND HDY
        go_wp2_with (at_builtin; refine Kd.R_append (Kd.slice 2 (Kd.int .i64)) w.heap.size (by rfl) _ _ 57 45 (.slice none 0 0) 24 (by rfl) Try.underlying57 (by kernel_rfl) (by rfl) (by decide) (by decide) u7 (daS f l n tub every today k) Ls [.slice (some ⟨gv, 0, none⟩) n cv] (fun q => q ≠ g1 ∧ q ≠ hb ∧ q ≠ w.heap.size + 1) (fun q => (Value.slice (some ⟨gv, 0, none⟩) n cv).ownBlock = some q) (by rfl) (by rfl) ⟨_, rfl, HI5.out⟩ HOK.out (fun q hq => by omega) HSH5.out HW5.out (by omega) (by rw [HSL.out]; omega) ?_; intro v6 w6 hR6 hB6 hg6 hat6; have HSH6 : Aside0 (Sh w6 w.heap.size g1 hb (w.heap.size + 1) v6 (daS f l n tub every today (k + 1))) := ⟨by rw [HSS.out]; exact hR6⟩; have HR6 := Aside0.mk (HR5.out.grown hg6 hNE1); have HH6 := Aside0.mk (HH5.out.grown hg6 hNE2); have HO6 := Aside0.mk (HO5.out.grown hg6 hNE3); have HW6 : Aside0 (Below w.heap.size w w6) := ⟨hB6⟩; clear hR6 hB6 hg6 hat6 HSH5 HR5 HH5 HO5 HW5 HI5 HOK hNE1 hNE2 hNE3)
        go_roundw
        case rel => exact ⟨k + 1, _, by omega, h64, rfl, by go_num, HCO2, HNB2, HSH6, HR6, ⟨by rw [show today + ((k + 1 : Nat) : Int) = today + (k : Int) + 1 by omega]; exact HH6.out⟩, HO6, HW6⟩
        case measure => simp [intOf] <;> omega
      · have HCE := Aside0.mk (daC_no hlt HCO.out hdc)
        rw [HCE.out] at hdc
        have HDN := Aside0.mk (fun W hH hA => l05Day_no (Nof (l.getD k [])) (l.getD k []).length n c1 g1 hb c' A' tub every (today + (k : Int)) (by have := HLM.out k; omega) code HCE.out hdc W hH hA)
        generalize (l.getD k []).length = mk at *
        generalize Nof (l.getD k []) = Nk at *
        have hc0 := hdc
        have hc1 : (code != 0) = true := by simpa using hdc
        have hc2 : (code == 0) = false := by simpa using hdc
        have hc3 : decide (code = 0) = false := decide_eq_false hdc
        go_wp2_with fail
        refine (HDN.out _ HH.out HNW.out).mono ?_
        rintro e w6 ⟨v2, rfl, hv_, hb_⟩
        replace HO := Aside0.mk (HO.out.below hb_)
        replace HW : Aside0 (Below w.heap.size w w6) := ⟨below_step HW.out hb_⟩
        have hs6 := HO.out.lt
        clear hv_ hb_ HH HR HSH HDN HNW HN0
        go_wp2_with (first | (refine wl_store (by rfl) 40 _ _ (by rfl) (w.heap.size + 1) 0 (by rfl) 40 4 [.slice none 0 0, .int .i16 0, .int .i8 0, .int .i16 0] [.slice none 0 0, .int .i16 0, .int .i8 0, .int .i16 0] (by rfl) (by with_reducible repeat (first | exact HO.out | refine Blk.alloc ?_ _ | refine Rw.alloc ?_ _ | refine Arg.alloc ?_ _ | apply below_alloc | refine Blk.drew ?_ | refine Rw.drew ?_ | refine Arg.drew ?_ | apply below_drew | refine Blk.drewN ?_ _ | refine Rw.drewN ?_ _ | refine Arg.drewN ?_ _ | apply pw_below_drewN)) (by rfl) (by decide) (by kernel_rfl) (by rfl) ?_; intro w9 hw_ hg_; have HO9 : Aside0 (Blk w9 (w.heap.size + 1) 40 [.slice none 0 0, .int .i16 0, .int .i8 0, .int .i16 0]) := ⟨Blk.all hw_ (by decide)⟩; have HW9 : Aside0 (Below w.heap.size w w9) := ⟨below_grown (by with_reducible repeat (first | exact HW.out | refine Blk.alloc ?_ _ | refine Rw.alloc ?_ _ | refine Arg.alloc ?_ _ | apply below_alloc | refine Blk.drew ?_ | refine Rw.drew ?_ | refine Arg.drew ?_ | apply below_drew | refine Blk.drewN ?_ _ | refine Rw.drewN ?_ _ | refine Arg.drewN ?_ _ | apply pw_below_drewN)) (by omega) (Below.size (by with_reducible repeat (first | exact HW.out | refine Blk.alloc ?_ _ | refine Rw.alloc ?_ _ | refine Arg.alloc ?_ _ | apply below_alloc | refine Blk.drew ?_ | refine Rw.drew ?_ | refine Arg.drew ?_ | apply below_drew | refine Blk.drewN ?_ _ | refine Rw.drewN ?_ _ | refine Arg.drewN ?_ _ | apply pw_below_drewN))) hg_⟩; clear hw_ hg_))
        refine bodyPost_ret (v := .tuple #[.agg #[.slice none 0 0, .int .i16 0, .int .i8 0, .int .i16 0], .slice (some ⟨w6.heap.size, 0, none⟩) 0 0, .int .i64 code]) (results_cell3 (by rfl) _ _ (w.heap.size + 1) [.slice none 0 0, .int .i16 0, .int .i8 0, .int .i16 0] _ _ _ (by rfl) (by rfl) (by rfl) HO9.out.whole Try.underlying40 (by rfl) (by kernel_rfl)) rfl (.inl ⟨hc0, ⟨_, rfl⟩, HW9.out⟩)
    · have ek : k = l.length := by omega
      have HZ : Aside0 (code = 0) := ⟨by rw [← HCO.out, ek, Nat.sub_self]; rfl⟩
      subst ek
      have hx1 := HH.out.lt
      have hx2 := HR.out.lt
      clear HCO HNB hlt HIN
      have HX := HH
      go_wp2_with (first | (refine wl_load (by rfl) 40 _ (by rfl) (hb) 0 (by rfl) 40 4 [.slice (some ⟨g1, 0, none⟩) n c1, .int .i16 tub, .int .i8 every, .int .i16 (today + (l.length : Int))] [.slice (some ⟨g1, 0, none⟩) n c1, .int .i16 tub, .int .i8 every, .int .i16 (today + (l.length : Int))] (by with_reducible repeat (first | exact HX.out | refine Blk.alloc ?_ _ | refine Rw.alloc ?_ _ | refine Arg.alloc ?_ _ | apply below_alloc | refine Blk.drew ?_ | refine Rw.drew ?_ | refine Arg.drew ?_ | apply below_drew | refine Blk.drewN ?_ _ | refine Rw.drewN ?_ _ | refine Arg.drewN ?_ _ | apply pw_below_drewN)) (by rfl) (by rfl) _ Try.underlying40 (by rfl) (by kernel_rfl) ?_) | (refine wl_store (by rfl) 40 _ _ (by rfl) (w.heap.size + 1) 0 (by rfl) 40 4 [.slice none 0 0, .int .i16 0, .int .i8 0, .int .i16 0] [.slice (some ⟨g1, 0, none⟩) n c1, .int .i16 tub, .int .i8 every, .int .i16 (today + (l.length : Int))] (by rfl) (by with_reducible repeat (first | exact HO.out | refine Blk.alloc ?_ _ | refine Rw.alloc ?_ _ | refine Arg.alloc ?_ _ | apply below_alloc | refine Blk.drew ?_ | refine Rw.drew ?_ | refine Arg.drew ?_ | apply below_drew | refine Blk.drewN ?_ _ | refine Rw.drewN ?_ _ | refine Arg.drewN ?_ _ | apply pw_below_drewN)) (by rfl) (by decide) (by kernel_rfl) (by rfl) ?_; intro w9 hw_ hg_; have HO9 : Aside0 (Blk w9 (w.heap.size + 1) 40 [.slice (some ⟨g1, 0, none⟩) n c1, .int .i16 tub, .int .i8 every, .int .i16 (today + (l.length : Int))]) := ⟨Blk.all hw_ (by decide)⟩; have HW9 : Aside0 (Below w.heap.size w w9) := ⟨below_grown (by with_reducible repeat (first | exact HW.out | refine Blk.alloc ?_ _ | refine Rw.alloc ?_ _ | refine Arg.alloc ?_ _ | apply below_alloc | refine Blk.drew ?_ | refine Rw.drew ?_ | refine Arg.drew ?_ | apply below_drew | refine Blk.drewN ?_ _ | refine Rw.drewN ?_ _ | refine Arg.drewN ?_ _ | apply pw_below_drewN)) (by omega) (Below.size (by with_reducible repeat (first | exact HW.out | refine Blk.alloc ?_ _ | refine Rw.alloc ?_ _ | refine Arg.alloc ?_ _ | apply below_alloc | refine Blk.drew ?_ | refine Rw.drew ?_ | refine Arg.drew ?_ | apply below_drew | refine Blk.drewN ?_ _ | refine Rw.drewN ?_ _ | refine Arg.drewN ?_ _ | apply pw_below_drewN))) hg_⟩; have HR9 : Aside0 (Rw w9 g1 n (daF f l n tub every today l.length)) := ⟨Rw.grown (by with_reducible repeat (first | exact HR.out | refine Blk.alloc ?_ _ | refine Rw.alloc ?_ _ | refine Arg.alloc ?_ _ | apply below_alloc | refine Blk.drew ?_ | refine Rw.drew ?_ | refine Arg.drew ?_ | apply below_drew | refine Blk.drewN ?_ _ | refine Rw.drewN ?_ _ | refine Arg.drewN ?_ _ | apply pw_below_drewN)) hg_ (by intro h_; injection h_ with h_; omega)⟩; have HSH9 : Aside0 (Sh w9 w.heap.size g1 hb (w.heap.size + 1) u7 (daS f l n tub every today l.length)) := ⟨Kd.R_grown HSH.out hg_ (fun q hq he => by injection he with he; exact hq.2.2 he)⟩; clear hw_ hg_))
      refine bodyPost_ret (v := .tuple #[.agg #[.slice (some ⟨g1, 0, none⟩) n c1, .int .i16 tub, .int .i8 every, .int .i16 (today + (l.length : Int))], u7, .int .i64 0]) (results_cell3 (by rfl) _ _ (w.heap.size + 1) [.slice (some ⟨g1, 0, none⟩) n c1, .int .i16 tub, .int .i8 every, .int .i16 (today + (l.length : Int))] _ _ _ (by rfl) (by rfl) (by rfl) HO9.out.whole Try.underlying40 (by rfl) (by kernel_rfl)) rfl (.inr ⟨HZ.out, ⟨g1, c1, _, rfl, by omega, HR9.out, HSH9.out.dy⟩, HW9.out⟩)
set_option maxHeartbeats 8000000 in
set_option maxRecDepth 100000 in
theorem implDA_bad (f : Nat → Int) (n c g : Nat) (l : List (List Int)) (A : Option Addr) (cD : Nat) (tub every today : Int) (hn : n ≤ 1048576) (hlm : ∀ i, (l.getD i []).length ≤ 1048576) (hl : l.length ≤ 1048576) (hcD : l.length ≤ cD) (hR : Rng f n) (ht : -32768 ≤ tub ∧ tub ≤ 32767) (hv : -128 ≤ every ∧ every ≤ 127) (hd : -32768 ≤ today ∧ today ≤ 32767) (code : Int) (hco : firstL [if houseB f n tub every today = true then 0 else 1, if decide ((l.length : Int) ≤ 60) = true then 0 else 3] = code) (hc0 : code ≠ 0) (w : World) (hB : Rw w g n f) (hD : Dy w (.slice A l.length cD) l) :
    Calls Try.prog 105 #[.agg #[.slice (some ⟨g, 0, none⟩) n c, .int .i16 tub, .int .i8 every, .int .i16 today], .slice A l.length cD] w fun e w' => (∃ v : Value, e = .returned (.tuple #[.agg #[.slice none 0 0, .int .i16 0, .int .i8 0, .int .i16 0], v, .int .i64 code])) ∧ Below w.heap.size w w' := by
  have HB0 : Aside0 (Blk ((w.alloc (.cells #[.slice (some ⟨g, 0, none⟩) n c, .int .i16 tub, .int .i8 every, .int .i16 today] 40)).alloc (.cells #[.slice none 0 0, .int .i16 0, .int .i8 0, .int .i16 0] 40)) w.heap.size 40 [.slice (some ⟨g, 0, none⟩) n c, .int .i16 tub, .int .i8 every, .int .i16 today]) := ⟨(Blk.new w _ _).alloc _⟩
  have HO : Aside0 (Blk ((w.alloc (.cells #[.slice (some ⟨g, 0, none⟩) n c, .int .i16 tub, .int .i8 every, .int .i16 today] 40)).alloc (.cells #[.slice none 0 0, .int .i16 0, .int .i8 0, .int .i16 0] 40)) (w.heap.size + 1) 40 [.slice none 0 0, .int .i16 0, .int .i8 0, .int .i16 0]) := ⟨Blk.at_ (by simp) rfl⟩
  have HW : Aside0 (Below w.heap.size w ((w.alloc (.cells #[.slice (some ⟨g, 0, none⟩) n c, .int .i16 tub, .int .i8 every, .int .i16 today] 40)).alloc (.cells #[.slice none 0 0, .int .i16 0, .int .i8 0, .int .i16 0] 40))) := ⟨below_alloc (below_alloc (Below.refl _ _) _) _⟩
  have HR0 : Aside0 (Rw ((w.alloc (.cells #[.slice (some ⟨g, 0, none⟩) n c, .int .i16 tub, .int .i8 every, .int .i16 today] 40)).alloc (.cells #[.slice none 0 0, .int .i16 0, .int .i8 0, .int .i16 0] 40)) g n f) := ⟨(hB.alloc _).alloc _⟩
  have HDD := Aside0.mk hD
  have hl0 := hB.lt
  have HVH := Aside0.mk (fun W h => implVH_calls f n c g tub every today hn hR ht hv hd W h)
  have HUN := Aside0.mk (fun W => below_q (unless_q (houseB f n tub every today) 1 W))
  have HU6 := Aside0.mk (fun W => below_q (unless_q (decide ((l.length : Int) ≤ 60)) 3 W))
  have HFO := Aside0.mk (fun W gg => firstOf_two1 (if houseB f n tub every today = true then 0 else 1) (if decide ((l.length : Int) ≤ 60) = true then 0 else 3) gg W)
  rw [hco] at HFO
  generalize (if houseB f n tub every today = true then (0 : Int) else 1) = r1 at *
  generalize (if decide ((l.length : Int) ≤ 60) = true then (0 : Int) else 3) = r2 at *
  generalize houseB f n tub every today = okb at *
  have hc1 : (code != 0) = true := by simpa using hc0
  have hc2 : (code == 0) = false := by simpa using hc0
  have hc3 : decide (code = 0) = false := decide_eq_false hc0
  clear hco hc0
  clear hB hD hR ht hv hd hn hl hcD hlm
  go_enter Try.func105, Try.ntmps105
  go_wp2_with (first | (refine wl_load (by rfl) 40 _ (by rfl) (w.heap.size) 0 (by rfl) 40 4 [.slice (some ⟨g, 0, none⟩) n c, .int .i16 tub, .int .i8 every, .int .i16 today] [.slice (some ⟨g, 0, none⟩) n c, .int .i16 tub, .int .i8 every, .int .i16 today] (by with_reducible repeat (first | exact HB0.out | refine Blk.alloc ?_ _ | refine Rw.alloc ?_ _ | refine Arg.alloc ?_ _ | apply below_alloc | refine Blk.drew ?_ | refine Rw.drew ?_ | refine Arg.drew ?_ | apply below_drew | refine Blk.drewN ?_ _ | refine Rw.drewN ?_ _ | refine Arg.drewN ?_ _ | apply pw_below_drewN)) (by rfl) (by rfl) _ Try.underlying40 (by rfl) (by kernel_rfl) ?_))
  refine (HVH.out _ (by with_reducible repeat (first | exact HR0.out | refine Blk.alloc ?_ _ | refine Rw.alloc ?_ _ | refine Arg.alloc ?_ _ | apply below_alloc | refine Blk.drew ?_ | refine Rw.drew ?_ | refine Arg.drew ?_ | apply below_drew | refine Blk.drewN ?_ _ | refine Rw.drewN ?_ _ | refine Arg.drewN ?_ _ | apply pw_below_drewN))).mono ?_
  rintro e w1 ⟨rfl, hb⟩
  have hs_w1 := Below.size hb
  (try simp at hs_w1)
  replace HB0 : Aside0 (Blk w1 (w.heap.size) 40 [.slice (some ⟨g, 0, none⟩) n c, .int .i16 tub, .int .i8 every, .int .i16 today]) := ⟨Blk.below (by with_reducible repeat (first | exact HB0.out | refine Blk.alloc ?_ _ | refine Rw.alloc ?_ _ | refine Arg.alloc ?_ _ | apply below_alloc | refine Blk.drew ?_ | refine Rw.drew ?_ | refine Arg.drew ?_ | apply below_drew | refine Blk.drewN ?_ _ | refine Rw.drewN ?_ _ | refine Arg.drewN ?_ _ | apply pw_below_drewN)) hb⟩
  replace HO : Aside0 (Blk w1 (w.heap.size + 1) 40 [.slice none 0 0, .int .i16 0, .int .i8 0, .int .i16 0]) := ⟨Blk.below (by with_reducible repeat (first | exact HO.out | refine Blk.alloc ?_ _ | refine Rw.alloc ?_ _ | refine Arg.alloc ?_ _ | apply below_alloc | refine Blk.drew ?_ | refine Rw.drew ?_ | refine Arg.drew ?_ | apply below_drew | refine Blk.drewN ?_ _ | refine Rw.drewN ?_ _ | refine Arg.drewN ?_ _ | apply pw_below_drewN)) hb⟩
  replace HR0 : Aside0 (Rw w1 g n f) := ⟨Rw.below (by with_reducible repeat (first | exact HR0.out | refine Blk.alloc ?_ _ | refine Rw.alloc ?_ _ | refine Arg.alloc ?_ _ | apply below_alloc | refine Blk.drew ?_ | refine Rw.drew ?_ | refine Arg.drew ?_ | apply below_drew | refine Blk.drewN ?_ _ | refine Rw.drewN ?_ _ | refine Arg.drewN ?_ _ | apply pw_below_drewN)) hb⟩
  replace HW : Aside0 (Below w.heap.size w w1) := ⟨below_step (by with_reducible repeat (first | exact HW.out | refine Blk.alloc ?_ _ | refine Rw.alloc ?_ _ | refine Arg.alloc ?_ _ | apply below_alloc | refine Blk.drew ?_ | refine Rw.drew ?_ | refine Arg.drew ?_ | apply below_drew | refine Blk.drewN ?_ _ | refine Rw.drewN ?_ _ | refine Arg.drewN ?_ _ | apply pw_below_drewN)) hb⟩
  clear hb
  go_wp2_with (fail)
  refine (HUN.out _).mono ?_
  rintro e w2 ⟨rfl, hb⟩
  have hs_w2 := Below.size hb
  (try simp at hs_w2)
  replace HB0 : Aside0 (Blk w2 (w.heap.size) 40 [.slice (some ⟨g, 0, none⟩) n c, .int .i16 tub, .int .i8 every, .int .i16 today]) := ⟨Blk.below (by with_reducible repeat (first | exact HB0.out | refine Blk.alloc ?_ _ | refine Rw.alloc ?_ _ | refine Arg.alloc ?_ _ | apply below_alloc | refine Blk.drew ?_ | refine Rw.drew ?_ | refine Arg.drew ?_ | apply below_drew | refine Blk.drewN ?_ _ | refine Rw.drewN ?_ _ | refine Arg.drewN ?_ _ | apply pw_below_drewN)) hb⟩
  replace HO : Aside0 (Blk w2 (w.heap.size + 1) 40 [.slice none 0 0, .int .i16 0, .int .i8 0, .int .i16 0]) := ⟨Blk.below (by with_reducible repeat (first | exact HO.out | refine Blk.alloc ?_ _ | refine Rw.alloc ?_ _ | refine Arg.alloc ?_ _ | apply below_alloc | refine Blk.drew ?_ | refine Rw.drew ?_ | refine Arg.drew ?_ | apply below_drew | refine Blk.drewN ?_ _ | refine Rw.drewN ?_ _ | refine Arg.drewN ?_ _ | apply pw_below_drewN)) hb⟩
  replace HR0 : Aside0 (Rw w2 g n f) := ⟨Rw.below (by with_reducible repeat (first | exact HR0.out | refine Blk.alloc ?_ _ | refine Rw.alloc ?_ _ | refine Arg.alloc ?_ _ | apply below_alloc | refine Blk.drew ?_ | refine Rw.drew ?_ | refine Arg.drew ?_ | apply below_drew | refine Blk.drewN ?_ _ | refine Rw.drewN ?_ _ | refine Arg.drewN ?_ _ | apply pw_below_drewN)) hb⟩
  replace HW : Aside0 (Below w.heap.size w w2) := ⟨below_step (by with_reducible repeat (first | exact HW.out | refine Blk.alloc ?_ _ | refine Rw.alloc ?_ _ | refine Arg.alloc ?_ _ | apply below_alloc | refine Blk.drew ?_ | refine Rw.drew ?_ | refine Arg.drew ?_ | apply below_drew | refine Blk.drewN ?_ _ | refine Rw.drewN ?_ _ | refine Arg.drewN ?_ _ | apply pw_below_drewN)) hb⟩
  clear hb
  go_wp2_with (fail)
  refine (HU6.out _).mono ?_
  rintro e w3 ⟨rfl, hb⟩
  have hs_w3 := Below.size hb
  (try simp at hs_w3)
  replace HB0 : Aside0 (Blk w3 (w.heap.size) 40 [.slice (some ⟨g, 0, none⟩) n c, .int .i16 tub, .int .i8 every, .int .i16 today]) := ⟨Blk.below (by with_reducible repeat (first | exact HB0.out | refine Blk.alloc ?_ _ | refine Rw.alloc ?_ _ | refine Arg.alloc ?_ _ | apply below_alloc | refine Blk.drew ?_ | refine Rw.drew ?_ | refine Arg.drew ?_ | apply below_drew | refine Blk.drewN ?_ _ | refine Rw.drewN ?_ _ | refine Arg.drewN ?_ _ | apply pw_below_drewN)) hb⟩
  replace HO : Aside0 (Blk w3 (w.heap.size + 1) 40 [.slice none 0 0, .int .i16 0, .int .i8 0, .int .i16 0]) := ⟨Blk.below (by with_reducible repeat (first | exact HO.out | refine Blk.alloc ?_ _ | refine Rw.alloc ?_ _ | refine Arg.alloc ?_ _ | apply below_alloc | refine Blk.drew ?_ | refine Rw.drew ?_ | refine Arg.drew ?_ | apply below_drew | refine Blk.drewN ?_ _ | refine Rw.drewN ?_ _ | refine Arg.drewN ?_ _ | apply pw_below_drewN)) hb⟩
  replace HR0 : Aside0 (Rw w3 g n f) := ⟨Rw.below (by with_reducible repeat (first | exact HR0.out | refine Blk.alloc ?_ _ | refine Rw.alloc ?_ _ | refine Arg.alloc ?_ _ | apply below_alloc | refine Blk.drew ?_ | refine Rw.drew ?_ | refine Arg.drew ?_ | apply below_drew | refine Blk.drewN ?_ _ | refine Rw.drewN ?_ _ | refine Arg.drewN ?_ _ | apply pw_below_drewN)) hb⟩
  replace HW : Aside0 (Below w.heap.size w w3) := ⟨below_step (by with_reducible repeat (first | exact HW.out | refine Blk.alloc ?_ _ | refine Rw.alloc ?_ _ | refine Arg.alloc ?_ _ | apply below_alloc | refine Blk.drew ?_ | refine Rw.drew ?_ | refine Arg.drew ?_ | apply below_drew | refine Blk.drewN ?_ _ | refine Rw.drewN ?_ _ | refine Arg.drewN ?_ _ | apply pw_below_drewN)) hb⟩
  clear hb
  go_wp2_with (fail)
  refine (HFO.out _ _ (fun j hj => by match j, hj with | 0, _ => (first | rfl | (simp; done)) | 1, _ => (first | rfl | (simp; done)))).mono ?_
  rintro e w4 ⟨rfl, hb⟩
  have hs_w4 := Below.size hb
  (try simp at hs_w4)
  replace HB0 : Aside0 (Blk w4 (w.heap.size) 40 [.slice (some ⟨g, 0, none⟩) n c, .int .i16 tub, .int .i8 every, .int .i16 today]) := ⟨Blk.below (by with_reducible repeat (first | exact HB0.out | refine Blk.alloc ?_ _ | refine Rw.alloc ?_ _ | refine Arg.alloc ?_ _ | apply below_alloc | refine Blk.drew ?_ | refine Rw.drew ?_ | refine Arg.drew ?_ | apply below_drew | refine Blk.drewN ?_ _ | refine Rw.drewN ?_ _ | refine Arg.drewN ?_ _ | apply pw_below_drewN)) hb⟩
  replace HO : Aside0 (Blk w4 (w.heap.size + 1) 40 [.slice none 0 0, .int .i16 0, .int .i8 0, .int .i16 0]) := ⟨Blk.below (by with_reducible repeat (first | exact HO.out | refine Blk.alloc ?_ _ | refine Rw.alloc ?_ _ | refine Arg.alloc ?_ _ | apply below_alloc | refine Blk.drew ?_ | refine Rw.drew ?_ | refine Arg.drew ?_ | apply below_drew | refine Blk.drewN ?_ _ | refine Rw.drewN ?_ _ | refine Arg.drewN ?_ _ | apply pw_below_drewN)) hb⟩
  replace HR0 : Aside0 (Rw w4 g n f) := ⟨Rw.below (by with_reducible repeat (first | exact HR0.out | refine Blk.alloc ?_ _ | refine Rw.alloc ?_ _ | refine Arg.alloc ?_ _ | apply below_alloc | refine Blk.drew ?_ | refine Rw.drew ?_ | refine Arg.drew ?_ | apply below_drew | refine Blk.drewN ?_ _ | refine Rw.drewN ?_ _ | refine Arg.drewN ?_ _ | apply pw_below_drewN)) hb⟩
  replace HW : Aside0 (Below w.heap.size w w4) := ⟨below_step (by with_reducible repeat (first | exact HW.out | refine Blk.alloc ?_ _ | refine Rw.alloc ?_ _ | refine Arg.alloc ?_ _ | apply below_alloc | refine Blk.drew ?_ | refine Rw.drew ?_ | refine Arg.drew ?_ | apply below_drew | refine Blk.drewN ?_ _ | refine Rw.drewN ?_ _ | refine Arg.drewN ?_ _ | apply pw_below_drewN)) hb⟩
  clear hb
  go_wp2_with (first | (refine wl_store (by rfl) 40 _ _ (by rfl) (w.heap.size + 1) 0 (by rfl) 40 4 [.slice none 0 0, .int .i16 0, .int .i8 0, .int .i16 0] [.slice none 0 0, .int .i16 0, .int .i8 0, .int .i16 0] (by rfl) (by with_reducible repeat (first | exact HO.out | refine Blk.alloc ?_ _ | refine Rw.alloc ?_ _ | refine Arg.alloc ?_ _ | apply below_alloc | refine Blk.drew ?_ | refine Rw.drew ?_ | refine Arg.drew ?_ | apply below_drew | refine Blk.drewN ?_ _ | refine Rw.drewN ?_ _ | refine Arg.drewN ?_ _ | apply pw_below_drewN)) (by rfl) (by decide) (by kernel_rfl) (by rfl) ?_; intro w9 hw_ hg_; have HO9 : Aside0 (Blk w9 (w.heap.size + 1) 40 [.slice none 0 0, .int .i16 0, .int .i8 0, .int .i16 0]) := ⟨Blk.all hw_ (by decide)⟩; have HW9 : Aside0 (Below w.heap.size w w9) := ⟨below_grown (by with_reducible repeat (first | exact HW.out | refine Blk.alloc ?_ _ | refine Rw.alloc ?_ _ | refine Arg.alloc ?_ _ | apply below_alloc | refine Blk.drew ?_ | refine Rw.drew ?_ | refine Arg.drew ?_ | apply below_drew | refine Blk.drewN ?_ _ | refine Rw.drewN ?_ _ | refine Arg.drewN ?_ _ | apply pw_below_drewN)) (by omega) (Below.size (by with_reducible repeat (first | exact HW.out | refine Blk.alloc ?_ _ | refine Rw.alloc ?_ _ | refine Arg.alloc ?_ _ | apply below_alloc | refine Blk.drew ?_ | refine Rw.drew ?_ | refine Arg.drew ?_ | apply below_drew | refine Blk.drewN ?_ _ | refine Rw.drewN ?_ _ | refine Arg.drewN ?_ _ | apply pw_below_drewN))) hg_⟩; have HR09 : Aside0 (Rw w9 g n f) := ⟨Rw.grown (by with_reducible repeat (first | exact HR0.out | refine Blk.alloc ?_ _ | refine Rw.alloc ?_ _ | refine Arg.alloc ?_ _ | apply below_alloc | refine Blk.drew ?_ | refine Rw.drew ?_ | refine Arg.drew ?_ | apply below_drew | refine Blk.drewN ?_ _ | refine Rw.drewN ?_ _ | refine Arg.drewN ?_ _ | apply pw_below_drewN)) hg_ (by intro h_; injection h_ with h_; omega)⟩; clear hw_ hg_))
  refine bodyPost_ret (v := .tuple #[.agg #[.slice none 0 0, .int .i16 0, .int .i8 0, .int .i16 0], .slice none 0 0, .int .i64 code]) (results_cell3 (by rfl) _ _ (w.heap.size + 1) [.slice none 0 0, .int .i16 0, .int .i8 0, .int .i16 0] _ _ _ (by rfl) (by rfl) (by rfl) HO9.out.whole Try.underlying40 (by rfl) (by kernel_rfl)) rfl ⟨⟨_, rfl⟩, HW9.out⟩
set_option maxHeartbeats 8000000 in
set_option maxRecDepth 100000 in
theorem implDA_go (f : Nat → Int) (n c g : Nat) (l : List (List Int)) (A : Option Addr) (cD : Nat) (tub every today : Int) (hn : n ≤ 1048576) (hlm : ∀ i, (l.getD i []).length ≤ 1048576) (hl : l.length ≤ 1048576) (hcD : l.length ≤ cD) (hR : Rng f n) (ht : -32768 ≤ tub ∧ tub ≤ 32767) (hv : -128 ≤ every ∧ every ≤ 127) (hd : -32768 ≤ today ∧ today ≤ 32767) (hf : houseB f n tub every today = true) (hn4 : 0 < n ∧ n ≤ 4) (hG : Fine f n) (ht1 : 0 ≤ tub ∧ tub ≤ 1000) (hv1 : 1 ≤ every ∧ every ≤ 7) (hd1 : 0 ≤ today ∧ today ≤ 60) (hm6' : l.length ≤ 60) (hco : firstL [if houseB f n tub every today = true then 0 else 1, if decide ((l.length : Int) ≤ 60) = true then 0 else 3] = 0) (code : Int) (hcode : daC l n today l.length 0 = code) (w : World) (hB : Rw w g n f) (hD : Dy w (.slice A l.length cD) l) :
    Calls Try.prog 105 #[.agg #[.slice (some ⟨g, 0, none⟩) n c, .int .i16 tub, .int .i8 every, .int .i16 today], .slice A l.length cD] w fun e w' => DaPost w n l.length tub every today (daF f l n tub every today l.length) (daS f l n tub every today l.length) code e w' := by
  have HB0 : Aside0 (Blk ((w.alloc (.cells #[.slice (some ⟨g, 0, none⟩) n c, .int .i16 tub, .int .i8 every, .int .i16 today] 40)).alloc (.cells #[.slice none 0 0, .int .i16 0, .int .i8 0, .int .i16 0] 40)) w.heap.size 40 [.slice (some ⟨g, 0, none⟩) n c, .int .i16 tub, .int .i8 every, .int .i16 today]) := ⟨(Blk.new w _ _).alloc _⟩
  have HO : Aside0 (Blk ((w.alloc (.cells #[.slice (some ⟨g, 0, none⟩) n c, .int .i16 tub, .int .i8 every, .int .i16 today] 40)).alloc (.cells #[.slice none 0 0, .int .i16 0, .int .i8 0, .int .i16 0] 40)) (w.heap.size + 1) 40 [.slice none 0 0, .int .i16 0, .int .i8 0, .int .i16 0]) := ⟨Blk.at_ (by simp) rfl⟩
  have HW : Aside0 (Below w.heap.size w ((w.alloc (.cells #[.slice (some ⟨g, 0, none⟩) n c, .int .i16 tub, .int .i8 every, .int .i16 today] 40)).alloc (.cells #[.slice none 0 0, .int .i16 0, .int .i8 0, .int .i16 0] 40))) := ⟨below_alloc (below_alloc (Below.refl _ _) _) _⟩
  have HR0 : Aside0 (Rw ((w.alloc (.cells #[.slice (some ⟨g, 0, none⟩) n c, .int .i16 tub, .int .i8 every, .int .i16 today] 40)).alloc (.cells #[.slice none 0 0, .int .i16 0, .int .i8 0, .int .i16 0] 40)) g n f) := ⟨(hB.alloc _).alloc _⟩
  have HDD := Aside0.mk hD
  have hl0 := hB.lt
  have HOW := Aside0.mk (fun W h => own_calls f n c g tub every today hn4 W h)
  have hm6 : l.length ≤ 60 := hm6'
  have HLM := Aside0.mk hlm
  have HCO := Aside0.mk hcode
  have HGG := Aside0.mk (fun k hN => daF_fine (l := l) (every := every) (today := today) hG ht1.1 k hN)
  have ht2 := ht1
  have hv2 := hv1
  have hd2 := hd1
  have hn2 := hn4
  have HIN : Aside0 (∀ i, i < l.length → ∃ g' A' c', A = some ⟨g', 0, none⟩ ∧ w.cell? ⟨g', i, none⟩ = some (.slice A' (l.getD i []).length c') ∧ (l.getD i []).length ≤ c' ∧ NdA w A' (l.getD i []).length (Nof (l.getD i []))) := ⟨fun i hi => hD.at hi⟩
  clear hcode hG ht1 hv1 hd1 hn4
  have HVH := Aside0.mk (fun W h => implVH_calls f n c g tub every today hn hR ht hv hd W h)
  have HUN := Aside0.mk (fun W => below_q (unless_q (houseB f n tub every today) 1 W))
  have HU6 := Aside0.mk (fun W => below_q (unless_q (decide ((l.length : Int) ≤ 60)) 3 W))
  have HFO := Aside0.mk (fun W gg => firstOf_two1 (if houseB f n tub every today = true then 0 else 1) (if decide ((l.length : Int) ≤ 60) = true then 0 else 3) gg W)
  rw [hco] at HFO
  generalize (if houseB f n tub every today = true then (0 : Int) else 1) = r1 at *
  generalize (if decide ((l.length : Int) ≤ 60) = true then (0 : Int) else 3) = r2 at *
  generalize houseB f n tub every today = okb at *
  clear hB hD hR ht hv hd hn hl hcD hlm
  clear hco hf
  go_enter Try.func105, Try.ntmps105
  go_wp2_with (first | (refine wl_load (by rfl) 40 _ (by rfl) (w.heap.size) 0 (by rfl) 40 4 [.slice (some ⟨g, 0, none⟩) n c, .int .i16 tub, .int .i8 every, .int .i16 today] [.slice (some ⟨g, 0, none⟩) n c, .int .i16 tub, .int .i8 every, .int .i16 today] (by with_reducible repeat (first | exact HB0.out | refine Blk.alloc ?_ _ | refine Rw.alloc ?_ _ | refine Arg.alloc ?_ _ | apply below_alloc | refine Blk.drew ?_ | refine Rw.drew ?_ | refine Arg.drew ?_ | apply below_drew | refine Blk.drewN ?_ _ | refine Rw.drewN ?_ _ | refine Arg.drewN ?_ _ | apply pw_below_drewN)) (by rfl) (by rfl) _ Try.underlying40 (by rfl) (by kernel_rfl) ?_))
  refine (HVH.out _ (by with_reducible repeat (first | exact HR0.out | refine Blk.alloc ?_ _ | refine Rw.alloc ?_ _ | refine Arg.alloc ?_ _ | apply below_alloc | refine Blk.drew ?_ | refine Rw.drew ?_ | refine Arg.drew ?_ | apply below_drew | refine Blk.drewN ?_ _ | refine Rw.drewN ?_ _ | refine Arg.drewN ?_ _ | apply pw_below_drewN))).mono ?_
  rintro e w1 ⟨rfl, hb⟩
  have hs_w1 := Below.size hb
  (try simp at hs_w1)
  replace HB0 : Aside0 (Blk w1 (w.heap.size) 40 [.slice (some ⟨g, 0, none⟩) n c, .int .i16 tub, .int .i8 every, .int .i16 today]) := ⟨Blk.below (by with_reducible repeat (first | exact HB0.out | refine Blk.alloc ?_ _ | refine Rw.alloc ?_ _ | refine Arg.alloc ?_ _ | apply below_alloc | refine Blk.drew ?_ | refine Rw.drew ?_ | refine Arg.drew ?_ | apply below_drew | refine Blk.drewN ?_ _ | refine Rw.drewN ?_ _ | refine Arg.drewN ?_ _ | apply pw_below_drewN)) hb⟩
  replace HO : Aside0 (Blk w1 (w.heap.size + 1) 40 [.slice none 0 0, .int .i16 0, .int .i8 0, .int .i16 0]) := ⟨Blk.below (by with_reducible repeat (first | exact HO.out | refine Blk.alloc ?_ _ | refine Rw.alloc ?_ _ | refine Arg.alloc ?_ _ | apply below_alloc | refine Blk.drew ?_ | refine Rw.drew ?_ | refine Arg.drew ?_ | apply below_drew | refine Blk.drewN ?_ _ | refine Rw.drewN ?_ _ | refine Arg.drewN ?_ _ | apply pw_below_drewN)) hb⟩
  replace HR0 : Aside0 (Rw w1 g n f) := ⟨Rw.below (by with_reducible repeat (first | exact HR0.out | refine Blk.alloc ?_ _ | refine Rw.alloc ?_ _ | refine Arg.alloc ?_ _ | apply below_alloc | refine Blk.drew ?_ | refine Rw.drew ?_ | refine Arg.drew ?_ | apply below_drew | refine Blk.drewN ?_ _ | refine Rw.drewN ?_ _ | refine Arg.drewN ?_ _ | apply pw_below_drewN)) hb⟩
  replace HW : Aside0 (Below w.heap.size w w1) := ⟨below_step (by with_reducible repeat (first | exact HW.out | refine Blk.alloc ?_ _ | refine Rw.alloc ?_ _ | refine Arg.alloc ?_ _ | apply below_alloc | refine Blk.drew ?_ | refine Rw.drew ?_ | refine Arg.drew ?_ | apply below_drew | refine Blk.drewN ?_ _ | refine Rw.drewN ?_ _ | refine Arg.drewN ?_ _ | apply pw_below_drewN)) hb⟩
  clear hb
  go_wp2_with (fail)
  refine (HUN.out _).mono ?_
  rintro e w2 ⟨rfl, hb⟩
  have hs_w2 := Below.size hb
  (try simp at hs_w2)
  replace HB0 : Aside0 (Blk w2 (w.heap.size) 40 [.slice (some ⟨g, 0, none⟩) n c, .int .i16 tub, .int .i8 every, .int .i16 today]) := ⟨Blk.below (by with_reducible repeat (first | exact HB0.out | refine Blk.alloc ?_ _ | refine Rw.alloc ?_ _ | refine Arg.alloc ?_ _ | apply below_alloc | refine Blk.drew ?_ | refine Rw.drew ?_ | refine Arg.drew ?_ | apply below_drew | refine Blk.drewN ?_ _ | refine Rw.drewN ?_ _ | refine Arg.drewN ?_ _ | apply pw_below_drewN)) hb⟩
  replace HO : Aside0 (Blk w2 (w.heap.size + 1) 40 [.slice none 0 0, .int .i16 0, .int .i8 0, .int .i16 0]) := ⟨Blk.below (by with_reducible repeat (first | exact HO.out | refine Blk.alloc ?_ _ | refine Rw.alloc ?_ _ | refine Arg.alloc ?_ _ | apply below_alloc | refine Blk.drew ?_ | refine Rw.drew ?_ | refine Arg.drew ?_ | apply below_drew | refine Blk.drewN ?_ _ | refine Rw.drewN ?_ _ | refine Arg.drewN ?_ _ | apply pw_below_drewN)) hb⟩
  replace HR0 : Aside0 (Rw w2 g n f) := ⟨Rw.below (by with_reducible repeat (first | exact HR0.out | refine Blk.alloc ?_ _ | refine Rw.alloc ?_ _ | refine Arg.alloc ?_ _ | apply below_alloc | refine Blk.drew ?_ | refine Rw.drew ?_ | refine Arg.drew ?_ | apply below_drew | refine Blk.drewN ?_ _ | refine Rw.drewN ?_ _ | refine Arg.drewN ?_ _ | apply pw_below_drewN)) hb⟩
  replace HW : Aside0 (Below w.heap.size w w2) := ⟨below_step (by with_reducible repeat (first | exact HW.out | refine Blk.alloc ?_ _ | refine Rw.alloc ?_ _ | refine Arg.alloc ?_ _ | apply below_alloc | refine Blk.drew ?_ | refine Rw.drew ?_ | refine Arg.drew ?_ | apply below_drew | refine Blk.drewN ?_ _ | refine Rw.drewN ?_ _ | refine Arg.drewN ?_ _ | apply pw_below_drewN)) hb⟩
  clear hb
  go_wp2_with (fail)
  refine (HU6.out _).mono ?_
  rintro e w3 ⟨rfl, hb⟩
  have hs_w3 := Below.size hb
  (try simp at hs_w3)
  replace HB0 : Aside0 (Blk w3 (w.heap.size) 40 [.slice (some ⟨g, 0, none⟩) n c, .int .i16 tub, .int .i8 every, .int .i16 today]) := ⟨Blk.below (by with_reducible repeat (first | exact HB0.out | refine Blk.alloc ?_ _ | refine Rw.alloc ?_ _ | refine Arg.alloc ?_ _ | apply below_alloc | refine Blk.drew ?_ | refine Rw.drew ?_ | refine Arg.drew ?_ | apply below_drew | refine Blk.drewN ?_ _ | refine Rw.drewN ?_ _ | refine Arg.drewN ?_ _ | apply pw_below_drewN)) hb⟩
  replace HO : Aside0 (Blk w3 (w.heap.size + 1) 40 [.slice none 0 0, .int .i16 0, .int .i8 0, .int .i16 0]) := ⟨Blk.below (by with_reducible repeat (first | exact HO.out | refine Blk.alloc ?_ _ | refine Rw.alloc ?_ _ | refine Arg.alloc ?_ _ | apply below_alloc | refine Blk.drew ?_ | refine Rw.drew ?_ | refine Arg.drew ?_ | apply below_drew | refine Blk.drewN ?_ _ | refine Rw.drewN ?_ _ | refine Arg.drewN ?_ _ | apply pw_below_drewN)) hb⟩
  replace HR0 : Aside0 (Rw w3 g n f) := ⟨Rw.below (by with_reducible repeat (first | exact HR0.out | refine Blk.alloc ?_ _ | refine Rw.alloc ?_ _ | refine Arg.alloc ?_ _ | apply below_alloc | refine Blk.drew ?_ | refine Rw.drew ?_ | refine Arg.drew ?_ | apply below_drew | refine Blk.drewN ?_ _ | refine Rw.drewN ?_ _ | refine Arg.drewN ?_ _ | apply pw_below_drewN)) hb⟩
  replace HW : Aside0 (Below w.heap.size w w3) := ⟨below_step (by with_reducible repeat (first | exact HW.out | refine Blk.alloc ?_ _ | refine Rw.alloc ?_ _ | refine Arg.alloc ?_ _ | apply below_alloc | refine Blk.drew ?_ | refine Rw.drew ?_ | refine Arg.drew ?_ | apply below_drew | refine Blk.drewN ?_ _ | refine Rw.drewN ?_ _ | refine Arg.drewN ?_ _ | apply pw_below_drewN)) hb⟩
  clear hb
  go_wp2_with (fail)
  refine (HFO.out _ _ (fun j hj => by match j, hj with | 0, _ => (first | rfl | (simp; done)) | 1, _ => (first | rfl | (simp; done)))).mono ?_
  rintro e w4 ⟨rfl, hb⟩
  have hs_w4 := Below.size hb
  (try simp at hs_w4)
  replace HB0 : Aside0 (Blk w4 (w.heap.size) 40 [.slice (some ⟨g, 0, none⟩) n c, .int .i16 tub, .int .i8 every, .int .i16 today]) := ⟨Blk.below (by with_reducible repeat (first | exact HB0.out | refine Blk.alloc ?_ _ | refine Rw.alloc ?_ _ | refine Arg.alloc ?_ _ | apply below_alloc | refine Blk.drew ?_ | refine Rw.drew ?_ | refine Arg.drew ?_ | apply below_drew | refine Blk.drewN ?_ _ | refine Rw.drewN ?_ _ | refine Arg.drewN ?_ _ | apply pw_below_drewN)) hb⟩
  replace HO : Aside0 (Blk w4 (w.heap.size + 1) 40 [.slice none 0 0, .int .i16 0, .int .i8 0, .int .i16 0]) := ⟨Blk.below (by with_reducible repeat (first | exact HO.out | refine Blk.alloc ?_ _ | refine Rw.alloc ?_ _ | refine Arg.alloc ?_ _ | apply below_alloc | refine Blk.drew ?_ | refine Rw.drew ?_ | refine Arg.drew ?_ | apply below_drew | refine Blk.drewN ?_ _ | refine Rw.drewN ?_ _ | refine Arg.drewN ?_ _ | apply pw_below_drewN)) hb⟩
  replace HR0 : Aside0 (Rw w4 g n f) := ⟨Rw.below (by with_reducible repeat (first | exact HR0.out | refine Blk.alloc ?_ _ | refine Rw.alloc ?_ _ | refine Arg.alloc ?_ _ | apply below_alloc | refine Blk.drew ?_ | refine Rw.drew ?_ | refine Arg.drew ?_ | apply below_drew | refine Blk.drewN ?_ _ | refine Rw.drewN ?_ _ | refine Arg.drewN ?_ _ | apply pw_below_drewN)) hb⟩
  replace HW : Aside0 (Below w.heap.size w w4) := ⟨below_step (by with_reducible repeat (first | exact HW.out | refine Blk.alloc ?_ _ | refine Rw.alloc ?_ _ | refine Arg.alloc ?_ _ | apply below_alloc | refine Blk.drew ?_ | refine Rw.drew ?_ | refine Arg.drew ?_ | apply below_drew | refine Blk.drewN ?_ _ | refine Rw.drewN ?_ _ | refine Arg.drewN ?_ _ | apply pw_below_drewN)) hb⟩
  clear hb
  go_wp2_with (first | (refine wl_load (by rfl) 40 _ (by rfl) (w.heap.size) 0 (by rfl) 40 4 [.slice (some ⟨g, 0, none⟩) n c, .int .i16 tub, .int .i8 every, .int .i16 today] [.slice (some ⟨g, 0, none⟩) n c, .int .i16 tub, .int .i8 every, .int .i16 today] (by with_reducible repeat (first | exact HB0.out | refine Blk.alloc ?_ _ | refine Rw.alloc ?_ _ | refine Arg.alloc ?_ _ | apply below_alloc | refine Blk.drew ?_ | refine Rw.drew ?_ | refine Arg.drew ?_ | apply below_drew | refine Blk.drewN ?_ _ | refine Rw.drewN ?_ _ | refine Arg.drewN ?_ _ | apply pw_below_drewN)) (by rfl) (by rfl) _ Try.underlying40 (by rfl) (by kernel_rfl) ?_))
  refine (HOW.out _ (by with_reducible repeat (first | exact HR0.out | refine Blk.alloc ?_ _ | refine Rw.alloc ?_ _ | refine Arg.alloc ?_ _ | apply below_alloc | refine Blk.drew ?_ | refine Rw.drew ?_ | refine Arg.drew ?_ | apply below_drew | refine Blk.drewN ?_ _ | refine Rw.drewN ?_ _ | refine Arg.drewN ?_ _ | apply pw_below_drewN))).mono ?_
  rintro e w5 ⟨g1, c1, rfl, hg_, hR_, hb⟩
  have lo_g1 := hg_
  (try simp at lo_g1)
  have hi_g1 := Rw.lt hR_
  have hs_w5 := Below.size hb
  (try simp at hs_w5)
  replace HB0 : Aside0 (Blk w5 (w.heap.size) 40 [.slice (some ⟨g, 0, none⟩) n c, .int .i16 tub, .int .i8 every, .int .i16 today]) := ⟨Blk.below (by with_reducible repeat (first | exact HB0.out | refine Blk.alloc ?_ _ | refine Rw.alloc ?_ _ | refine Arg.alloc ?_ _ | apply below_alloc | refine Blk.drew ?_ | refine Rw.drew ?_ | refine Arg.drew ?_ | apply below_drew | refine Blk.drewN ?_ _ | refine Rw.drewN ?_ _ | refine Arg.drewN ?_ _ | apply pw_below_drewN)) hb⟩
  replace HO : Aside0 (Blk w5 (w.heap.size + 1) 40 [.slice none 0 0, .int .i16 0, .int .i8 0, .int .i16 0]) := ⟨Blk.below (by with_reducible repeat (first | exact HO.out | refine Blk.alloc ?_ _ | refine Rw.alloc ?_ _ | refine Arg.alloc ?_ _ | apply below_alloc | refine Blk.drew ?_ | refine Rw.drew ?_ | refine Arg.drew ?_ | apply below_drew | refine Blk.drewN ?_ _ | refine Rw.drewN ?_ _ | refine Arg.drewN ?_ _ | apply pw_below_drewN)) hb⟩
  replace HR0 : Aside0 (Rw w5 g n f) := ⟨Rw.below (by with_reducible repeat (first | exact HR0.out | refine Blk.alloc ?_ _ | refine Rw.alloc ?_ _ | refine Arg.alloc ?_ _ | apply below_alloc | refine Blk.drew ?_ | refine Rw.drew ?_ | refine Arg.drew ?_ | apply below_drew | refine Blk.drewN ?_ _ | refine Rw.drewN ?_ _ | refine Arg.drewN ?_ _ | apply pw_below_drewN)) hb⟩
  replace HW : Aside0 (Below w.heap.size w w5) := ⟨below_step (by with_reducible repeat (first | exact HW.out | refine Blk.alloc ?_ _ | refine Rw.alloc ?_ _ | refine Arg.alloc ?_ _ | apply below_alloc | refine Blk.drew ?_ | refine Rw.drew ?_ | refine Arg.drew ?_ | apply below_drew | refine Blk.drewN ?_ _ | refine Rw.drewN ?_ _ | refine Arg.drewN ?_ _ | apply pw_below_drewN)) hb⟩
  clear hb
  have HR1 := Aside0.mk hR_
  clear hR_ hg_
  go_wp2_with (fail)
  obtain ⟨hb, hhb⟩ : ∃ hb, w5.heap.size + 1 = hb := ⟨_, rfl⟩
  have hz0 := HO.out.lt
  have HX : Aside0 (Blk ((w5.alloc (.cells #[] 45)).alloc (.cells #[.slice (some ⟨g1, 0, none⟩) n c1, .int .i16 tub, .int .i8 every, .int .i16 today] 40)) hb 40 (hcells (some ⟨g1, 0, none⟩) n c1 tub every (today + ((0 : Nat) : Int)))) := ⟨by rw [show today + ((0 : Nat) : Int) = today from Int.add_zero _]; exact Blk.at_ (by first | omega | (simp; done) | (simp; omega)) rfl⟩
  have HO2 : Aside0 (Blk ((w5.alloc (.cells #[] 45)).alloc (.cells #[.slice (some ⟨g1, 0, none⟩) n c1, .int .i16 tub, .int .i8 every, .int .i16 today] 40)) (w.heap.size + 1) 40 [.slice none 0 0, .int .i16 0, .int .i8 0, .int .i16 0]) := ⟨(HO.out.alloc (.cells #[] 45)).alloc (.cells #[.slice (some ⟨g1, 0, none⟩) n c1, .int .i16 tub, .int .i8 every, .int .i16 today] 40)⟩
  have hq3 : hb ≠ g1 := by omega
  have hwb : w.heap.size + 2 < hb := by omega
  have hwg : w.heap.size + 2 ≤ g1 := by omega
  rw [hhb]
  have HR2 : Aside0 (Rw ((w5.alloc (.cells #[] 45)).alloc (.cells #[.slice (some ⟨g1, 0, none⟩) n c1, .int .i16 tub, .int .i8 every, .int .i16 today] 40)) g1 n (daF f l n tub every today 0)) := ⟨(HR1.out.alloc (.cells #[] 45)).alloc _⟩
  have HSH : Aside0 (Sh ((w5.alloc (.cells #[] 45)).alloc (.cells #[.slice (some ⟨g1, 0, none⟩) n c1, .int .i16 tub, .int .i8 every, .int .i16 today] 40)) w.heap.size g1 hb (w.heap.size + 1) (.slice (some ⟨w5.heap.size, 0, none⟩) 0 0) (daS f l n tub every today 0)) := ⟨Sh.of_blk ((Blk.new _ _ _).alloc _) (by omega) (by omega) (by omega) (by omega)⟩
  have HNB : Aside0 (∀ i, i < 0 → needB (Nof (l.getD i [])) n = true) := ⟨fun i hi => by omega⟩
  replace HW : Aside0 (Below w.heap.size w ((w5.alloc (.cells #[] 45)).alloc (.cells #[.slice (some ⟨g1, 0, none⟩) n c1, .int .i16 tub, .int .i8 every, .int .i16 today] 40))) := ⟨by repeat (first | exact HW.out | refine below_alloc ?_ _)⟩
  clear HB0 HR0 HR1 HO  HOW HVH HUN HU6 HFO HDD hhb
  go_loopw [9, 31] (fun v9 v31 w' => ∃ (k : Nat) (v : Value), k ≤ l.length ∧ today + (k : Int) ≤ 60 ∧ v9 = v ∧ v31 = .int .i64 k ∧ Aside0 (daC l n today (l.length - k) k = code) ∧ Aside0 (∀ i, i < k → needB (Nof (l.getD i [])) n = true) ∧ Aside0 (Sh w' w.heap.size g1 hb (w.heap.size + 1) v (daS f l n tub every today k)) ∧ Aside0 (Rw w' g1 n (daF f l n tub every today k)) ∧ Aside0 (Blk w' hb 40 (hcells (some ⟨g1, 0, none⟩) n c1 tub every (today + (k : Int)))) ∧ Aside0 (Blk w' (w.heap.size + 1) 40 [.slice none 0 0, .int .i16 0, .int .i8 0, .int .i16 0]) ∧ Aside0 (Below w.heap.size w w')) (fun _ v31 _ => l.length - (intOf v31).toNat)
  case atStart => exact ⟨0, _, by omega, by omega, rfl, rfl, ⟨HCO.out⟩, HNB, HSH, HR2, HX, HO2, HW⟩
  case round =>
    clear HSH HR2 HX HO2 HW HNB HCO
    obtain ⟨k, v, hk, hk6, rfl, rfl, HCO, HNB, HSH, HR, HH, HO, HW⟩ := hrel
    obtain ⟨wo, rfl⟩ : ∃ wo : World, wo = wr := ⟨_, rfl⟩
    have hk9 : IntKind.i64.wrap ((k : Int) + 1) = (k : Int) + 1 := IntWalk.i64_in _ ⟨by omega, by omega⟩
    by_cases hlt : k < l.length
    · have hki : (k : Int) < (l.length : Int) := by omega
      obtain ⟨gD, A', c', hA', cd0, hcc, hND⟩ := HIN.out k hlt
      subst hA'
      have cd := pw_cell_below HW.out cd0
      have HNW := Aside0.mk (hND.below HW.out)
      have HN0 := Aside0.mk hND
      have HG := Aside0.mk (HGG.out k HNB.out)
      clear cd0 hND
      by_cases hdc : dcode l n today k = 0
      · obtain ⟨e1, e2, e3⟩ := dcode_zero hdc hk6
        have HCO2 := Aside0.mk (daC_yes hlt HCO.out hdc)
        have HNB2 : Aside0 (∀ i, i < k + 1 → needB (Nof (l.getD i [])) n = true) := ⟨fun i hi => by rcases Nat.lt_or_ge i k with h | h; exact HNB.out i h; (have : i = k := by omega); subst this; exact e2⟩
        have HFF : Aside0 (daF f l n tub every today (k + 1) = dayF (daF f l n tub every today k) (Nof (l.getD k [])) n tub every (today + (k : Int))) := ⟨rfl⟩
        have HSS : Aside0 (daS f l n tub every today (k + 1) = daS f l n tub every today k ++ [shL (daF f l n tub every today k) (Nof (l.getD k [])) n]) := ⟨rfl⟩
        have HSL := Aside0.mk (daS_len f l n tub every today k)
        have h64 : today + ((k + 1 : Nat) : Int) ≤ 60 := by omega
        have HDC := Aside0.mk (fun W h h' => dayCode_calls (Nof (l.getD k [])) (l.getD k []).length n c1 g1 hb c' A' tub every (today + (k : Int)) (by have := HLM.out k; omega) hcc W h h')
        rw [dcode_first hk6, hdc] at HDC
        rw [e1] at HDC
        rw [e1] at cd HNW HN0 hcc
        obtain ⟨gN, hgN, hNd⟩ := HN0.out (by omega)
        subst hgN
        obtain ⟨gN', hgN', hNd'⟩ := HNW.out (by omega)
        obtain rfl : gN = gN' := by injection hgN' with h_; injection h_
        have hgl := hNd.1
        have HND := Aside0.mk hNd'
        clear hNd hNd' hgN' HNW HN0 HNB HCO
        have HDY : Aside0 (∀ W : World, Blk W hb 40 (hcells (some ⟨g1, 0, none⟩) n c1 tub every (today + (k : Int))) → Rw W g1 n (daF f l n tub every today k) → Nd W gN n (Nof (l.getD k [])) → _) := ⟨fun W hH hB hNd => day_yes (daF f l n tub every today k) _ n c1 g1 hb gN c' tub every (today + (k : Int)) hn2 HG.out e2 ht2 hv2 ⟨by omega, e3⟩ (by omega) (by omega) hq3 W hH hB hNd⟩
        generalize Nof (l.getD k []) = Nk at *
        have HLn : Aside0 ((shL (daF f l n tub every today k) Nk n).length = n) := ⟨shL_len _ _ _⟩
        generalize shL (daF f l n tub every today k) Nk n = Ls at *
        clear hdc e1 e2
        go_wp2_with fail
        refine (HDC.out _ HH.out (fun _ => ⟨gN, rfl, HND.out⟩)).mono ?_
        rintro e w4 ⟨rfl, hb_⟩
        replace HH := Aside0.mk (HH.out.below hb_)
        replace HR := Aside0.mk (HR.out.below hb_)
        replace HO := Aside0.mk (HO.out.below hb_)
        replace HSH := Aside0.mk (HSH.out.below hb_)
        replace HND := Aside0.mk (HND.out.below hb_)
        replace HW : Aside0 (Below w.heap.size w w4) := ⟨below_step HW.out hb_⟩
        clear hb_ HDC
        go_wp2_with fail
        refine (HDY.out _ HH.out HR.out HND.out).mono ?_
        rintro e w5 ⟨v2, rfl, hv_, hR_, hH_, hk_⟩
        have hI5 : Ir w5 w4.heap.size v2 Ls := by unfold Ir; rw [HLn.out]; exact hv_
        obtain ⟨gv, cv, hv2e, _⟩ := hI5.nd (by rw [HLn.out]; omega)
        rw [HLn.out] at hv2e
        subst hv2e
        have hv2b : ∀ q, (Value.slice (some ⟨gv, 0, none⟩) n cv).ownBlock = some q → w4.heap.size ≤ q := fun q hq => own_base hI5 q hq
        have hvol := HSH.out.lt
        have hz1 := HR.out.lt
        have hz2 := HH.out.lt
        have hz3 := HO.out.lt
        have hz4 := Below.size HW.out
        have HSH5 := Aside0.mk (HSH.out.kept hk_)
        have HR5 : Aside0 (Rw w5 g1 n (daF f l n tub every today (k + 1))) := ⟨by rw [HFF.out]; exact hR_⟩
        have HH5 : Aside0 (Blk w5 hb 40 (hcells (some ⟨g1, 0, none⟩) n c1 tub every (today + (k : Int) + 1))) := ⟨hH_⟩
        have HO5 : Aside0 (Blk w5 (w.heap.size + 1) 40 [.slice none 0 0, .int .i16 0, .int .i8 0, .int .i16 0]) := ⟨Blk.kept HO.out hk_ (by rintro (h_ | h_) <;> omega)⟩
        have HW5 : Aside0 (Below w.heap.size w w5) := ⟨below_kept HW.out hk_ (by rintro k_ (rfl | rfl) <;> omega)⟩
        have hz5 := hk_.2.1
        have HI5 : Aside0 ((Kd.int .i64).R 2 w5 w.heap.size (fun q => (Value.slice (some ⟨gv, 0, none⟩) n cv).ownBlock = some q) (.slice (some ⟨gv, 0, none⟩) n cv) Ls) := ⟨(hI5.lower hz4).row⟩
        have HOK : Aside0 (∀ q, (Value.slice (some ⟨gv, 0, none⟩) n cv).ownBlock = some q → (q ≠ g1 ∧ q ≠ hb ∧ q ≠ w.heap.size + 1) ∧ some q ≠ u9.ownBlock) := ⟨fun q hq => ⟨by have := hv2b q hq; omega, fun he => by have := hv2b q hq; have := hvol q he.symm; omega⟩⟩
        have hNE1 : some g1 ≠ u9.ownBlock := HSH.out.ne (.inl rfl)
        have hNE2 : some hb ≠ u9.ownBlock := HSH.out.ne (.inr (.inl rfl))
        have hNE3 : some (w.heap.size + 1) ≠ u9.ownBlock := HSH.out.ne (.inr (.inr rfl))
        clear hv_ hR_ hH_ hk_ hI5 hv2b hvol HSH HR HH HO HW HND HDY
        go_wp2_with (at_builtin; refine Kd.R_append (Kd.slice 2 (Kd.int .i64)) w.heap.size (by rfl) _ _ 57 45 (.slice none 0 0) 24 (by rfl) Try.underlying57 (by kernel_rfl) (by rfl) (by decide) (by decide) u9 (daS f l n tub every today k) Ls [.slice (some ⟨gv, 0, none⟩) n cv] (fun q => q ≠ g1 ∧ q ≠ hb ∧ q ≠ w.heap.size + 1) (fun q => (Value.slice (some ⟨gv, 0, none⟩) n cv).ownBlock = some q) (by rfl) (by rfl) ⟨_, rfl, HI5.out⟩ HOK.out (fun q hq => by omega) HSH5.out HW5.out (by omega) (by rw [HSL.out]; omega) ?_; intro v6 w6 hR6 hB6 hg6 hat6; have HSH6 : Aside0 (Sh w6 w.heap.size g1 hb (w.heap.size + 1) v6 (daS f l n tub every today (k + 1))) := ⟨by rw [HSS.out]; exact hR6⟩; have HR6 := Aside0.mk (HR5.out.grown hg6 hNE1); have HH6 := Aside0.mk (HH5.out.grown hg6 hNE2); have HO6 := Aside0.mk (HO5.out.grown hg6 hNE3); have HW6 : Aside0 (Below w.heap.size w w6) := ⟨hB6⟩; clear hR6 hB6 hg6 hat6 HSH5 HR5 HH5 HO5 HW5 HI5 HOK hNE1 hNE2 hNE3)
        go_roundw
        case rel => exact ⟨k + 1, _, by omega, h64, rfl, by go_num, HCO2, HNB2, HSH6, HR6, ⟨by rw [show today + ((k + 1 : Nat) : Int) = today + (k : Int) + 1 by omega]; exact HH6.out⟩, HO6, HW6⟩
        case measure => simp [intOf] <;> omega
      · have HCE := Aside0.mk (daC_no hlt HCO.out hdc)
        have HDC := Aside0.mk (fun W h h' => dayCode_calls (Nof (l.getD k [])) (l.getD k []).length n c1 g1 hb c' A' tub every (today + (k : Int)) (by have := HLM.out k; omega) hcc W h h')
        rw [dcode_first hk6, HCE.out] at HDC
        rw [HCE.out] at hdc
        generalize (l.getD k []).length = mk at *
        generalize Nof (l.getD k []) = Nk at *
        have hc0 := hdc
        have hc1 : (code != 0) = true := by simpa using hdc
        have hc2 : (code == 0) = false := by simpa using hdc
        have hc3 : decide (code = 0) = false := decide_eq_false hdc
        go_wp2_with fail
        refine (HDC.out _ HH.out HNW.out).mono ?_
        rintro e w6 ⟨rfl, hb_⟩
        replace HO := Aside0.mk (HO.out.below hb_)
        replace HW : Aside0 (Below w.heap.size w w6) := ⟨below_step HW.out hb_⟩
        have hs6 := HO.out.lt
        clear hb_ HH HR HSH HDC HNW HN0
        go_wp2_with (first | (refine wl_store (by rfl) 40 _ _ (by rfl) (w.heap.size + 1) 0 (by rfl) 40 4 [.slice none 0 0, .int .i16 0, .int .i8 0, .int .i16 0] [.slice none 0 0, .int .i16 0, .int .i8 0, .int .i16 0] (by rfl) (by with_reducible repeat (first | exact HO.out | refine Blk.alloc ?_ _ | refine Rw.alloc ?_ _ | refine Arg.alloc ?_ _ | apply below_alloc | refine Blk.drew ?_ | refine Rw.drew ?_ | refine Arg.drew ?_ | apply below_drew | refine Blk.drewN ?_ _ | refine Rw.drewN ?_ _ | refine Arg.drewN ?_ _ | apply pw_below_drewN)) (by rfl) (by decide) (by kernel_rfl) (by rfl) ?_; intro w9 hw_ hg_; have HO9 : Aside0 (Blk w9 (w.heap.size + 1) 40 [.slice none 0 0, .int .i16 0, .int .i8 0, .int .i16 0]) := ⟨Blk.all hw_ (by decide)⟩; have HW9 : Aside0 (Below w.heap.size w w9) := ⟨below_grown (by with_reducible repeat (first | exact HW.out | refine Blk.alloc ?_ _ | refine Rw.alloc ?_ _ | refine Arg.alloc ?_ _ | apply below_alloc | refine Blk.drew ?_ | refine Rw.drew ?_ | refine Arg.drew ?_ | apply below_drew | refine Blk.drewN ?_ _ | refine Rw.drewN ?_ _ | refine Arg.drewN ?_ _ | apply pw_below_drewN)) (by omega) (Below.size (by with_reducible repeat (first | exact HW.out | refine Blk.alloc ?_ _ | refine Rw.alloc ?_ _ | refine Arg.alloc ?_ _ | apply below_alloc | refine Blk.drew ?_ | refine Rw.drew ?_ | refine Arg.drew ?_ | apply below_drew | refine Blk.drewN ?_ _ | refine Rw.drewN ?_ _ | refine Arg.drewN ?_ _ | apply pw_below_drewN))) hg_⟩; clear hw_ hg_))
        refine bodyPost_ret (v := .tuple #[.agg #[.slice none 0 0, .int .i16 0, .int .i8 0, .int .i16 0], .slice none 0 0, .int .i64 code]) (results_cell3 (by rfl) _ _ (w.heap.size + 1) [.slice none 0 0, .int .i16 0, .int .i8 0, .int .i16 0] _ _ _ (by rfl) (by rfl) (by rfl) HO9.out.whole Try.underlying40 (by rfl) (by kernel_rfl)) rfl (.inl ⟨hc0, ⟨_, rfl⟩, HW9.out⟩)
    · have ek : k = l.length := by omega
      have HZ : Aside0 (code = 0) := ⟨by rw [← HCO.out, ek, Nat.sub_self]; rfl⟩
      subst ek
      have hx1 := HH.out.lt
      have hx2 := HR.out.lt
      clear HCO HNB hlt HIN
      have HX := HH
      go_wp2_with (first | (refine wl_load (by rfl) 40 _ (by rfl) (hb) 0 (by rfl) 40 4 [.slice (some ⟨g1, 0, none⟩) n c1, .int .i16 tub, .int .i8 every, .int .i16 (today + (l.length : Int))] [.slice (some ⟨g1, 0, none⟩) n c1, .int .i16 tub, .int .i8 every, .int .i16 (today + (l.length : Int))] (by with_reducible repeat (first | exact HX.out | refine Blk.alloc ?_ _ | refine Rw.alloc ?_ _ | refine Arg.alloc ?_ _ | apply below_alloc | refine Blk.drew ?_ | refine Rw.drew ?_ | refine Arg.drew ?_ | apply below_drew | refine Blk.drewN ?_ _ | refine Rw.drewN ?_ _ | refine Arg.drewN ?_ _ | apply pw_below_drewN)) (by rfl) (by rfl) _ Try.underlying40 (by rfl) (by kernel_rfl) ?_) | (refine wl_store (by rfl) 40 _ _ (by rfl) (w.heap.size + 1) 0 (by rfl) 40 4 [.slice none 0 0, .int .i16 0, .int .i8 0, .int .i16 0] [.slice (some ⟨g1, 0, none⟩) n c1, .int .i16 tub, .int .i8 every, .int .i16 (today + (l.length : Int))] (by rfl) (by with_reducible repeat (first | exact HO.out | refine Blk.alloc ?_ _ | refine Rw.alloc ?_ _ | refine Arg.alloc ?_ _ | apply below_alloc | refine Blk.drew ?_ | refine Rw.drew ?_ | refine Arg.drew ?_ | apply below_drew | refine Blk.drewN ?_ _ | refine Rw.drewN ?_ _ | refine Arg.drewN ?_ _ | apply pw_below_drewN)) (by rfl) (by decide) (by kernel_rfl) (by rfl) ?_; intro w9 hw_ hg_; have HO9 : Aside0 (Blk w9 (w.heap.size + 1) 40 [.slice (some ⟨g1, 0, none⟩) n c1, .int .i16 tub, .int .i8 every, .int .i16 (today + (l.length : Int))]) := ⟨Blk.all hw_ (by decide)⟩; have HW9 : Aside0 (Below w.heap.size w w9) := ⟨below_grown (by with_reducible repeat (first | exact HW.out | refine Blk.alloc ?_ _ | refine Rw.alloc ?_ _ | refine Arg.alloc ?_ _ | apply below_alloc | refine Blk.drew ?_ | refine Rw.drew ?_ | refine Arg.drew ?_ | apply below_drew | refine Blk.drewN ?_ _ | refine Rw.drewN ?_ _ | refine Arg.drewN ?_ _ | apply pw_below_drewN)) (by omega) (Below.size (by with_reducible repeat (first | exact HW.out | refine Blk.alloc ?_ _ | refine Rw.alloc ?_ _ | refine Arg.alloc ?_ _ | apply below_alloc | refine Blk.drew ?_ | refine Rw.drew ?_ | refine Arg.drew ?_ | apply below_drew | refine Blk.drewN ?_ _ | refine Rw.drewN ?_ _ | refine Arg.drewN ?_ _ | apply pw_below_drewN))) hg_⟩; have HR9 : Aside0 (Rw w9 g1 n (daF f l n tub every today l.length)) := ⟨Rw.grown (by with_reducible repeat (first | exact HR.out | refine Blk.alloc ?_ _ | refine Rw.alloc ?_ _ | refine Arg.alloc ?_ _ | apply below_alloc | refine Blk.drew ?_ | refine Rw.drew ?_ | refine Arg.drew ?_ | apply below_drew | refine Blk.drewN ?_ _ | refine Rw.drewN ?_ _ | refine Arg.drewN ?_ _ | apply pw_below_drewN)) hg_ (by intro h_; injection h_ with h_; omega)⟩; have HSH9 : Aside0 (Sh w9 w.heap.size g1 hb (w.heap.size + 1) u9 (daS f l n tub every today l.length)) := ⟨Kd.R_grown HSH.out hg_ (fun q hq he => by injection he with he; exact hq.2.2 he)⟩; clear hw_ hg_))
      refine bodyPost_ret (v := .tuple #[.agg #[.slice (some ⟨g1, 0, none⟩) n c1, .int .i16 tub, .int .i8 every, .int .i16 (today + (l.length : Int))], u9, .int .i64 0]) (results_cell3 (by rfl) _ _ (w.heap.size + 1) [.slice (some ⟨g1, 0, none⟩) n c1, .int .i16 tub, .int .i8 every, .int .i16 (today + (l.length : Int))] _ _ _ (by rfl) (by rfl) (by rfl) HO9.out.whole Try.underlying40 (by rfl) (by kernel_rfl)) rfl (.inr ⟨HZ.out, ⟨g1, c1, _, rfl, by omega, HR9.out, HSH9.out.dy⟩, HW9.out⟩)
def ragF (f : Nat → Int) : Nat → Int
  | 0 => 0
  | k + 1 => ragF f k + f (25 * k + 24)
theorem ragF_le {f : Nat → Int} {n : Nat} (h : Fine f n) : ∀ k, k ≤ n → 0 ≤ ragF f k ∧ ragF f k ≤ 500 * (k : Int)
  | 0, _ => ⟨Int.le_refl _, by simp [ragF]⟩
  | k + 1, hk => by
    have h1 := ragF_le h k (by omega)
    have h2 := (h k (by omega)).1 24 (by decide)
    have h3 := (h k (by omega)).le (i := 24) (by decide)
    simp only [ragF]
    omega
set_option maxHeartbeats 8000000 in
set_option maxRecDepth 100000 in
theorem l05Rags_calls (f : Nat → Int) (n c g hb : Nat) (tub every today : Int) (hn : n ≤ 4) (hG : Fine f n) (w : World) (hH : Blk w hb 40 (hcells (some ⟨g, 0, none⟩) n c tub every today)) (hB : Rw w g n f) :
    Calls Try.prog 108 #[.pointer (some ⟨hb, 0, none⟩)] w fun e w' => e = .returned (.int .i64 (ragF f n)) ∧ w' = w := by
  have c0 := hH.cell 0 (v := .slice (some ⟨g, 0, none⟩) n c) rfl
  have HB := Aside0.mk hB
  have HG := Aside0.mk hG
  clear hH hB hG
  go_enter Try.func108, Try.ntmps108
  go_wp2
  go_loop [3, 4] (fun v3 v4 => ∃ k : Nat, k ≤ n ∧ v4 = .int .i64 k ∧ v3 = .int .i64 (ragF f k)) (fun _ v4 => n - (intOf v4).toNat)
  case atStart => exact ⟨0, by omega, rfl, rfl⟩
  case round =>
    obtain ⟨k, hk, rfl, rfl⟩ := hrel
    have hk9 : IntKind.i64.wrap ((k : Int) + 1) = (k : Int) + 1 := IntWalk.i64_in _ ⟨by omega, by omega⟩
    by_cases hlt : k < n
    · have hki : (k : Int) < (n : Int) := by omega
      have ck := HB.out.rag (o := 25 * k) (q := k) (j := k * 25 + 24) rfl hlt (by omega)
      have HS : Aside0 (ragF f (k + 1) = ragF f k + f (25 * k + 24)) := ⟨rfl⟩
      have h1 := ragF_le HG.out k (by omega)
      have h2 := (HG.out k hlt).1 24 (by decide)
      have h3 := (HG.out k hlt).le (i := 24) (by decide)
      have h4 : IntKind.i64.wrap (f (25 * k + 24)) = f (25 * k + 24) := IntWalk.i64_in _ ⟨by omega, by omega⟩
      have h5 : IntKind.i64.wrap (ragF f k + f (25 * k + 24)) = ragF f k + f (25 * k + 24) := IntWalk.i64_in _ ⟨by omega, by omega⟩
      generalize f (25 * k + 24) = x at *
      generalize ragF f k = y at *
      clear h1 h2 h3
      go_wp2
      go_round
      case rel => exact ⟨k + 1, by omega, by go_num, by rw [HS.out]⟩
      case measure => simp [intOf] <;> omega
    · have ek : k = n := by omega
      subst ek
      go_wp2
      go_ret
      exact ⟨rfl, rfl⟩
set_option maxHeartbeats 8000000 in
set_option maxRecDepth 100000 in
theorem rags_calls (f : Nat → Int) (n c g : Nat) (tub every today : Int) (hn : n ≤ 4) (hG : Fine f n) (w : World) (hB : Rw w g n f) :
    Calls Try.prog 109 #[.agg #[.slice (some ⟨g, 0, none⟩) n c, .int .i16 tub, .int .i8 every, .int .i16 today]] w fun e w' => e = .returned (.int .i64 (ragF f n)) ∧ Below w.heap.size w w' := by
  have HB := Aside0.mk (hB.alloc (.cells #[.slice (some ⟨g, 0, none⟩) n c, .int .i16 tub, .int .i8 every, .int .i16 today] 40))
  have HW : Aside0 (Below w.heap.size w (w.alloc (.cells #[.slice (some ⟨g, 0, none⟩) n c, .int .i16 tub, .int .i8 every, .int .i16 today] 40))) := ⟨below_alloc (Below.refl _ _) _⟩
  have HG := Aside0.mk hG
  have hgl := hB.lt
  clear hB hG
  go_enter Try.func109, Try.ntmps109
  go_wp2
  go_loopw [3, 9] (fun v3 v9 w' => ∃ k : Nat, k ≤ n ∧ v9 = .int .i64 k ∧ v3 = .int .i64 (ragF f k) ∧ Aside0 (Rw w' g n f) ∧ Aside0 (Below w.heap.size w w')) (fun _ v9 _ => n - (intOf v9).toNat)
  case atStart => exact ⟨0, by omega, rfl, rfl, HB, HW⟩
  case round =>
    clear HB HW
    obtain ⟨k, hk, rfl, rfl, HB, HW⟩ := hrel
    obtain ⟨wo, rfl⟩ : ∃ wo : World, wo = wr := ⟨_, rfl⟩
    have hk9 : IntKind.i64.wrap ((k : Int) + 1) = (k : Int) + 1 := IntWalk.i64_in _ ⟨by omega, by omega⟩
    by_cases hlt : k < n
    · have hki : (k : Int) < (n : Int) := by omega
      have HS : Aside0 (ragF f (k + 1) = ragF f k + f (25 * k + 24)) := ⟨rfl⟩
      have h1 := ragF_le HG.out k (by omega)
      have h2 := (HG.out k hlt).1 24 (by decide)
      have h3 := (HG.out k hlt).le (i := 24) (by decide)
      have h4 : IntKind.i64.wrap (f (25 * k + 24)) = f (25 * k + 24) := IntWalk.i64_in _ ⟨by omega, by omega⟩
      have h5 : IntKind.i64.wrap (ragF f k + f (25 * k + 24)) = ragF f k + f (25 * k + 24) := IntWalk.i64_in _ ⟨by omega, by omega⟩
      have hwl := Below.size HW.out
      have HX : Aside0 (Rw (wo.alloc (.cells #[.int .i16 0, .int .i16 0, .int .i16 0, .int .i16 0, .int .i16 0, .int .i16 0, .int .i16 0, .int .i16 0, .int .i16 0, .int .i16 0, .int .i16 0, .int .i16 0, .int .i16 0, .int .i16 0, .int .i16 0, .int .i16 0, .int .i16 0, .int .i16 0, .int .i16 0, .int .i16 0, .int .i16 0, .int .i16 0, .int .i16 0, .int .i16 0, .int .i32 0] 27)) wo.heap.size 1 (fun _ => 0)) := ⟨Rw.of_blk (f := fun _ => 0) (Blk.new wo _ _)⟩
      obtain ⟨y, hy⟩ : ∃ y, ragF f k = y := ⟨_, rfl⟩
      rw [hy] at h5 h1 HS ⊢
      clear h1 h2 h3 hy
      go_wp2_with (first | (refine rw_load (by rfl) 27 _ (by rfl) g (k * 25) (by rfl) f (25 * k) (by have h_ := HB.out.range (o := 25 * k) (q := k) rfl hlt; rwa [Nat.mul_comm k 25]) _ Try.underlying27 (by rfl) (by kernel_rfl) ?_) | (refine rw_store (by rfl) 27 _ _ (by rfl) (wo.heap.size) 0 (by rfl) 1 0 (fun _ => 0) f (25 * k) (by rfl) HX.out rfl (by decide) (by omega) (by kernel_rfl) ?_; intro w1 hw1 hg1; have HB1 : Aside0 (Rw w1 g n f) := ⟨(HB.out.alloc _).grown hg1 (by intro h_; injection h_ with h_; have := HB.out.lt; omega)⟩; have HW1 : Aside0 (Below w.heap.size w w1) := ⟨below_grown (below_alloc HW.out _) (by omega) (by simp; omega) hg1⟩; have c24 := hw1.rag (o := 0) (q := 0) (j := 24) rfl (by decide) rfl; rw [show put25 (fun _ => 0) 0 f (25 * k) (0 + 24) = f (25 * k + 24) from rfl] at c24; clear hw1 hg1 HX HB HW))
      go_roundw
      case rel => exact ⟨k + 1, by omega, by go_num, by rw [HS.out], HB1, HW1⟩
      case measure => simp [intOf] <;> omega
    · have ek : k = n := by omega
      subst ek
      go_wp2
      go_ret
      exact ⟨rfl, HW.out⟩
def daCode (f : Nat → Int) (n : Nat) (l : List (List Int)) (tub every today : Int) : Int := if houseB f n tub every today = true then (if l.length ≤ 60 then daC l n today l.length 0 else 3) else 1
theorem DaPost.yes {w w' : World} {n m : Nat} {tub every today : Int} {F : Nat → Int} {S : List (List Int)} {code : Int} {e : Ending} (h : DaPost w n m tub every today F S code e w') (hc : code = 0) : ∃ (g' c' : Nat) (v : Value), e = .returned (.tuple #[.agg #[.slice (some ⟨g', 0, none⟩) n c', .int .i16 tub, .int .i8 every, .int .i16 (today + (m : Int))], v, .int .i64 0]) ∧ w.heap.size ≤ g' ∧ Rw w' g' n F ∧ Dy w' v S ∧ Below w.heap.size w w' := by
  rcases h with ⟨h, _⟩ | ⟨_, ⟨g', c', v, h1, h2, h3, h4⟩, h5⟩
  · exact absurd hc h
  · exact ⟨g', c', v, h1, h2, h3, h4, h5⟩
theorem DaPost.no {w w' : World} {n m : Nat} {tub every today : Int} {F : Nat → Int} {S : List (List Int)} {code : Int} {e : Ending} (h : DaPost w n m tub every today F S code e w') (hc : code ≠ 0) : (∃ v : Value, e = .returned (.tuple #[.agg #[.slice none 0 0, .int .i16 0, .int .i8 0, .int .i16 0], v, .int .i64 code])) ∧ Below w.heap.size w w' := by
  rcases h with ⟨_, h1, h2⟩ | ⟨h, _⟩
  · exact ⟨h1, h2⟩
  · exact absurd h hc
theorem specDA (f : Nat → Int) (n c g : Nat) (l : List (List Int)) (A : Option Addr) (cD : Nat) (tub every today : Int) (hn : n ≤ 1048576) (hlm : ∀ i, (l.getD i []).length ≤ 1048576) (hl : l.length ≤ 1048576) (hcD : l.length ≤ cD) (hR : Rng f n) (ht : -32768 ≤ tub ∧ tub ≤ 32767) (hv : -128 ≤ every ∧ every ≤ 127) (hd : -32768 ≤ today ∧ today ≤ 32767) (w : World) (hB : Rw w g n f) (hD : Dy w (.slice A l.length cD) l) :
    Calls Try.prog 104 #[.agg #[.slice (some ⟨g, 0, none⟩) n c, .int .i16 tub, .int .i8 every, .int .i16 today], .slice A l.length cD] w fun e w' => DaPost w n l.length tub every today (daF f l n tub every today l.length) (daS f l n tub every today l.length) (daCode f n l tub every today) e w' := by
  unfold daCode
  cases hf : houseB f n tub every today
  · rw [if_neg (by decide)]
    exact (specDA_no f n c g l A cD tub every today hn hlm hl hcD hR ht hv hd hf w hB hD).mono (by rintro e w' ⟨h1, h2⟩; exact .inl ⟨by decide, h1, h2⟩)
  · rw [if_pos rfl]
    obtain ⟨h1, h2, h3, h4, h5⟩ := houseB_of hf
    by_cases hl6 : l.length ≤ 60
    · rw [if_pos hl6]
      exact specDA_go f n c g l A cD tub every today hn hlm hl hcD hR ht hv hd hf h2 h1 h3 h4 h5 hl6 _ rfl w hB hD
    · rw [if_neg hl6]
      exact (specDA_long f n c g l A cD tub every today hn hlm hl hcD hR ht hv hd hf hl6 w hB hD).mono (by rintro e w' ⟨h1, h2⟩; exact .inl ⟨by decide, h1, h2⟩)
theorem implDA (f : Nat → Int) (n c g : Nat) (l : List (List Int)) (A : Option Addr) (cD : Nat) (tub every today : Int) (hn : n ≤ 1048576) (hlm : ∀ i, (l.getD i []).length ≤ 1048576) (hl : l.length ≤ 1048576) (hcD : l.length ≤ cD) (hR : Rng f n) (ht : -32768 ≤ tub ∧ tub ≤ 32767) (hv : -128 ≤ every ∧ every ≤ 127) (hd : -32768 ≤ today ∧ today ≤ 32767) (w : World) (hB : Rw w g n f) (hD : Dy w (.slice A l.length cD) l) :
    Calls Try.prog 105 #[.agg #[.slice (some ⟨g, 0, none⟩) n c, .int .i16 tub, .int .i8 every, .int .i16 today], .slice A l.length cD] w fun e w' => DaPost w n l.length tub every today (daF f l n tub every today l.length) (daS f l n tub every today l.length) (daCode f n l tub every today) e w' := by
  unfold daCode
  cases hf : houseB f n tub every today
  · rw [if_neg (by decide)]
    exact (implDA_bad f n c g l A cD tub every today hn hlm hl hcD hR ht hv hd 1 (by rw [hf]; rfl) (by decide) w hB hD).mono (by rintro e w' ⟨h1, h2⟩; exact .inl ⟨by decide, h1, h2⟩)
  · rw [if_pos rfl]
    obtain ⟨h1, h2, h3, h4, h5⟩ := houseB_of hf
    by_cases hl6 : l.length ≤ 60
    · rw [if_pos hl6]
      exact implDA_go f n c g l A cD tub every today hn hlm hl hcD hR ht hv hd hf h2 h1 h3 h4 h5 hl6 (by rw [hf, decide_eq_true (by omega)]; rfl) _ rfl w hB hD
    · rw [if_neg hl6]
      exact (implDA_bad f n c g l A cD tub every today hn hlm hl hcD hR ht hv hd 3 (by rw [hf, decide_eq_false (by omega)]; rfl) (by decide) w hB hD).mono (by rintro e w' ⟨h1, h2⟩; exact .inl ⟨by decide, h1, h2⟩)
theorem daC_all {l : List (List Int)} {n : Nat} {today : Int} {m : Nat} : ∀ q k, k + q = m → daC l n today q k = 0 → ∀ i, k ≤ i → i < m → dcode l n today i = 0
  | 0, k, h, _, i, h1, h2 => by omega
  | q + 1, k, h, h0, i, h1, h2 => by
    rw [daC] at h0
    split at h0
    · rename_i hz
      rcases Nat.lt_or_ge k i with hk | hk
      · exact daC_all q (k + 1) (by omega) h0 i (by omega) h2
      · have : i = k := by omega
        subst this; exact hz
    · rename_i hz; exact absurd h0 hz
theorem daCode_zero {f : Nat → Int} {n : Nat} {l : List (List Int)} {tub every today : Int} (h : daCode f n l tub every today = 0) : Fine f n ∧ (0 < n ∧ n ≤ 4) ∧ Fine (daF f l n tub every today l.length) n ∧ l.length ≤ 60 := by
  unfold daCode at h
  split at h
  · rename_i hf
    obtain ⟨h1, h2, h3, h4, h5⟩ := houseB_of hf
    split at h
    · rename_i hl
      have hall := daC_all (m := l.length) l.length 0 (by omega) h
      refine ⟨h1, h2, daF_fine h1 h3.1 l.length (fun i hi => ?_), hl⟩
      have hi0 := hall i (by omega) hi
      unfold dcode at hi0
      split at hi0
      · rename_i hb
        rw [Bool.and_eq_true, decide_eq_true_eq] at hb
        have e : (l.getD i []).length = n := by omega
        rw [← e]; exact hb.1
      · simp at hi0
    · simp at h
  · simp at h
end Go.Proofs.Ytjmnbikaijphlaa.X
