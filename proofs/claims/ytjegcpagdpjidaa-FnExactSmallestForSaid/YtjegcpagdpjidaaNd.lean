/- Contracts of functions, and plain facts: what each call answers, and what it leaves as it was. -/
import Derived.Test.YtjegcpagdpjidaaBfs
import Derived.Test.YtjegcpagdpjidaaBlk
import Derived.Test.YtjegcpagdpjidaaX0
import Derived.Test.YtjegcpagdpjidaaX5
set_option linter.unusedVariables false
set_option linter.unusedSimpArgs false
namespace Go.Proofs.Ytjegcpagdpjidaa.X
open Go.RowKit Go.Proofs.YtjegcpagdpjidaaW.PrintWords Go.Proofs.YtjegcpagdpjidaaW.PrintLast Go.Proofs.YtjegcpagdpjidaaW.PrintMore
attribute [local go_sem] max2_int min2_int max_two min_two max_three min_three max_four min_four
theorem infoNd : (Try.prog.info? 63).map (fun i => (i.zero, i.size, i.bytes)) = some (some (.agg #[(.int .i16 0), (.int .i16 0), (.int .i16 0), (.slice none 0 0)]), 4, 32) := by kernel_rfl
theorem on_ {ops : Array Oper} {oi : Oper} {a : Act} {X Y : Prop} (hw : Region.wanted oi (yielded ops a.tmps) = true) (h : X) : if Region.wanted oi (yielded ops a.tmps) = true then X else Y := by rw [if_pos hw]; exact h
theorem nums_snoc (xs : List Int) (x : Int) : nums .i64 xs ++ [.int .i64 x] = nums .i64 (xs ++ [x]) := by simp [nums]
/-- what was come to so far, as a row of the call's own -/
def Nd (w W : World) (g c : Nat) (L : List (S26 × List Int)) : Prop := Kd.R k63 63 W w.heap.size (fun _ => True) (.slice (some ⟨g, 0, none⟩) L.length c) (L.map nd) ∧ Below w.heap.size w W
section
variable {w W W1 : World} {g c : Nat} {L : List (S26 × List Int)}
theorem Nd.below (h : Nd w W g c L) (hb : Below W.heap.size W W1) : Nd w W1 g c L := ⟨Kd.R_below h.1 hb, below_step h.2 hb⟩
theorem Nd.lt (h : Nd w W g c L) : g < W.heap.size := Kd.R_lt h.1 g rfl
theorem Nd.cells (h : Nd w W g c L) {i : Nat} {x : S26 × List Int} (hx : L[i]? = some x) : W.cell? ⟨g, i * 4, none⟩ = some (.int .i16 x.1.f0) ∧ W.cell? ⟨g, i * 4 + 1, none⟩ = some (.int .i16 x.1.f1) ∧ W.cell? ⟨g, i * 4 + 2, none⟩ = some (.int .i16 x.1.f2) ∧ ∃ A3 c3, W.cell? ⟨g, i * 4 + 3, none⟩ = some (.slice A3 x.2.length c3) ∧ x.2.length ≤ c3 ∧ (Kd.int .i64).C W A3 x.2.length x.2 := by
  have hi : i < L.length := (List.getElem?_eq_some_iff.1 hx).1
  obtain ⟨h1, h2, hC⟩ := Kd.R_reads' h.1
  obtain ⟨ad, A3, c3, e, a0, a1, a2, a3, a4, a5⟩ := at_T63 hC (i : Int) (by omega) (by rw [List.length_map]; omega)
  injection e with e
  subst e
  have er : rd_T63 (L.map nd) (i : Int) = nd x := by
    unfold rd_T63
    rw [show (i : Int).toNat = i from rfl, List.getD_eq_getElem?_getD, List.getElem?_map, hx]
    rfl
  rw [er] at a0 a1 a2 a3 a4 a5
  rw [show (i : Int).toNat = i from rfl, add_plain] at a0 a1 a2 a3
  exact ⟨a0, a1, a2, A3, c3, a3, a4, a5⟩
end
/-- none of the first q sheets is this one -/
def frB (L : List (S26 × List Int)) (y : S26) (q : Nat) : Bool := (L.take q).all fun t => decide (t.1 ≠ y)
theorem frB_succ {L : List (S26 × List Int)} {y : S26} {q : Nat} {x : S26 × List Int} (hx : L[q]? = some x) : frB L y (q + 1) = (frB L y q && decide (x.1 ≠ y)) := by
  unfold frB
  rw [List.take_add_one, hx, List.all_append]
  simp
theorem frB_all (L : List (S26 × List Int)) (y : S26) : frB L y L.length = decide (¬ y ∈ L.map (·.1)) := by
  unfold frB
  rw [List.take_length, Bool.eq_iff_iff]
  simp only [List.all_eq_true, decide_eq_true_eq, List.mem_map, not_exists, not_and]
theorem neS (a b : S26) : decide (a ≠ b) = !(decide (a.f0 = b.f0) && (decide (a.f1 = b.f1) && decide (a.f2 = b.f2))) := by
  rw [Bool.eq_iff_iff]
  simp only [decide_eq_true_eq, Bool.not_eq_true', Bool.and_eq_false_iff, decide_eq_false_iff_not, ne_eq]
  constructor
  · intro h
    by_cases h0 : a.f0 = b.f0
    · by_cases h1 : a.f1 = b.f1
      · by_cases h2 : a.f2 = b.f2
        · exact absurd (by cases a; cases b; simp_all) h
        · exact .inr (.inr h2)
      · exact .inr (.inl h1)
    · exact .inl h0
  · rintro h rfl
    simp at h
/-- a row of one element, as it is made -/
theorem lit1 {α : Type} (d : Kd α) {W : World} {base e : Nat} {ok okp : Nat → Prop} {p : α} {cs : List Value} (hp : d.M W base okp p cs) (hok : ∀ k, okp k → ok k) (hfresh : ok W.heap.size) (hbase : base ≤ W.heap.size) : d.R e (W.alloc (.cells cs.toArray e)) base ok (.slice (some ⟨W.heap.size, 0, none⟩) 1 1) [p] := by
  have hl : cs.length = d.sz := d.K_len (d.K_of_M hp)
  refine ⟨fun k hk => ?_, cs, ?_, ?_⟩
  · have : W.heap.size = k := by simpa [Value.ownBlock] using hk
    subst this
    exact hfresh
  · have h2 := World.ownsRow_lit (base := base) (e := e) (size := d.sz) W cs.toArray 1 hbase (by decide) (by simpa using hl)
    simpa using h2
  · refine ⟨by simpa using hl, fun j q hq => ?_⟩
    cases j with
    | zero =>
      simp at hq
      subst hq
      rw [Nat.zero_mul, List.drop_zero, List.take_of_length_le (by omega)]
      refine d.M_mono (fun k hk => ⟨hok k hk.1, fun he => ?_⟩) (Kd.M_below (d.M_bound hp) (below_alloc (Below.refl _ _) _))
      have h3 : k = W.heap.size := by simpa [Value.ownBlock] using he
      have := hk.2.2.1
      omega
    | succ j => simp at hq
theorem Nd.start {w W : World} {s : S26} {q : Nat} (hB : Below w.heap.size w W) (hq : (Kd.int .i64).R 2 W w.heap.size (fun _ => True) (.slice (some ⟨q, 0, none⟩) 0 0) []) :
    Nd w (W.alloc (.cells #[.int .i16 s.f0, .int .i16 s.f1, .int .i16 s.f2, .slice (some ⟨q, 0, none⟩) 0 0] 63)) W.heap.size 1 [(s, [])] :=
  ⟨lit1 (okp := fun _ => True) (p := nd (s, [])) k63 (k63_mkM W w.heap.size (fun _ => True) (nd (s, [])) hq) (fun _ h => h) trivial (Below.size hB), below_alloc hB _⟩
/-- a block that was made and written: what was there before is as it was -/
theorem stored_below {W ws : World} {o : Obj} (hg : (W.alloc o).grownBy ws (some W.heap.size)) : Below W.heap.size W ws :=
  pw_below_grown (below_alloc (Below.refl _ _) o) (some W.heap.size) (by simp) hg (fun k_ e_ => by injection e_ with e_; omega)
theorem l00Own_f {l : List Int} (h : l.length < 17592186044416) : spec_l00Own.f l = some l := by
  unfold spec_l00Own.f
  rw [Option.bind_some, if_pos (by simp; omega)]
  rfl
end Go.Proofs.Ytjegcpagdpjidaa.X
