/- Contracts of functions, and plain facts: what each call answers, and what it leaves as it was. -/
import Derived.Test.YtjegcpagdpjidaaNd
import Derived.Test.YtjegcpagdpjidaaX7
import Derived.Test.YtjegcpagdpjidaaX9
import Derived.Test.YtjegcpagdpjidaaX10
import Derived.Deep.AppendLies
set_option linter.unusedVariables false
set_option linter.unusedSimpArgs false
namespace Go.Proofs.Ytjegcpagdpjidaa.X
open Go.RowKit Go.Proofs.YtjegcpagdpjidaaW.PrintWords Go.Proofs.YtjegcpagdpjidaaW.PrintLast Go.Proofs.YtjegcpagdpjidaaW.PrintMore
attribute [local go_sem] max2_int min2_int max_two min_two max_three min_three max_four min_four
theorem infoSh : (Try.prog.info? 26).map (fun i => (i.zero, i.size, i.bytes)) = some (some (.agg #[(.int .i16 0), (.int .i16 0), (.int .i16 0)]), 3, 6) := by kernel_rfl
theorem infoIs : (Try.prog.info? 25).map (fun i => (i.zero, i.size, i.bytes)) = some (some (.slice none 0 0), 1, 24) := by kernel_rfl
/-- append of one element that lies in a block of its own, wherever that is -/
theorem wp_app {P : Program} {o : Oper} {a : Act} {K : Act → World → Prop} {Q : Exit → Act → World → Prop} {α : Type} (d : Kd α) {W : World} (base : Nat) (s x : Operand) (t e : TypeId) (z : Value) (bytes : Nat)
    (ho : o.op = .call { callee := .builtin .append, args := #[s, x], argTypes := #[t, t] })
    (ht : P.underlying t = some (.slice e)) (hinfo : (P.info? e).map (fun i => (i.zero, i.size, i.bytes)) = some (some z, d.sz, bytes)) (hz : z.cells.size = d.sz) (hs0 : 0 < d.sz)
    (v : Value) (xs : List α) (p : α) (cs : List Value) (ok okp : Nat → Prop) (hs : a.eval s = v) (bx tb : Nat) (hx : a.eval x = .slice (some ⟨bx, 0, none⟩) 1 1) (hb : Blk W bx tb cs) (hp : d.M W base okp p cs) (hokp : ∀ k, okp k → ok k ∧ some k ≠ v.ownBlock) (hfresh : ∀ k, W.heap.size ≤ k → ok k)
    (HO : d.R e W base ok v xs) (hbase : base ≤ W.heap.size) (hl : (xs.length + 1) * bytes ≤ 140737488355328) (h63 : xs.length + 1 ≤ maxLen)
    (h : ∀ g cap w1, d.R e w1 base ok (.slice (some ⟨g, 0, none⟩) (xs.length + 1) cap) (xs ++ [p]) → W.grownBy w1 v.ownBlock → (v.ownBlock = some g ∨ g = W.heap.size) → K (a.put o.dst (.slice (some ⟨g, 0, none⟩) (xs.length + 1) cap)) w1) : o.wp P a W K Q := by
  obtain ⟨h0, inner, hown, hr⟩ := HO
  obtain ⟨i, hi, hzz⟩ := Option.map_eq_some_iff.1 hinfo
  have hz0 : i.zero = some z := congrArg (fun x => x.1) hzz
  have hs1 : i.size = d.sz := congrArg (fun x => x.2.1) hzz
  have hb8 : i.bytes = bytes := congrArg (fun x => x.2.2) hzz
  refine wp_append_lies W s x t ho base e i z d.sz bytes ht hi hz0 hs1 hb8 hz hs0 v xs.length inner hs hown ⟨bx, 0, none⟩ 1 1 cs hx (by rw [Nat.one_mul]; exact d.K_len (d.K_of_M hp)) (World.news_of_block hb) (d.K_one (d.K_of_M hp)) (by decide) h63 hl hbase _ rfl ?_
  intro g cap w1 h2 h3 h4 h5
  refine h g cap w1 (Kd.R_appended h0 hr hp hokp hfresh h2 h3 ?_) h3 h4
  rcases h4 with h4 | h4
  · exact .inl (by rw [h4]; rfl)
  · exact .inr ⟨g, rfl, by omega⟩
/-- sheets and folds that were come to so far, as two rows of the call's own -/
def Fd (w W : World) (gs cs gf cf : Nat) (L : List (S26 × List Int)) : Prop :=
  Kd.R k26 26 W w.heap.size (fun _ => True) (.slice (some ⟨gs, 0, none⟩) L.length cs) (L.map (·.1)) ∧
  Kd.R (Kd.slice 2 (Kd.int .i64)) 25 W w.heap.size (fun _ => True) (.slice (some ⟨gf, 0, none⟩) L.length cf) (L.map (·.2)) ∧ Below w.heap.size w W
section
variable {w W W1 : World} {gs cs gf cf : Nat} {L : List (S26 × List Int)}
theorem Fd.below (h : Fd w W gs cs gf cf L) (hb : Below W.heap.size W W1) : Fd w W1 gs cs gf cf L := ⟨Kd.R_below h.1 hb, Kd.R_below h.2.1 hb, below_step h.2.2 hb⟩
theorem Fd.lt (h : Fd w W gs cs gf cf L) : gs < W.heap.size ∧ gf < W.heap.size := ⟨Kd.R_lt h.1 gs rfl, Kd.R_lt h.2.1 gf rfl⟩
theorem Fd.ne (h : Fd w W gs cs gf cf L) : gs ≠ gf := by
  obtain ⟨i1, o1⟩ := Kd.R_own h.1
  obtain ⟨i2, o2⟩ := Kd.R_own h.2.1
  obtain ⟨c1, e1⟩ := own_typed o1 gs rfl
  obtain ⟨c2, e2⟩ := own_typed o2 gf rfl
  rintro rfl
  rw [e1] at e2
  injection e2 with e2
  injection e2 with _ e2
  revert e2
  decide
theorem Fd.C (h : Fd w W gs cs gf cf L) : Kd.C k26 W (some ⟨gs, 0, none⟩) L.length (L.map (·.1)) ∧ L.length ≤ cs := by
  obtain ⟨h1, h2, hC⟩ := Kd.R_reads' h.1
  rw [List.length_map] at hC
  exact ⟨hC, h2⟩
theorem Fd.cells (h : Fd w W gs cs gf cf L) {i : Nat} {x : S26 × List Int} (hx : L[i]? = some x) : W.cell? ⟨gs, i * 3, none⟩ = some (.int .i16 x.1.f0) ∧ W.cell? ⟨gs, i * 3 + 1, none⟩ = some (.int .i16 x.1.f1) ∧ W.cell? ⟨gs, i * 3 + 2, none⟩ = some (.int .i16 x.1.f2) ∧ ∃ A3 c3, W.cell? ⟨gf, i, none⟩ = some (.slice A3 x.2.length c3) ∧ x.2.length ≤ c3 ∧ (Kd.int .i64).C W A3 x.2.length x.2 := by
  have hi : i < L.length := (List.getElem?_eq_some_iff.1 hx).1
  obtain ⟨h1, h2, hC⟩ := Kd.R_reads' h.1
  obtain ⟨ad, e, a0, a1, a2⟩ := at_T26 hC (i : Int) (by omega) (by rw [List.length_map]; omega)
  injection e with e
  subst e
  have er : rd_T26 (L.map (·.1)) (i : Int) = x.1 := by
    unfold rd_T26
    rw [show (i : Int).toNat = i from rfl, List.getD_eq_getElem?_getD, List.getElem?_map, hx]
    rfl
  rw [er] at a0 a1 a2
  rw [show (i : Int).toNat = i from rfl, add_plain] at a0 a1 a2
  obtain ⟨_, _, hD⟩ := Kd.R_reads' h.2.1
  obtain ⟨ad, A3, c3, e, b0, b1, b2⟩ := at_L3 hD (i : Int) (by omega) (by rw [List.length_map]; omega)
  injection e with e
  subst e
  have er2 : rd_L3 (L.map (·.2)) (i : Int) = x.2 := by
    unfold rd_L3
    rw [show (i : Int).toNat = i from rfl, List.getD_eq_getElem?_getD, List.getElem?_map, hx]
    rfl
  rw [er2] at b0 b1 b2
  rw [show (i : Int).toNat = i from rfl, add_plain] at b0
  exact ⟨a0, a1, a2, A3, c3, b0, b1, b2⟩
end
theorem Fd.start {w W : World} {s : S26} (hB : Below w.heap.size w W) :
    Fd w (((W.alloc (.cells #[.int .i16 s.f0, .int .i16 s.f1, .int .i16 s.f2] 26)).alloc (.cells #[] 2)).alloc (.cells #[.slice (some ⟨W.heap.size + 1, 0, none⟩) 0 0] 25)) W.heap.size 1 (W.heap.size + 1 + 1) 1 [(s, [])] := by
  have hB1 := below_alloc hB (.cells #[.int .i16 s.f0, .int .i16 s.f1, .int .i16 s.f2] 26)
  have hB2 := below_alloc hB1 (.cells #[] 2)
  have h1 := lit1 (W := W) (base := w.heap.size) (e := 26) (ok := fun _ => True) (okp := fun _ => True) (p := s) k26 (k26_mkM W w.heap.size (fun _ => True) s) (fun _ h => h) trivial (Below.size hB)
  have hq : (Kd.int .i64).R 2 ((W.alloc (.cells #[.int .i16 s.f0, .int .i16 s.f1, .int .i16 s.f2] 26)).alloc (.cells #[] 2)) w.heap.size (fun _ => True) (.slice (some ⟨W.heap.size + 1, 0, none⟩) 0 0) [] := Kd.R_of_own (by
    have h2_ := World.ownsRow_made (W.alloc (.cells #[.int .i16 s.f0, .int .i16 s.f1, .int .i16 s.f2] 26)) (base := w.heap.size) (e := 2) (size := 1) #[] 0 (by have := Below.size hB; simp; omega) (by decide) (by rfl)
    simpa [encs] using h2_) (fun _ _ => trivial)
  have h3 := lit1 (base := w.heap.size) (e := 25) (ok := fun _ => True) (okp := fun _ => True) (p := ([] : List Int)) (cs := [.slice (some ⟨W.heap.size + 1, 0, none⟩) 0 0]) (Kd.slice 2 (Kd.int .i64)) (W := ((W.alloc (.cells #[.int .i16 s.f0, .int .i16 s.f1, .int .i16 s.f2] 26)).alloc (.cells #[] 2))) ⟨_, rfl, hq⟩ (fun _ h => h) trivial (Below.size hB2)
  refine ⟨Kd.R_alloc (Kd.R_alloc h1 _) _, by simpa using h3, below_alloc hB2 _⟩
/-- the sheets' row was written on: the folds' rows are as they were -/
theorem Fd.far {w W W1 : World} {gs cs gf cf g' c' n' : Nat} {L : List (S26 × List Int)} {xs : List S26} (h : Fd w W gs cs gf cf L) (hg : W.grownBy W1 (Value.slice (some ⟨gs, 0, none⟩) L.length cs).ownBlock) :
    Kd.R (Kd.slice 2 (Kd.int .i64)) 25 W1 w.heap.size (fun _ => True) (.slice (some ⟨gf, 0, none⟩) L.length cf) (L.map (·.2)) ∧ Below w.heap.size w W1 := by
  obtain ⟨i1, o1⟩ := Kd.R_own h.1
  obtain ⟨c1, e1⟩ := own_typed o1 gs rfl
  have h2 := Kd.R_types h.2.1 e1 (by decide)
  exact ⟨Kd.R_mono (Kd.R_grown h2 hg (fun k hk e => hk.2 (by simpa [Value.ownBlock] using e))) (fun k hk => hk.1), pw_below_grown h.2.2 _ (Below.size h.2.2) hg (fun k_ e_ => own_base o1 k_ e_)⟩
theorem clone_f {l : List Int} (h : l.length ≤ 1048576) : slices_Clone_int64_int64.f l = some l := if_pos h
theorem cont_loop (l : List S26) (y : S26) (hl : l.length ≤ 4294967296) : ∀ (d i k : Nat), i + d = l.length → d < k → ∃ r : Int, impl_Sheet_74.l0 k l (l.length : Int) i y.f0 y.f1 y.f2 = some r ∧ (0 ≤ r ↔ y ∈ l.drop i) := by
  intro d
  induction d with
  | zero =>
    intro i k hi hk
    obtain ⟨k, rfl⟩ : ∃ m, k = m + 1 := ⟨k - 1, by omega⟩
    refine ⟨-1, by rw [impl_Sheet_74.l0, if_neg (by omega)], ?_⟩
    rw [List.drop_eq_nil_of_le (by omega)]
    simp
  | succ d ih =>
    intro i k hi hk
    obtain ⟨k, rfl⟩ : ∃ m, k = m + 1 := ⟨k - 1, by omega⟩
    have hil : i < l.length := by omega
    have er : rd_T26 l (i : Int) = l[i] := by
      unfold rd_T26
      rw [show (i : Int).toNat = i from rfl, List.getD_eq_getElem?_getD, List.getElem?_eq_getElem hil]
      rfl
    rw [impl_Sheet_74.l0, if_pos (by omega), if_pos (by omega), if_pos (by omega), er, List.drop_eq_getElem_cons hil, w64s (by omega)]
    by_cases he : y = l[i]
    · refine ⟨i, by rw [if_pos (by rw [he]; simp)], ?_⟩
      exact ⟨fun _ => by rw [he]; exact List.mem_cons_self .., fun _ => by omega⟩
    · rw [if_neg (by
        intro h
        simp only [Bool.and_eq_true, beq_iff_eq] at h
        exact he (by cases hy : y; cases hli : l[i]; rw [hy, hli] at h; simp_all))]
      obtain ⟨r, h1, h2⟩ := ih (i + 1) k (by omega) (by omega)
      exact ⟨r, h1, by rw [h2, List.mem_cons]; exact ⟨fun h => .inr h, fun h => h.resolve_left he⟩⟩
theorem cont_f (l : List S26) (y : S26) (hl : l.length ≤ 4294967296) : impl_Sheet_67.f 4294967298 l y.f0 y.f1 y.f2 = some (decide (y ∈ l)) := by
  unfold impl_Sheet_67.f impl_Sheet_74.f
  obtain ⟨r, h1, h2⟩ := cont_loop l y hl l.length 0 4294967298 (by omega) (by omega)
  rw [show ((0 : Nat) : Int) = 0 from rfl] at h1
  rw [h1, Option.bind_some]
  rw [List.drop_zero] at h2
  rw [Option.some.injEq, Bool.eq_iff_iff, decide_eq_true_eq, decide_eq_true_eq]
  exact h2
theorem cell_grown {W W1 : World} {row : Option Nat} (hg : W.grownBy W1 row) {q i : Nat} {v : Value} (hne : some q ≠ row) (hc : W.cell? ⟨q, i, none⟩ = some v) : W1.cell? ⟨q, i, none⟩ = some v := by
  have hlt : q < W.heap.size := World.block_lt_of_cell? W _ hc
  have hb := hg.block q hlt hne
  unfold World.cell? at hc ⊢
  simp only at hc ⊢
  rw [hb]
  exact hc
theorem foldsC {w W : World} {gf n c i m c3 : Nat} {A : Option Addr} {L : List (S26 × List Int)} {x : S26 × List Int} (h : Kd.R (Kd.slice 2 (Kd.int .i64)) 25 W w.heap.size (fun _ => True) (.slice (some ⟨gf, 0, none⟩) n c) (L.map (·.2))) (hx : L[i]? = some x) (hc : W.cell? ⟨gf, i, none⟩ = some (.slice A m c3)) : m = x.2.length ∧ (Kd.int .i64).C W A x.2.length x.2 := by
  have hi : i < L.length := (List.getElem?_eq_some_iff.1 hx).1
  obtain ⟨hn, _, hD⟩ := Kd.R_reads' h
  obtain ⟨ad, A3, c4, e, b0, b1, b2⟩ := at_L3 hD (i : Int) (by omega) (by rw [List.length_map]; omega)
  injection e with e
  subst e
  have er2 : rd_L3 (L.map (·.2)) (i : Int) = x.2 := by
    unfold rd_L3
    rw [show (i : Int).toNat = i from rfl, List.getD_eq_getElem?_getD, List.getElem?_map, hx]
    rfl
  rw [er2] at b0 b2
  rw [show (i : Int).toNat = i from rfl, add_plain, hc] at b0
  injection b0 with b0
  injection b0 with e1 e2 e3
  subst e1
  exact ⟨e2, b2⟩
/-- the folds' row was written on: the sheets' row is as it was -/
theorem sheets_far {w W W1 : World} {gs n c gf n' c' : Nat} {xs : List S26} {ys : List (List Int)} (h : Kd.R k26 26 W w.heap.size (fun _ => True) (.slice (some ⟨gs, 0, none⟩) n c) xs) (hf : Kd.R (Kd.slice 2 (Kd.int .i64)) 25 W w.heap.size (fun _ => True) (.slice (some ⟨gf, 0, none⟩) n' c') ys) (hg : W.grownBy W1 (Value.slice (some ⟨gf, 0, none⟩) n' c').ownBlock) :
    Kd.R k26 26 W1 w.heap.size (fun _ => True) (.slice (some ⟨gs, 0, none⟩) n c) xs := by
  obtain ⟨i1, o1⟩ := Kd.R_own hf
  obtain ⟨c1, e1⟩ := own_typed o1 gf rfl
  have h2 := Kd.R_types h e1 (by decide)
  exact Kd.R_mono (Kd.R_grown h2 hg (fun k hk e => hk.2 (by simpa [Value.ownBlock] using e))) (fun k hk => hk.1)
end Go.Proofs.Ytjegcpagdpjidaa.X
