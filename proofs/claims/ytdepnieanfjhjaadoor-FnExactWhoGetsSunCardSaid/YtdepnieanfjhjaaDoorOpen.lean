/- What an argument's reading as data tells of its cells, kind by kind: plain theorems over any program. -/
import Derived.Test.YtdepnieanfjhjaaDoorWWords
import Derived.OpenShut
import Derived.Deep.Slices
import Derived.ChangeShapes
import Derived.WideShapes
set_option linter.unusedVariables false
set_option linter.unusedSimpArgs false
namespace Go.Proofs.YtdepnieanfjhjaaDoorW.PrintWords
open Go.RowKit Go.ChangeShapes Go.WideShapes Go.Deep

/-- Whatever reads as a datum of type t stands as d says of some x that has Q. -/
def Opens {α : Type} (P : Program) (t : TypeId) (d : Kd α) (Q : α → Prop) : Prop :=
  ∀ {H : Type} {enc : TypeId × Value → H} {w : World} {base : Nat} {spare : Nat → Bool} {held : Bool} {fuel : Nat} {cs : List Value} {x : DataW H × List MemPlace},
    DataW.trod enc P w base spare held fuel t cs = some x → ∃ a, d.K w a cs ∧ Q a

theorem opens_int {P : Program} {t : TypeId} {k : IntKind} (ht : P.underlying t = some (.int k)) : Opens P t (Kd.int k) (fun n => (Lit.int k n).wf = true) := by
  intro H enc w base spare held fuel cs x h
  obtain ⟨n, rfl, _, hw⟩ := DataW.trod_int ht h
  exact ⟨n, rfl, hw⟩
theorem opens_bool {P : Program} {t : TypeId} (ht : P.underlying t = some .bool) : Opens P t Kd.bool (fun _ => True) := by
  intro H enc w base spare held fuel cs x h
  obtain ⟨b, rfl, _⟩ := DataW.trod_bool ht h
  exact ⟨b, rfl, trivial⟩
theorem opens_string {P : Program} {t : TypeId} (ht : P.underlying t = some .string) : Opens P t Kd.string (fun s => s.size ≤ maxLen) := by
  intro H enc w base spare held fuel cs x h
  obtain ⟨s, rfl, _, hs⟩ := DataW.trod_string ht h
  exact ⟨s, rfl, hs⟩

/-- for each index some element: a list of them -/
theorem list_of {α : Type} (p : Nat → α → Prop) : ∀ n : Nat, (∀ i, i < n → ∃ a, p i a) → ∃ l : List α, l.length = n ∧ ∀ i a, l[i]? = some a → p i a
  | 0, _ => ⟨[], rfl, fun i a h => by simp at h⟩
  | n + 1, h => by
    obtain ⟨l, hl, hp⟩ := list_of p n (fun i hi => h i (by omega))
    obtain ⟨a, ha⟩ := h n (by omega)
    refine ⟨l ++ [a], by simp [hl], fun i b hb => ?_⟩
    rcases Nat.lt_or_ge i n with hi | hi
    · rw [List.getElem?_append_left (by omega)] at hb
      exact hp i b hb
    · have hlt := (List.getElem?_eq_some_iff.1 hb).1
      have : i = n := by simp [hl] at hlt; omega
      subst this
      rw [List.getElem?_append_right (by omega)] at hb
      simp [hl] at hb
      subst hb
      exact ha

theorem opens_slice {α : Type} {P : Program} {t e : TypeId} {d : Kd α} {Q : α → Prop} (ht : P.underlying t = some (.slice e)) (hs : P.cellsOf e = d.sz) (ho : Opens P e d Q) :
    Opens P t (Kd.slice e d) (fun xs => ∀ x ∈ xs, Q x) := by
  intro H enc w base spare held fuel cs x h
  rcases Go.Deep.open_slice ht h with ⟨rfl, _⟩ | ⟨a, len, cap, m, n, D, Pl, rfl, hb, hl, hm, hmm, hx, hi⟩
  · exact ⟨[], ⟨none, 0, rfl, Nat.le_refl _, Kd.C_nil d w⟩, fun x hx => by simp at hx⟩
  · have hlm : len ≤ m := by rw [hmm]; split <;> omega
    obtain ⟨l, hll, hlp⟩ := list_of (fun i (b : α) => (∃ c, c.length = d.sz ∧ d.K w b c ∧ ∀ j u, c[j]? = some u → w.cell? (a.add (i * d.sz + j)) = some u) ∧ Q b) len (fun i hil => by
      obtain ⟨cs', hc, ht'⟩ := hi i (by omega)
      obtain ⟨b, hK, hQ⟩ := ho ht'
      obtain ⟨_, hcl, hcell⟩ := World.cells?_some hc
      refine ⟨b, ⟨cs', by rw [hcl, hs], hK, fun j u hj => ?_⟩, hQ⟩
      have hlt := (List.getElem?_eq_some_iff.1 hj).1
      have h2 := hcell j (by omega)
      rw [hj, hs, Go.Deep.add_add] at h2
      exact h2)
    subst hll
    refine ⟨l, ⟨some a, cap, rfl, hl, ?_⟩, fun b hb => ?_⟩
    · refine ⟨rfl, by have hm2 := hm; unfold maxLen at hm2; omega, fun _ => ⟨a, rfl, fun j p hj => (hlp j p hj).1⟩⟩
    · obtain ⟨j, hj⟩ := List.getElem?_of_mem hb
      exact (hlp j b hj).2

/-- Fields in line, from offset o on. -/
def OpensFs {α : Type} (P : Program) (o : Nat) (fs : List Field) (d : Kd α) (Q : α → Prop) : Prop :=
  ∀ {H : Type} {enc : TypeId × Value → H} {w : World} {base : Nat} {spare : Nat → Bool} {held : Bool} {n : Nat} {cs : List Value} {xs : List (DataW H × List MemPlace)},
    xs.length = fs.length → cs.length = o + d.sz → (∀ (i : Nat) (f : Field), fs[i]? = some f → DataW.trod enc P w base spare held n f.type ((cs.drop f.offset).take (P.cellsOf f.type)) = xs[i]?) → ∃ a, d.K w a (cs.drop o) ∧ Q a

theorem opensFs_last {α : Type} {P : Program} {o : Nat} {f : Field} {d : Kd α} {Q : α → Prop} (hf : f.offset = o) (hs : P.cellsOf f.type = d.sz) (ho : Opens P f.type d Q) : OpensFs P o [f] d Q := by
  intro H enc w base spare held n cs xs hx hc h
  match xs, hx with
  | [x0], _ =>
    have h0 := h 0 f rfl
    rw [hf, hs, List.take_of_length_le (by rw [List.length_drop]; omega)] at h0
    exact ho h0
theorem opensFs_cons {α β : Type} {P : Program} {o : Nat} {f : Field} {fs : List Field} {d1 : Kd α} {d2 : Kd β} {Q1 : α → Prop} {Q2 : β → Prop} (hf : f.offset = o) (hs : P.cellsOf f.type = d1.sz) (ho : Opens P f.type d1 Q1)
    (hr : OpensFs P (o + d1.sz) fs d2 Q2) : OpensFs P o (f :: fs) (Kd.pair d1 d2) (fun a => Q1 a.1 ∧ Q2 a.2) := by
  intro H enc w base spare held n cs xs hx hc h
  have hc' : cs.length = o + (d1.sz + d2.sz) := hc
  match xs, hx with
  | x0 :: xs, hx =>
    have h0 := h 0 f rfl
    rw [hf, hs] at h0
    obtain ⟨a, hK, hQ⟩ := ho h0
    obtain ⟨b, hK2, hQ2⟩ := hr (xs := xs) (cs := cs) (by simpa using hx) (by omega) (fun i g hg => h (i + 1) g hg)
    refine ⟨(a, b), ⟨(cs.drop o).take d1.sz, cs.drop (o + d1.sz), ?_, hK, hK2⟩, hQ, hQ2⟩
    rw [← List.drop_drop, List.take_append_drop]
theorem opens_struct {α : Type} {P : Program} {t : TypeId} {fs : Array Field} {d : Kd α} {Q : α → Prop} (ht : P.underlying t = some (.struct fs)) (hs : P.cellsOf t = d.sz) (ho : OpensFs P 0 fs.toList d Q) : Opens P t d Q := by
  intro H enc w base spare held fuel cs x h
  obtain ⟨xs, n, _, _, hl, hxs, hg⟩ := DataW.trod_struct ht h
  obtain ⟨a, hK, hQ⟩ := ho (xs := xs) (cs := cs) (n := n) (by simpa using hxs) (by rw [hl, hs]; omega) (fun i f hf => hg i f (by simpa using hf))
  exact ⟨a, by simpa using hK, hQ⟩
theorem opens_iso {α β : Type} {P : Program} {t : TypeId} {d : Kd α} {Q : α → Prop} (f : β → α) (g : α → β) (hfg : ∀ a, f (g a) = a) (h : Opens P t d Q) : Opens P t (Kd.iso d f) (fun b => Q (f b)) := by
  intro H enc w base spare held fuel cs x hx
  obtain ⟨a, hK, hQ⟩ := h hx
  exact ⟨g a, by show d.K w (f (g a)) cs; rw [hfg]; exact hK, by show Q (f (g a)); rw [hfg]; exact hQ⟩
theorem opens_imp {α : Type} {P : Program} {t : TypeId} {d : Kd α} {Q Q' : α → Prop} (h : Opens P t d Q) (hq : ∀ a, Q a → Q' a) : Opens P t d Q' := by
  intro H enc w base spare held fuel cs x hx
  obtain ⟨a, hK, hQ⟩ := h hx
  exact ⟨a, hK, hq a hQ⟩

/-- A whole argument: its value's cells. -/
theorem opens_arg {α : Type} {P : Program} {t : TypeId} {d : Kd α} {Q : α → Prop} (h : Opens P t d Q) {H : Type} {enc : TypeId × Value → H} {w : World} {base : Nat} {spare : Nat → Bool} {held : Bool} {v : Value} {x : DataW H} {p : List MemPlace}
    (ht : DataW.Trod enc P w base spare held t v x p) : ∃ a, d.K w a v.cells.toList ∧ Q a := by
  obtain ⟨fuel, hf⟩ := ht
  exact h hf
theorem agg_of {P : Program} {w : World} {r : Reach} {b : Nat} {t : TypeId} {fs : Array Field} {v : Value} {l : List Value} (ht : P.underlying t = some (.struct fs)) (hv : Value.okWide P w r b t v) (h : v.cells.toList = l) : v = .agg l.toArray := by
  obtain ⟨cs, rfl, _⟩ := okWide_struct ht hv
  rw [← h]
  simp [Value.cells]
end Go.Proofs.YtdepnieanfjhjaaDoorW.PrintWords
