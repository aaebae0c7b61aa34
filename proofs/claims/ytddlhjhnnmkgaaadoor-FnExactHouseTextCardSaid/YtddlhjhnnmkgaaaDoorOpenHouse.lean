/- Contracts of functions, and plain facts: what each call answers, and what it leaves as it was. -/
import Derived.Test.YtddlhjhnnmkgaaaDoorOpenStock
import Derived.Test.YtddlhjhnnmkgaaaDoorHFacts
set_option linter.unusedVariables false
set_option linter.unusedSimpArgs false
namespace Go.Proofs.YtddlhjhnnmkgaaaDoor.X
open Go.RowKit Go.ChangeShapes Go.WideShapes Go.Proofs.YtddlhjhnnmkgaaaDoorW.PrintWords
abbrev houseK (e : Nat) : Kd (List (List Int × List Int × List Int × Int) × Int × Int × Int) := Kd.pair (Kd.slice e stockK) (Kd.pair (Kd.int .i16) (Kd.pair (Kd.int .i8) (Kd.int .i16)))
abbrev houseQ (x : List (List Int × List Int × List Int × Int) × Int × Int × Int) : Prop := (∀ s ∈ x.1, stockQ s) ∧ (Lit.int .i16 x.2.1).wf = true ∧ (Lit.int .i8 x.2.2.1).wf = true ∧ (Lit.int .i16 x.2.2.2).wf = true
theorem opens_house {P : Program} {t st e b c : TypeId} {f0 f1 f2 f3 : Field} (ht : P.underlying t = some (.struct #[f0, f1, f2, f3])) (hc : P.cellsOf t = 4) (hs : P.underlying st = some (.slice e)) (hcs : P.cellsOf st = 1) (hce : P.cellsOf e = 25) (he : Opens P e stockK stockQ) (hb : P.underlying b = some (.int .i16)) (hcb : P.cellsOf b = 1) (hcc : P.underlying c = some (.int .i8)) (hc1 : P.cellsOf c = 1)
    (h0 : f0.type = st ∧ f0.offset = 0) (h1 : f1.type = b ∧ f1.offset = 1) (h2 : f2.type = c ∧ f2.offset = 2) (h3 : f3.type = b ∧ f3.offset = 3) : Opens P t (houseK e) houseQ := by
  obtain ⟨h0, o0⟩ := h0
  obtain ⟨h1, o1⟩ := h1
  obtain ⟨h2, o2⟩ := h2
  obtain ⟨h3, o3⟩ := h3
  have hi : Opens P b (Kd.int .i16) (fun n => (Lit.int .i16 n).wf = true) := opens_int hb
  have hj : Opens P c (Kd.int .i8) (fun n => (Lit.int .i8 n).wf = true) := opens_int hcc
  have hS : Opens P st (Kd.slice e stockK) (fun xs => ∀ s ∈ xs, stockQ s) := opens_slice hs (by rw [hce]; rfl) he
  have hf : OpensFs P 0 [f0, f1, f2, f3] (houseK e) houseQ :=
    opensFs_cons (d1 := Kd.slice e stockK) o0 (show P.cellsOf f0.type = 1 by rw [h0]; exact hcs) (by rw [h0]; exact hS) (opensFs_cons (d1 := Kd.int .i16) o1 (show P.cellsOf f1.type = 1 by rw [h1]; exact hcb) (by rw [h1]; exact hi) (opensFs_cons (d1 := Kd.int .i8) o2 (show P.cellsOf f2.type = 1 by rw [h2]; exact hc1) (by rw [h2]; exact hj) (opensFs_last (d := Kd.int .i16) o3 (show P.cellsOf f3.type = 1 by rw [h3]; exact hcb) (by rw [h3]; exact hi))))
  have h : Opens P t (houseK e) houseQ := opens_struct ht (by rw [hc]; rfl) hf
  intro H enc w base spare held fuel cs x hx
  exact h hx
/-- the number that lies in a cell -/
def numAt (w : World) (a : Addr) : Int := match w.cell? a with | some (.int _ x) => x | _ => 0
theorem numAt_of {w : World} {a : Addr} {k : IntKind} {x : Int} (h : w.cell? a = some (.int k x)) : numAt w a = x := by unfold numAt; rw [h]
theorem spot_of {w : World} {a : Addr} {v : Value} (h : w.cell? a = some v) : a = ⟨a.block, a.off, none⟩ := by
  obtain ⟨b, o, s⟩ := a
  unfold World.cell? at h
  split at h
  · cases s with
    | none => rfl
    | some x => simp at h
  · cases h
theorem add_none (b o i : Nat) : (⟨b, o, none⟩ : Addr).add i = ⟨b, o + i, none⟩ := by
  unfold Addr.add
  split
  · rename_i h; subst h; rfl
  · rfl
theorem stk_num {K : List Int} {r : Int} (hK : K.length = 24) {u : Nat} (hu : u < 25) : (stk K r)[u]? = some (.int (kd u) (if u < 24 then K.getD u 0 else r)) := by
  rcases Nat.lt_or_ge u 24 with h | h
  · rw [stk_get hK r h, if_pos h]
    have e : kd u = .i16 := by have := kd_num (q := 0) h; rwa [Nat.mul_zero, Nat.zero_add] at this
    rw [e]
  · obtain rfl : u = 24 := by omega
    rw [stk_rag hK r, if_neg (by omega)]; rfl
theorem rows_of {w : World} {A : Option Addr} {n : Nat} {xs : List (List Int × List Int × List Int × Int)} (h : Kd.C stockK w A n xs) (hq : ∀ s ∈ xs, stockQ s) : ∃ f, Arg w n f A ∧ Rng f n := by
  obtain ⟨hl, hm, hr⟩ := h
  rcases Nat.eq_zero_or_pos n with h0 | h0
  · subst h0
    exact ⟨fun _ => 0, fun h => absurd h (by omega), fun i hi => absurd hi (by omega)⟩
  obtain ⟨ad, rfl, hc⟩ := hr h0
  have key : ∀ i, i < 25 * n → ∃ x : Int, w.cell? (ad.add i) = some (.int (kd i) x) ∧ (kd i = .i16 → -32768 ≤ x ∧ x ≤ 32767) ∧ (kd i = .i32 → -2147483648 ≤ x ∧ x ≤ 2147483647) := by
    intro i hi
    have hj : i / 25 < xs.length := by rw [hl]; omega
    obtain ⟨c, hcl, hK, hcell⟩ := hc (i / 25) _ (List.getElem?_eq_getElem hj)
    obtain ⟨K, r, rfl, hKl, hR⟩ := stock_of hK (hq _ (List.getElem_mem hj))
    have hu : i % 25 < 25 := Nat.mod_lt _ (by decide)
    have h1 := hcell (i % 25) _ (stk_num hKl (r := r) hu)
    have h2 : i / 25 * 25 + i % 25 = i := by omega
    have h3 : kd (i % 25) = kd i := by unfold kd; rw [Nat.mod_mod]
    have h4 : i / 25 * stockK.sz + i % 25 = i := h2
    rw [h4, h3] at h1
    refine ⟨_, h1, fun e => ?_, fun e => ?_⟩
    · have : i % 25 < 24 := by
        unfold kd at e
        split at e
        · cases e
        · omega
      rw [if_pos this]; exact hR.1 _
    · have : ¬ i % 25 < 24 := by
        unfold kd at e
        split at e
        · omega
        · cases e
      rw [if_neg this]; exact hR.2
  obtain ⟨x0, hx0, _⟩ := key 0 (by omega)
  have ha : ad.add 0 = ad := if_pos rfl
  rw [ha] at hx0
  have hs := spot_of hx0
  refine ⟨fun i => numAt w (ad.add i), fun _ => ⟨ad.block, ad.off, by rw [← hs], fun i hi => ?_⟩, fun i hi => ?_⟩
  · obtain ⟨x, hx, _⟩ := key i hi
    rw [← add_none, ← hs, hx]
    show _ = some (Value.int (kd i) (numAt w (ad.add i)))
    rw [numAt_of hx]
  · obtain ⟨x, hx, h1, h2⟩ := key i hi
    show (kd i = .i16 → -32768 ≤ numAt w (ad.add i) ∧ numAt w (ad.add i) ≤ 32767) ∧ (kd i = .i32 → -2147483648 ≤ numAt w (ad.add i) ∧ numAt w (ad.add i) ≤ 2147483647)
    rw [numAt_of hx]; exact ⟨h1, h2⟩
theorem house_of {w : World} {e : Nat} {x : List (List Int × List Int × List Int × Int) × Int × Int × Int} {cs : List Value} (h : (houseK e).K w x cs) (hq : houseQ x) :
    ∃ (A : Option Addr) (n c : Nat) (f : Nat → Int) (t v d : Int), cs = [.slice A n c, .int .i16 t, .int .i8 v, .int .i16 d] ∧ (n : Int) ≤ 9223372036854775807 ∧ Arg w n f A ∧ Rng f n ∧ (-32768 ≤ t ∧ t ≤ 32767) ∧ (-128 ≤ v ∧ v ≤ 127) ∧ (-32768 ≤ d ∧ d ≤ 32767) := by
  obtain ⟨xs, t, v, d⟩ := x
  obtain ⟨c0, c1, rfl, ⟨A, c, rfl, hc, hC⟩, d0, d1, rfl, h1, e0, e1, rfl, h2, h3⟩ := h
  obtain ⟨q0, q1, q2, q3⟩ := hq
  have h1' : d0 = [.int .i16 t] := h1
  have h2' : e0 = [.int .i8 v] := h2
  have h3' : e1 = [.int .i16 d] := h3
  subst h1' h2' h3'
  obtain ⟨f, hf, hr⟩ := rows_of hC q0
  exact ⟨A, xs.length, c, f, t, v, d, rfl, Int.ofNat_le.2 (show xs.length ≤ 9223372036854775807 from hC.2.1), hf, hr, bounds_i16 q1, bounds_i8 q2, bounds_i16 q3⟩
end Go.Proofs.YtddlhjhnnmkgaaaDoor.X
