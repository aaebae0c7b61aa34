/- Contracts of functions, and plain facts: what each call answers, and what it leaves as it was. -/
import Derived.Test.YtdepnieanfjhjaaCho
import Derived.Test.YtdepnieanfjhjaaSome
import Derived.Test.YtdepnieanfjhjaaImpl1
import Derived.Test.YtdepnieanfjhjaaX5
import Derived.Test.YtdepnieanfjhjaaX7
import Derived.Test.YtdepnieanfjhjaaHSeq
import Derived.Laws.EntriesVeiled
set_option linter.unusedVariables false
set_option linter.unusedSimpArgs false
namespace Go.Proofs.Ytdepnieanfjhjaa.X
open Go.RowKit Go.Proofs.YtdepnieanfjhjaaW.PrintWords Go.Proofs.YtdepnieanfjhjaaW.PrintLast Go.Proofs.YtdepnieanfjhjaaW.PrintMore
attribute [local go_sem] max2_int min2_int max_two min_two max_three min_three max_four min_four
theorem firstOf2_f (a b : Int) : impl_firstOf.f 3 [a, b] = some (if a = 0 then b else a) := by
  by_cases ha : a = 0 <;> by_cases hb : b = 0 <;> simp [impl_firstOf.f, impl_firstOf.l0, ha, hb, rd, show wrap64 1 = 1 by unfold wrap64; omega, show wrap64 2 = 2 by unfold wrap64; omega]
theorem C_int2 {W : World} {g T : Nat} {a b : Int} (h : Blk W g T [.int .i64 a, .int .i64 b]) : Kd.C (Kd.int .i64) W (some ⟨g, 0, none⟩) 2 [a, b] := by
  refine ⟨rfl, by omega, fun _ => ⟨_, rfl, fun j p hj => ?_⟩⟩
  match j, hj with
  | 0, hj =>
    simp at hj
    subst hj
    refine ⟨_, rfl, rfl, fun i u hi => ?_⟩
    have : (⟨g, 0, none⟩ : Addr).add (0 * (Kd.int .i64).sz + i) = ⟨g, i, none⟩ := by rw [Nat.zero_mul, Nat.zero_add, Addr.add_mid, Nat.zero_add]
    rw [this]
    match i, hi with
    | 0, hi => exact h.cell 0 hi
  | 1, hj =>
    simp at hj
    subst hj
    refine ⟨_, rfl, rfl, fun i u hi => ?_⟩
    have : (⟨g, 0, none⟩ : Addr).add (1 * (Kd.int .i64).sz + i) = ⟨g, 1 + i, none⟩ := by rw [Addr.add_mid, Nat.zero_add]; rfl
    rw [this]
    match i, hi with
    | 0, hi => exact h.cell 1 hi
theorem firstOf2_below (a b : Int) (W : World) (A : Option Addr) (hC : Kd.C (Kd.int .i64) W A 2 [a, b]) : Calls Try.prog 19 #[.slice A 2 2] W fun e w' => e = .returned (.int .i64 (if a = 0 then b else a)) ∧ Below W.heap.size W w' :=
  (impl_firstOf.calls 3 A 2 [a, b] _ W hC (by simp) (firstOf2_f a b)).mono (fun e w' h => ⟨h.1, h.2.below⟩)
/-- the code of a day, things, an hour, and of how many things there are -/
def bhCode (L : List Int) (ws : List S52) (h : Int) : Int := if askedF L ws (inR h 0 24) = 0 then (if ws.length ≤ 6 then 0 else 3) else askedF L ws (inR h 0 24)
/-- what is the best order, what it costs, and the code -/
def BhF (L : List Int) (ws : List S52) (h : Int) (b : List Int) (l code : Int) : Prop :=
  code = bhCode L ws h ∧ (code ≠ 0 → b = [] ∧ l = 0) ∧ (code = 0 → bo ws.length (lfF L ws h.toNat) ws.length [] none = some (b, l))
theorem asked_iff {L : List Int} {ws : List S52} {fine : Bool} : askedF L ws fine = 0 ↔ dayOk L = true ∧ (ws.all fun x => washOk x.f0 x.f1) = true ∧ fine = true := by
  unfold askedF
  cases dayOk L <;> cases (ws.all fun x => washOk x.f0 x.f1) <;> cases fine <;> simp
theorem bh_ok {L : List Int} {ws : List S52} {h : Int} (hc : bhCode L ws h = 0) : dayOk L = true ∧ (∀ x ∈ ws, washOk x.f0 x.f1 = true) ∧ (0 ≤ h ∧ h ≤ 24) ∧ ws.length ≤ 6 := by
  unfold bhCode at hc
  split at hc
  · rename_i h0
    obtain ⟨h1, h2, h3⟩ := asked_iff.1 h0
    split at hc
    · rename_i h4
      exact ⟨h1, by simpa using h2, (inR_iff _ _ _).1 h3, h4⟩
    · cases hc
  · contradiction
theorem bh_ex (L : List Int) (ws : List S52) (h : Int) : ∃ b l code, BhF L ws h b l code ∧ b.length ≤ 6 := by
  by_cases hc : bhCode L ws h = 0
  · obtain ⟨h1, h2, h3, h4⟩ := bh_ok hc
    have hs := bo_some ws.length (lfF L ws h.toNat) ws.length [] none (by simp)
    cases e : bo ws.length (lfF L ws h.toNat) ws.length [] none with
    | none => exact absurd e hs
    | some p =>
      obtain ⟨b, l⟩ := p
      have := bo_ok (lfF_ok h1 h2 h.toNat) ws.length [] (σ := none) (n := ws.length) (by simp) (fun b l e => by cases e) b l e
      exact ⟨b, l, 0, ⟨hc.symm, fun h => absurd rfl h, fun _ => e⟩, by omega⟩
  · exact ⟨[], 0, _, ⟨rfl, fun _ => ⟨rfl, rfl⟩, fun h => absurd h hc⟩, by simp⟩
set_option maxHeartbeats 8000000 in
set_option maxRecDepth 100000 in
theorem bestOrder_calls (L : List Int) (hL : L.length = 72) (hd : dayOk L = true) (ws : List S52) (hws : ∀ x ∈ ws, washOk x.f0 x.f1 = true) (h : Nat) (hh : h ≤ 24) (n cw : Nat) (hn : n = ws.length) (hn6 : n ≤ 6) (A : Option Addr) (gD gli gfr : Nat) (b : List Int) (l : Int) (hb : bo n (lfF L ws h) n [] none = some (b, l)) (w : World) (hD : Blk w gD 33 (nums .i8 L)) (hli : Blk w gli 35 [.slice A n cw]) (hfr : Blk w gfr 2 [.int .i64 (h : Int)]) (hC : Kd.C k52 w A n ws) :
    Calls Try.prog 22 #[.int .i64 (n : Int), .func (.func 23) #[] #[.pointer (some ⟨gD, 0, none⟩), .pointer (some ⟨gli, 0, none⟩), .pointer (some ⟨gfr, 0, none⟩)]] w fun e w' => ∃ v, e = .returned (.tuple #[v, .int .i64 l]) ∧ Ir w' w.heap.size v b ∧ Below w.heap.size w w' := by
  have HCH := Aside0.mk (fun W hI hgb hgl hB hBw hH hF => choose_calls L hL hd ws hws h hh n cw hn hn6 A gD gli gfr w.heap.size (w.heap.size + 1) (w.heap.size + 1 + 1) (w.heap.size + 1 + 1 + 1) (w.heap.size + 1 + 1 + 1 + 1) w.heap.size (by omega) n [] none (w.heap.size + 1 + 1 + 1 + 1) (.slice none 0 0) W (by simp) hI (fun x hx => by cases hx) hgb hgl hB hBw hH (fun b l e => by cases e) hF)
  clear hn hL hd hws
  go_enter Try.func22, Try.ntmps22
  go_wp2_with fail
  have hs5 : (((((w.alloc (.cells #[.int .i64 (n : Int)] 3)).alloc (.cells #[(.func (.func 23) #[] #[.pointer (some ⟨gD, 0, none⟩), .pointer (some ⟨gli, 0, none⟩), .pointer (some ⟨gfr, 0, none⟩)])] 60)).alloc (.cells #[.slice none 0 0] 28)).alloc (.cells #[.int .i64 (-1)] 2)).alloc (.cells #[(.func (.func 38) #[] #[.pointer (some ⟨w.heap.size, 0, none⟩), .pointer (some ⟨w.heap.size + 1, 0, none⟩), .pointer (some ⟨w.heap.size + 1 + 1 + 1, 0, none⟩), .pointer (some ⟨w.heap.size + 1 + 1, 0, none⟩), .pointer (some ⟨w.heap.size + 1 + 1 + 1 + 1, 0, none⟩)])] 71)).heap.size = w.heap.size + 1 + 1 + 1 + 1 + 1 := by simp
  have q1 : Blk (((((w.alloc (.cells #[.int .i64 (n : Int)] 3)).alloc (.cells #[(.func (.func 23) #[] #[.pointer (some ⟨gD, 0, none⟩), .pointer (some ⟨gli, 0, none⟩), .pointer (some ⟨gfr, 0, none⟩)])] 60)).alloc (.cells #[.slice none 0 0] 28)).alloc (.cells #[.int .i64 (-1)] 2)).alloc (.cells #[(.func (.func 38) #[] #[.pointer (some ⟨w.heap.size, 0, none⟩), .pointer (some ⟨w.heap.size + 1, 0, none⟩), .pointer (some ⟨w.heap.size + 1 + 1 + 1, 0, none⟩), .pointer (some ⟨w.heap.size + 1 + 1, 0, none⟩), .pointer (some ⟨w.heap.size + 1 + 1 + 1 + 1, 0, none⟩)])] 71)) w.heap.size 3 [.int .i64 (n : Int)] := ((((Blk.new w _ [.int .i64 (n : Int)]).alloc _).alloc _).alloc _).alloc _
  have q2 : Blk (((((w.alloc (.cells #[.int .i64 (n : Int)] 3)).alloc (.cells #[(.func (.func 23) #[] #[.pointer (some ⟨gD, 0, none⟩), .pointer (some ⟨gli, 0, none⟩), .pointer (some ⟨gfr, 0, none⟩)])] 60)).alloc (.cells #[.slice none 0 0] 28)).alloc (.cells #[.int .i64 (-1)] 2)).alloc (.cells #[(.func (.func 38) #[] #[.pointer (some ⟨w.heap.size, 0, none⟩), .pointer (some ⟨w.heap.size + 1, 0, none⟩), .pointer (some ⟨w.heap.size + 1 + 1 + 1, 0, none⟩), .pointer (some ⟨w.heap.size + 1 + 1, 0, none⟩), .pointer (some ⟨w.heap.size + 1 + 1 + 1 + 1, 0, none⟩)])] 71)) (w.heap.size + 1) 60 [(.func (.func 23) #[] #[.pointer (some ⟨gD, 0, none⟩), .pointer (some ⟨gli, 0, none⟩), .pointer (some ⟨gfr, 0, none⟩)])] := (((Blk.at_ (by simp) rfl).alloc _).alloc _).alloc _
  have q3 : Blk (((((w.alloc (.cells #[.int .i64 (n : Int)] 3)).alloc (.cells #[(.func (.func 23) #[] #[.pointer (some ⟨gD, 0, none⟩), .pointer (some ⟨gli, 0, none⟩), .pointer (some ⟨gfr, 0, none⟩)])] 60)).alloc (.cells #[.slice none 0 0] 28)).alloc (.cells #[.int .i64 (-1)] 2)).alloc (.cells #[(.func (.func 38) #[] #[.pointer (some ⟨w.heap.size, 0, none⟩), .pointer (some ⟨w.heap.size + 1, 0, none⟩), .pointer (some ⟨w.heap.size + 1 + 1 + 1, 0, none⟩), .pointer (some ⟨w.heap.size + 1 + 1, 0, none⟩), .pointer (some ⟨w.heap.size + 1 + 1 + 1 + 1, 0, none⟩)])] 71)) (w.heap.size + 1 + 1) 28 [.slice none 0 0] := ((Blk.at_ (by simp) rfl).alloc _).alloc _
  have q4 : Blk (((((w.alloc (.cells #[.int .i64 (n : Int)] 3)).alloc (.cells #[(.func (.func 23) #[] #[.pointer (some ⟨gD, 0, none⟩), .pointer (some ⟨gli, 0, none⟩), .pointer (some ⟨gfr, 0, none⟩)])] 60)).alloc (.cells #[.slice none 0 0] 28)).alloc (.cells #[.int .i64 (-1)] 2)).alloc (.cells #[(.func (.func 38) #[] #[.pointer (some ⟨w.heap.size, 0, none⟩), .pointer (some ⟨w.heap.size + 1, 0, none⟩), .pointer (some ⟨w.heap.size + 1 + 1 + 1, 0, none⟩), .pointer (some ⟨w.heap.size + 1 + 1, 0, none⟩), .pointer (some ⟨w.heap.size + 1 + 1 + 1 + 1, 0, none⟩)])] 71)) (w.heap.size + 1 + 1 + 1) 2 [.int .i64 (-1)] := (Blk.at_ (by simp) rfl).alloc _
  have q5 : Blk (((((w.alloc (.cells #[.int .i64 (n : Int)] 3)).alloc (.cells #[(.func (.func 23) #[] #[.pointer (some ⟨gD, 0, none⟩), .pointer (some ⟨gli, 0, none⟩), .pointer (some ⟨gfr, 0, none⟩)])] 60)).alloc (.cells #[.slice none 0 0] 28)).alloc (.cells #[.int .i64 (-1)] 2)).alloc (.cells #[(.func (.func 38) #[] #[.pointer (some ⟨w.heap.size, 0, none⟩), .pointer (some ⟨w.heap.size + 1, 0, none⟩), .pointer (some ⟨w.heap.size + 1 + 1 + 1, 0, none⟩), .pointer (some ⟨w.heap.size + 1 + 1, 0, none⟩), .pointer (some ⟨w.heap.size + 1 + 1 + 1 + 1, 0, none⟩)])] 71)) (w.heap.size + 1 + 1 + 1 + 1) 71 [(.func (.func 38) #[] #[.pointer (some ⟨w.heap.size, 0, none⟩), .pointer (some ⟨w.heap.size + 1, 0, none⟩), .pointer (some ⟨w.heap.size + 1 + 1 + 1, 0, none⟩), .pointer (some ⟨w.heap.size + 1 + 1, 0, none⟩), .pointer (some ⟨w.heap.size + 1 + 1 + 1 + 1, 0, none⟩)])] := Blk.at_ (by simp) rfl
  have q6 : Below w.heap.size w (((((w.alloc (.cells #[.int .i64 (n : Int)] 3)).alloc (.cells #[(.func (.func 23) #[] #[.pointer (some ⟨gD, 0, none⟩), .pointer (some ⟨gli, 0, none⟩), .pointer (some ⟨gfr, 0, none⟩)])] 60)).alloc (.cells #[.slice none 0 0] 28)).alloc (.cells #[.int .i64 (-1)] 2)).alloc (.cells #[(.func (.func 38) #[] #[.pointer (some ⟨w.heap.size, 0, none⟩), .pointer (some ⟨w.heap.size + 1, 0, none⟩), .pointer (some ⟨w.heap.size + 1 + 1 + 1, 0, none⟩), .pointer (some ⟨w.heap.size + 1 + 1, 0, none⟩), .pointer (some ⟨w.heap.size + 1 + 1 + 1 + 1, 0, none⟩)])] 71)) := below_alloc (below_alloc (below_alloc (below_alloc (below_alloc (Below.refl _ _) _) _) _) _) _
  generalize (((((w.alloc (.cells #[.int .i64 (n : Int)] 3)).alloc (.cells #[(.func (.func 23) #[] #[.pointer (some ⟨gD, 0, none⟩), .pointer (some ⟨gli, 0, none⟩), .pointer (some ⟨gfr, 0, none⟩)])] 60)).alloc (.cells #[.slice none 0 0] 28)).alloc (.cells #[.int .i64 (-1)] 2)).alloc (.cells #[(.func (.func 38) #[] #[.pointer (some ⟨w.heap.size, 0, none⟩), .pointer (some ⟨w.heap.size + 1, 0, none⟩), .pointer (some ⟨w.heap.size + 1 + 1 + 1, 0, none⟩), .pointer (some ⟨w.heap.size + 1 + 1, 0, none⟩), .pointer (some ⟨w.heap.size + 1 + 1 + 1 + 1, 0, none⟩)])] 71)) = W5 at q1 q2 q3 q4 q5 q6 hs5 ⊢
  have dD := hD.lt
  have dl := hli.lt
  have df := hfr.lt
  have HFX : Fx L ws A n cw h gD gli gfr w.heap.size (w.heap.size + 1) (w.heap.size + 1 + 1) (w.heap.size + 1 + 1 + 1) (w.heap.size + 1 + 1 + 1 + 1) W5 :=
    ⟨hD.below q6, hli.below q6, hfr.below q6, q1, q2, q5, Kd.C_kept_came (Kd.heap_iso _ (Kd.heap_pair (Kd.heap_int _) (Kd.heap_int _))) hC q6 (fun k hk => by omega), fun g hg => by omega⟩
  refine (HCH.out W5 (Ir.of_row (ok := fun _ => True) (Kd.R_nil _ _ _ _ _)) (by omega) (by omega) (by omega) (by omega) ⟨_, _, q3, q4, .inl ⟨rfl, rfl, rfl⟩⟩ HFX).mono ?_
  rintro e w6 ⟨rfl, hH, hK⟩
  rw [hb] at hH
  obtain ⟨v, l', b1, b2, hM⟩ := hH
  obtain ⟨rfl, hI⟩ : l' = l ∧ Ir w6 w.heap.size v b := by
    rcases hM with ⟨hM, _⟩ | ⟨b', hM, hI, _⟩
    · cases hM
    · injection hM with hM
      injection hM with h1 h2
      subst h1 h2
      exact ⟨rfl, hI⟩
  have c1 := b1.cell 0 (v := v) rfl
  have c2 := b2.cell 0 (v := .int .i64 l') rfl
  have HII := Aside0.mk hI
  have HBW : Aside0 (Below w.heap.size w w6) := ⟨q6.trans (hK.to_below (fun k hk => by omega) (by omega))⟩
  clear hM hI hK HFX q1 q2 q3 q4 q5 b1 b2
  go_wp2_with fail
  refine seq_all (by kernel_rfl) (by kernel_rfl) (fun w7 hw7 => ?_)
  have HI7 : Aside0 (Ir w7 w.heap.size v b) := ⟨by rw [hw7]; exact HII.out.drew⟩
  have HB7 : Aside0 (Below w.heap.size w w7) := ⟨by rw [hw7]; exact below_drew HBW.out⟩
  replace c1 : w7.cell? ⟨w.heap.size + 1 + 1, 0, none⟩ = some v := by rw [hw7]; exact c1
  replace c2 : w7.cell? ⟨w.heap.size + 1 + 1 + 1, 0, none⟩ = some (.int .i64 l') := by rw [hw7]; exact c2
  clear hw7 HII HBW
  repeat still_step
  try refine wpStill_nil ?_
  go_wp2
  go_ret2
  exact ⟨v, rfl, HI7.out, HB7.out⟩
end Go.Proofs.Ytdepnieanfjhjaa.X
