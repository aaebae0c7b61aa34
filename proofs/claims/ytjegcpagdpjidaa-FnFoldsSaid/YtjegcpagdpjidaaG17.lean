/- Contracts of functions, and plain facts, of more texts than one: put together, since a claim takes 60 files. -/
import Derived.Test.YtjegcpagdpjidaaG9
import Derived.Test.YtjegcpagdpjidaaG12
import Derived.Test.YtjegcpagdpjidaaX16
import Derived.Test.YtjegcpagdpjidaaX17
import Derived.Test.YtjegcpagdpjidaaX18
import Derived.Test.YtjegcpagdpjidaaX19
import Derived.Test.YtjegcpagdpjidaaG0
import Derived.Test.YtjegcpagdpjidaaX7
/- what stood in the text Dr -/
set_option linter.unusedVariables false
set_option linter.unusedSimpArgs false
namespace Go.Proofs.Ytjegcpagdpjidaa.X
open Go.RowKit Go.Proofs.YtjegcpagdpjidaaW.PrintWords Go.Proofs.YtjegcpagdpjidaaW.PrintLast Go.Proofs.YtjegcpagdpjidaaW.PrintMore
attribute [local go_sem] max2_int min2_int max_two min_two max_three min_three max_four min_four
/-- bytes -/
def BY (l : List Int) : Prop := (∀ x ∈ l, 0 ≤ x ∧ x ≤ 255) ∧ l.length ≤ 3000
theorem BY.of {l : List Int} (h : ∀ x ∈ l, (Lit.int .u8 x).wf = true) (hl : l.length ≤ 3000) : BY l := ⟨fun x hx => by
  have h1 := h x hx
  have hmin : IntKind.u8.min = 0 := rfl
  have hmax : IntKind.u8.max = 255 := rfl
  simp only [Lit.wf, Bool.and_eq_true, decide_eq_true_eq] at h1
  omega, hl⟩
theorem BY.rd {l : List Int} (h : BY l) {i : Int} (h0 : 0 ≤ i) (h1 : i < l.length) : 0 ≤ rd l i ∧ rd l i ≤ 255 := by
  obtain ⟨n, rfl⟩ : ∃ n : Nat, i = n := ⟨i.toNat, by omega⟩
  rw [rd_eq (by omega)]
  exact h.1 _ (List.getElem_mem _)
theorem mask_255 (E : Int) : 0 ≤ wrap64 (Go.bits .and .u64 (IntKind.u64.wrap E / 1099511627776) 255) ∧ wrap64 (Go.bits .and .u64 (IntKind.u64.wrap E / 1099511627776) 255) ≤ 255 := by
  have h0 : 0 ≤ IntKind.u64.wrap E ∧ IntKind.u64.wrap E ≤ 18446744073709551615 := by
    have : IntKind.u64.wrap E = E % 18446744073709551616 := by simp [IntKind.wrap, IntKind.signed, IntKind.bits]
    omega
  generalize IntKind.u64.wrap E = X at *
  obtain ⟨n, hn⟩ : ∃ n : Nat, X / 1099511627776 = n := ⟨(X / 1099511627776).toNat, by omega⟩
  rw [hn]
  have h := bits_and_u64_nat n 255 (by omega) (by omega)
  have h2 : n &&& 255 ≤ 255 := Nat.and_le_right
  rw [show (255 : Int) = ((255 : Nat) : Int) from rfl, h]
  generalize n &&& 255 = m at *
  unfold wrap64
  omega
theorem next_ex {l : List Int} (hl : BY l) {at_ seed : Int} (h0 : 0 ≤ at_) (h1 : at_ ≤ 4294967296) : ∃ r s', spec_l00Src_next.f l at_ seed = some (r, at_ + 1, s') ∧ 0 ≤ r ∧ r ≤ 255 := by
  have hw : wrap64 (at_ + 1) = at_ + 1 := by unfold wrap64; omega
  unfold spec_l00Src_next.f
  rw [hw]
  by_cases c : at_ < (l.length : Int)
  · have hr := hl.rd h0 c
    have hwr : wrap64 (rd l at_) = rd l at_ := by unfold wrap64; omega
    rw [if_pos c, if_pos h0, hwr]
    by_cases c2 : at_ + 1 ≤ (l.length : Int)
    · rw [if_pos c2]; exact ⟨_, _, rfl, hr⟩
    · rw [if_neg c2]; exact ⟨_, _, rfl, mask_255 _⟩
  · rw [if_neg c]
    by_cases c2 : at_ + 1 ≤ (l.length : Int)
    · rw [if_pos c2]; exact ⟨_, _, rfl, by omega, by omega⟩
    · rw [if_neg c2]; exact ⟨_, _, rfl, mask_255 _⟩
theorem pick_ex {l : List Int} (hl : BY l) {at_ seed n : Int} (h0 : 0 ≤ at_) (h1 : at_ ≤ 4294967296) (hn : 2 ≤ n) (hn2 : n ≤ 200) : ∃ r s', spec_l00Src_pick.f l at_ seed n = some (r, at_ + 1, s') ∧ 0 ≤ r ∧ r < n := by
  obtain ⟨r, s', e, hr0, hr1⟩ := next_ex (seed := seed) hl h0 h1
  unfold spec_l00Src_pick.f
  rw [if_neg (by omega), e, Option.bind_some, if_neg (by omega), if_neg (by omega)]
  refine ⟨_, _, rfl, ?_, ?_⟩
  · exact Int.tmod_nonneg _ hr0
  · exact Int.tmod_lt_of_pos _ (by omega)
theorem among_ex {l L : List Int} (hl : BY l) {at_ seed : Int} (h0 : 0 ≤ at_) (h1 : at_ ≤ 4294967296) (hn : 2 ≤ L.length) (hn2 : L.length ≤ 200) : ∃ r s', spec_l00Src_among.f l at_ seed L = some (r, at_ + 1, s') ∧ r ∈ L := by
  obtain ⟨r, s', e, hr0, hr1⟩ := pick_ex (seed := seed) (n := L.length) hl h0 h1 (by omega) (by omega)
  unfold spec_l00Src_among.f
  rw [e, Option.bind_some, if_pos hr0, if_pos hr1]
  refine ⟨_, _, rfl, ?_⟩
  obtain ⟨n, rfl⟩ : ∃ n : Nat, r = n := ⟨r.toNat, by omega⟩
  simp only
  rw [rd_eq (by omega)]
  exact List.getElem_mem _
theorem sheet_ex {l : List Int} (hl : BY l) : ∃ x : S26, spec_A2Sheet.f l = some (x.f0, x.f1, x.f2) ∧ ShS x ∧ x.f0 ≤ 72 ∧ x.f1 ≤ 72 ∧ x.f2 ≤ 6 := by
  obtain ⟨a, s1, e1, m1⟩ := among_ex (L := [6, 12, 18, 24, 36, 48, 72, 30]) (seed := 0) (at_ := 0) hl (by omega) (by omega) (by decide) (by decide)
  obtain ⟨b, s2, e2, m2⟩ := among_ex (L := [6, 12, 18, 24, 36, 48, 72, 20, 35]) (seed := s1) (at_ := 1) hl (by omega) (by omega) (by decide) (by decide)
  obtain ⟨c, s3, e3, m3⟩ := among_ex (L := [1, 1, 1, 2, 3, 6]) (seed := s2) (at_ := 2) hl (by omega) (by omega) (by decide) (by decide)
  have ka : 6 ≤ a ∧ a ≤ 72 := by simp at m1; omega
  have kb : 6 ≤ b ∧ b ≤ 72 := by simp at m2; omega
  have kc : 1 ≤ c ∧ c ≤ 6 := by simp at m3; omega
  refine ⟨⟨a, b, c⟩, ?_, ⟨by show 1 ≤ a; omega, by show a ≤ 1296; omega, by show 1 ≤ b; omega, by show b ≤ 1296; omega, by show 1 ≤ c; omega, by show c ≤ 144; omega⟩, ka.2, kb.2, kc.2⟩
  unfold spec_A2Sheet.f spec_l00From.f spec_l04Drawn.f
  simp only [Option.bind_some]
  rw [e1, Option.bind_some]
  simp only
  rw [show (0 : Int) + 1 = 1 from rfl, e2, Option.bind_some]
  simp only
  rw [show (1 : Int) + 1 = 2 from rfl, e3, Option.bind_some, w16 (by omega) (by omega), w16 (by omega) (by omega), w16 (by omega) (by omega)]
  rfl
/-- folds that can be made of x, up to y -/
inductive Path : S26 → List Int → S26 → Prop
  | nil (x) : Path x [] x
  | cons {x y z f fs} : mkS x f = some y → 0 ≤ f ∧ f ≤ 3 → Path y fs z → Path x (f :: fs) z
theorem Path.snoc {x y z : S26} {f : Int} {fs : List Int} (h : Path x fs y) (hm : mkS y f = some z) (hf : 0 ≤ f ∧ f ≤ 3) : Path x (fs ++ [f]) z := by
  induction h with
  | nil x => exact .cons hm hf (.nil _)
  | cons h1 h2 h3 ih => exact .cons h1 h2 (ih hm)
theorem folds_loop {l : List Int} (hl : BY l) {x : S26} : ∀ (d : Nat) (out : List Int) (y : S26) (at_ seed : Int), ShS y → Path x out y → out.length + d ≤ 100 → 0 ≤ at_ → at_ + d ≤ 100 →
    ∃ L z, spec_A2Folds.l0 (d + 2) out (d : Int) y.f0 y.f1 y.f2 l at_ seed = some L ∧ Path x L z ∧ ShS z ∧ L.length ≤ out.length + d := by
  intro d
  induction d with
  | zero =>
    intro out y at_ seed hy hp hlen h0 h1
    refine ⟨out, y, ?_, hp, hy, by omega⟩
    rw [spec_A2Folds.l0, if_neg (by omega)]
  | succ d ih =>
    intro out y at_ seed hy hp hlen h0 h1
    obtain ⟨f, s', e, hf0, hf1⟩ := pick_ex (seed := seed) (n := 4) hl h0 (by omega) (by omega) (by omega)
    have hw : wrap64 (((d + 1 : Nat) : Int) - 1) = (d : Int) := by unfold wrap64; omega
    rw [show d + 1 + 2 = (d + 2) + 1 from rfl, spec_A2Folds.l0, if_pos (by omega), e, Option.bind_some]
    simp only
    rw [l04Made_k hy f (by omega), Option.bind_some, hw]
    by_cases hc : (madeF y.f0 y.f1 y.f2 f).2.2.2 = 0
    · rw [if_pos hc, if_pos (by omega)]
      have hm : mkS y f = some ⟨(madeF y.f0 y.f1 y.f2 f).1, (madeF y.f0 y.f1 y.f2 f).2.1, (madeF y.f0 y.f1 y.f2 f).2.2.1⟩ := if_pos hc
      obtain ⟨L, z, e2, hp2, hz, hl2⟩ := ih (out ++ [f]) _ (at_ + 1) s' (mkS_sh hy hm) (hp.snoc hm ⟨hf0, by omega⟩) (by simp; omega) (by omega) (by omega)
      exact ⟨L, z, e2, hp2, hz, by simp at hl2; omega⟩
    · rw [if_neg hc]
      obtain ⟨L, z, e2, hp2, hz, hl2⟩ := ih out y (at_ + 1) s' hy hp (by omega) (by omega) (by omega)
      exact ⟨L, z, e2, hp2, hz, by omega⟩
theorem folds_ex {l : List Int} (hl : BY l) {x : S26} (hx : ShS x) : ∃ L y k, spec_A2Folds.f k l x.f0 x.f1 x.f2 = some L ∧ Path x L y ∧ ShS y ∧ L.length ≤ 4 := by
  obtain ⟨n, s', e, hn0, hn1⟩ := pick_ex (seed := 0) (at_ := 0) (n := 5) hl (by omega) (by omega) (by omega) (by omega)
  obtain ⟨d, rfl⟩ : ∃ d : Nat, n = d := ⟨n.toNat, by omega⟩
  obtain ⟨L, z, e2, hp2, hz, hl2⟩ := folds_loop hl d [] x 1 s' hx (.nil x) (by simp; omega) (by omega) (by omega)
  refine ⟨L, z, d + 2, ?_, hp2, hz, by simp at hl2; omega⟩
  unfold spec_A2Folds.f spec_l00From.f
  simp only [Option.bind_some]
  rw [e, Option.bind_some]
  exact e2
theorem Path.all {x y : S26} {L : List Int} (h : Path x L y) : ∀ f ∈ L, 0 ≤ f ∧ f ≤ 3 := by
  induction h with
  | nil x => simp
  | cons h1 h2 h3 ih =>
    intro f hf
    rcases List.mem_cons.1 hf with rfl | hf
    · exact h2
    · exact ih f hf
theorem mkS_eq {x y : S26} {f : Int} (h : mkS x f = some y) : madeF x.f0 x.f1 x.f2 f = (y.f0, y.f1, y.f2, 0) := by
  unfold mkS at h
  split at h
  · rename_i h0
    have h1 := Option.some.inj h
    subst h1
    rw [← h0]
  · cases h
theorem Path.allFold {x y : S26} {L : List Int} (h : Path x L y) : allFoldF x.f0 x.f1 x.f2 L = (y.f0, y.f1, y.f2, 0) := by
  induction h with
  | nil x => rfl
  | cons h1 h2 h3 ih => rw [allFoldF, mkS_eq h1, if_pos rfl]; exact ih
end Go.Proofs.Ytjegcpagdpjidaa.X

/- what stood in the text X20 -/
namespace Go.Proofs.Ytjegcpagdpjidaa.X
open Go.RowKit Go.Proofs.YtjegcpagdpjidaaW.PrintWords Go.Proofs.YtjegcpagdpjidaaW.PrintLast Go.Proofs.YtjegcpagdpjidaaW.PrintMore
attribute [local go_sem] max2_int min2_int max_two min_two max_three min_three max_four min_four   -- for this text's walks alone
set_option linter.unusedVariables false
set_option linter.unusedSimpArgs false

/-! ### impl_FoldsText: function 20 -/
mutual
def impl_FoldsText.j0 : Nat → List Int → Bool → Option (ByteArray)
  | 0, _, _ => none
  | k + 1, x0, x13 => if x13 = true then (some (⟨#[]⟩ : ByteArray)) else (impl_FoldsText.l0 k (([] : List Int)) x0 (x0.length : Int) 0)
def impl_FoldsText.l0 : Nat → List Int → List Int → Int → Int → Option (ByteArray)
  | 0, _, _, _, _ => none
  | k + 1, x3, x15, x16, x17 => if x17 < x16 then (if 0 ≤ x17 then (if x17 < (x15.length : Int) then (if 0 ≤ (rd x15 x17) then (if (rd x15 x17) < 4 then (if x3.length < 140737488355328 then (impl_FoldsText.l0 k (x3 ++ [bt (⟨#[119, 104, 87, 72]⟩ : ByteArray) (rd x15 x17)]) x15 x16 (wrap64 (x17 + 1))) else (none)) else (none)) else (none)) else (none)) else (none)) else (some (strOfNums x3))
end
def impl_FoldsText.f (k : Nat) (l0 : List Int) : Option (ByteArray) := if (l0.length : Int) > 12 then (impl_FoldsText.j0 k l0 true) else ((impl_areWithin.f l0 0 3).bind fun t101 => (impl_FoldsText.j0 k l0 (!t101)))
theorem impl_FoldsText.mono_l : ∀ k, (∀ y0 y1, LeO (impl_FoldsText.j0 k y0 y1) (impl_FoldsText.j0 (k + 1) y0 y1)) ∧ (∀ y0 y1 y2 y3, LeO (impl_FoldsText.l0 k y0 y1 y2 y3) (impl_FoldsText.l0 (k + 1) y0 y1 y2 y3))
  | 0 => ⟨fun _ _ r h => by simp [impl_FoldsText.j0] at h, fun _ _ _ _ r h => by simp [impl_FoldsText.l0] at h⟩
  | k + 1 => by
    obtain ⟨ih0, ih1⟩ := impl_FoldsText.mono_l k
    refine ⟨?_, ?_⟩
    · intro y0 y1
      unfold impl_FoldsText.j0
      repeat' first
      | (with_reducible exact ih0 _ _)
      | (with_reducible exact ih1 _ _ _ _)
      | (with_reducible exact LeO.refl _)
      | (with_reducible exact LeO.none _)
      | (with_reducible refine LeO.ite ?_ ?_)
      | (with_reducible refine LeO.bind ?_ (fun _ => ?_))
      | exact ih0 _ _
      | exact ih1 _ _ _ _
      | exact LeO.none _
      | refine LeO.ite ?_ ?_
      | refine LeO.bind ?_ (fun _ => ?_)
    · intro y0 y1 y2 y3
      unfold impl_FoldsText.l0
      repeat' first
      | (with_reducible exact ih0 _ _)
      | (with_reducible exact ih1 _ _ _ _)
      | (with_reducible exact LeO.refl _)
      | (with_reducible exact LeO.none _)
      | (with_reducible refine LeO.ite ?_ ?_)
      | (with_reducible refine LeO.bind ?_ (fun _ => ?_))
      | exact ih0 _ _
      | exact ih1 _ _ _ _
      | exact LeO.none _
      | refine LeO.ite ?_ ?_
      | refine LeO.bind ?_ (fun _ => ?_)
theorem impl_FoldsText.mono : ∀ a0 k, LeO (impl_FoldsText.f k a0) (impl_FoldsText.f (k + 1) a0) := by
  intro a0 k
  obtain ⟨ih0, ih1⟩ := impl_FoldsText.mono_l k
  unfold impl_FoldsText.f
  repeat' first
      | (with_reducible exact ih0 _ _)
      | (with_reducible exact ih1 _ _ _ _)
      | (with_reducible exact LeO.refl _)
      | (with_reducible exact LeO.none _)
      | (with_reducible refine LeO.ite ?_ ?_)
      | (with_reducible refine LeO.bind ?_ (fun _ => ?_))
      | exact ih0 _ _
      | exact ih1 _ _ _ _
      | exact LeO.none _
      | refine LeO.ite ?_ ?_
      | refine LeO.bind ?_ (fun _ => ?_)
set_option maxHeartbeats 8000000 in
set_option maxRecDepth 100000 in
theorem impl_FoldsText.calls (k : Nat) (A0 : Option Addr) (c0 : Nat) (l0 : List Int) (r : ByteArray) (w : World) (hr0 : Kd.C (Kd.int .i64) w A0 l0.length l0) (hc0 : l0.length ≤ c0) (h : impl_FoldsText.f k l0 = some r) :
    Calls Try.prog 20 #[.slice A0 l0.length c0] w fun e w' => e = .returned (.string r) ∧ Below w.heap.size w w' := by
  have HR0 := Aside0.mk hr0
  have HC0 := Aside0.mk hc0
  clear hr0 hc0
  have HB := Aside0.mk (Below.refl w.heap.size w)
  have H : (if (l0.length : Int) > 12 then (impl_FoldsText.j0 k l0 true) else ((impl_areWithin.f l0 0 3).bind fun t101 => (impl_FoldsText.j0 k l0 (!t101)))) = some r := h
  clear h
  have HC2 := Aside0.mk H
  clear H
  go_enter Try.func20, Try.ntmps20
  go_upto_region 1 with (fail)
  go_cut [13] (fun v13 wc => ∃ (kq : Nat) (x13_1 : Bool), v13 = .bool x13_1 ∧ Aside0 (impl_FoldsText.j0 kq l0 x13_1 = some r) ∧ Aside0 (kq ≤ k) ∧ Aside0 (Below w.heap.size w wc))
  case first =>
    have H := HC2.out
    clear HC2
    by_cases c3 : (l0.length : Int) > 12
    · rw [if_pos c3] at H
      have c3b0 : decide (12 < (l0.length : Int)) = true := decide_eq_true c3
      have c3b1 : decide (12 < l0.length) = true := decide_eq_true (by omega)
      clear c3
      (first | rw [c3b0] | (simp only [i64_w, i32_w]; rw [c3b0]) | skip)
      have H' := Aside0.mk H
      clear H
      go_wp2
      go_meet
      case rel => exact ⟨_, (true), (by first | rfl | (simp; done) | (simp [*]; done)), H', ⟨by first | omega | exact Nat.le_refl _⟩, ⟨by repeat (first | (with_reducible first | exact HB.out | apply below_alloc | apply pw_below_drewN | apply below_drew1) | exact HB.out)⟩⟩
    · rw [if_neg c3] at H
      have c3b0 : decide (12 < (l0.length : Int)) = false := decide_eq_false c3
      have c3b1 : decide (12 < l0.length) = false := decide_eq_false (by omega)
      clear c3
      (first | rw [c3b0] | (simp only [i64_w, i32_w]; rw [c3b0]) | skip)
      replace H := Option.bind_eq_some_iff.mp H
      obtain ⟨t101, A40, H⟩ := H
      replace H : (impl_FoldsText.j0 k l0 (!t101)) = some r := H
      have A4 := Aside0.mk A40
      clear A40
      have H' := Aside0.mk H
      clear H
      go_wp2_with (first | (go_at_call 54; (with_reducible refine (impl_areWithin.calls _ _ l0 0 3 t101 _ ?side1 ?side2 A4.out).mono ?_); (case side1 => repeat (first | exact (Kd.C_below HR0.out HB.out) | (with_reducible refine Kd.C_alloc ?_ _) | (with_reducible refine Kd.C_drewN ?_ _) | (with_reducible refine Kd.C_drew ?_))); (case side2 => exact HC0.out); rintro e w5 ⟨rfl, hb⟩; have n0_ := Aside0.mk (below_step (by repeat (first | (with_reducible first | exact HB.out | apply below_alloc | apply pw_below_drewN | apply below_drew1) | exact HB.out)) hb); clear HB; have HB := n0_; clear n0_; (try clear hb); (try clear hb2); (try clear hk); (try clear hi)))
      go_meet
      case rel => exact ⟨_, (!t101), (by first | rfl | (simp; done) | (simp [*]; done)), H', ⟨by first | omega | exact Nat.le_refl _⟩, ⟨by repeat (first | (with_reducible first | exact HB.out | apply below_alloc | apply pw_below_drewN | apply below_drew1) | exact HB.out)⟩⟩
  case rest =>
    clear HC2
    try clear c2
    try clear p2
    try clear c3
    try clear c3b0
    try clear c3b1
    obtain ⟨kq, x13_1, rfl, HA, HJ1, HB⟩ := hcut
    cases kq with
    | zero => exact absurd HA.out (by simp [impl_FoldsText.j0])
    | succ kj1 =>
      have H := HA.out
      clear HA
      simp only [impl_FoldsText.j0] at H
      by_cases c6 : x13_1 = true
      · subst c6
        have H1 : (some (⟨#[]⟩ : ByteArray)) = some r := by rw [if_pos rfl] at H; exact H
        clear H
        have H := H1
        clear H1
        obtain rfl := Option.some.inj H
        go_wp2
        go_ret
        exact ⟨by first | rfl | (simp [errW_none, errW_some] <;> rfl) | (simp [*, errW_none, errW_some] <;> rfl), by repeat (first | (with_reducible first | exact HB.out | apply below_alloc | apply pw_below_drewN | apply below_drew1) | exact HB.out)⟩
      · replace c6 := Bool.eq_false_iff.mpr c6
        subst c6
        have H1 : (impl_FoldsText.l0 kj1 (([] : List Int)) l0 (l0.length : Int) 0) = some r := by rw [if_neg (show ¬ (false = true) by decide)] at H; exact H
        clear H
        have H := H1
        clear H1
        obtain ⟨y102, hy102⟩ : ∃ y_ : List Int, y_ = (([] : List Int)) := ⟨_, rfl⟩
        replace H : (impl_FoldsText.l0 kj1 y102 l0 (l0.length : Int) 0) = some r := by first | (rw [hy102]; with_reducible exact H) | (have H2_ := (Option.bind_some _ _).symm.trans H; rw [hy102]; with_reducible exact H2_) | (have H2_ := (Option.bind_some _ _).symm.trans H; with_reducible exact H2_) | with_reducible exact H | (rw [hy102]; exact H) | exact H
        have Ny102 := Aside0.mk hy102
        clear hy102
        have H' := Aside0.mk H
        clear H
        go_wp2_with (first | ((with_reducible refine gate_dst (N := 14) rfl ?_); refine Kd.R_lit (Kd.int .u8) _ 5 ?hg (N := 14) ?hd (xs := ([] : List Int)) (inner := []) (ok := fun _ => True) (okp := fun _ => True) ?hr ?hp (fun _ hk => hk) trivial (Below.refl _ _) (Nat.le_refl _) (by simp) ?_; (case hd => rfl); (case hg => rfl); (case hr => first | (go_simp; done) | (go_simp; rfl)); (case hp => exact (Reps.none _ _)); intro v103 w7 ho8 hb hg_ hnew_; clear hg_ hnew_; (first | rw [← Ny102.out] at ho8 | (simp only [Int.reduceToNat] at ho8; rw [← Ny102.out] at ho8)); have n0_ := Aside0.mk (Kd.R_lower ho8 (below_size (by repeat (first | (with_reducible first | exact HB.out | apply below_alloc | apply pw_below_drewN | apply below_drew1) | exact HB.out)))); have n1_ := Aside0.mk (below_step (by repeat (first | (with_reducible first | exact HB.out | apply below_alloc | apply pw_below_drewN | apply below_drew1) | exact HB.out)) hb); clear HB; have HO104 := n0_; have HB := n1_; clear n0_ n1_; clear hb ho8))
        go_loopg [3, 17] kj1 (fun kq v3 v17 w' => ∃ (x3_2 : List Int) (x17_2 : Int), v17 = .int .i64 x17_2 ∧ Aside0 (impl_FoldsText.l0 kq x3_2 l0 (l0.length : Int) x17_2 = some r) ∧ Aside0 (kq ≤ kj1) ∧ Aside0 (Kd.R (Kd.int .u8) 5 w' w.heap.size (fun _ => True) v3 x3_2) ∧ Aside0 (Below w.heap.size w w'))
        case atStart => exact ⟨(y102), (0), (by first | rfl | (simp; done) | (simp [*]; done)), H', ⟨Nat.le_refl _⟩, ⟨by (with_reducible repeat (first | apply Kd.R_alloc | apply Kd.R_drewN | apply Kd.R_drew)); exact HO104.out⟩, ⟨by repeat (first | (with_reducible first | exact HB.out | apply below_alloc | apply pw_below_drewN | apply below_drew1) | exact HB.out)⟩⟩
        case round =>
          clear H'
          try clear c2
          try clear p2
          try clear c3
          try clear c3b0
          try clear c3b1
          try clear c6
          try clear p2
          obtain ⟨x3_2, x17_2, rfl, HA, HK2, HO_3, HB⟩ := hrel
          cases gk with
          | zero => exact absurd HA.out (by simp [impl_FoldsText.l0])
          | succ k2 =>
            have H := HA.out
            clear HA
            simp only [impl_FoldsText.l0] at H
            by_cases c9 : x17_2 < (l0.length : Int)
            · rw [if_pos c9] at H
              have c9b0 : decide (x17_2 < (l0.length : Int)) = true := decide_eq_true c9
              clear c9
              by_cases c10 : 0 ≤ x17_2
              · rw [if_pos c10] at H
                have c10b0 : decide (0 ≤ x17_2) = true := decide_eq_true c10
                clear c10
                by_cases c11 : x17_2 < (l0.length : Int)
                · rw [if_pos c11] at H
                  have c11b0 : decide (x17_2 < (l0.length : Int)) = true := decide_eq_true c11
                  clear c11
                  by_cases c12 : 0 ≤ (rd l0 x17_2)
                  · rw [if_pos c12] at H
                    have c12b0 : decide (0 ≤ (rd l0 x17_2)) = true := decide_eq_true c12
                    clear c12
                    by_cases c13 : (rd l0 x17_2) < 4
                    · rw [if_pos c13] at H
                      have c13b0 : decide ((rd l0 x17_2) < 4) = true := decide_eq_true c13
                      clear c13
                      by_cases c15 : x3_2.length < 140737488355328
                      · rw [if_pos c15] at H
                        have LMc15 := Aside0.mk c15
                        clear c15
                        obtain ⟨y106, hy106⟩ : ∃ y_ : List Int, y_ = (x3_2 ++ [bt (⟨#[119, 104, 87, 72]⟩ : ByteArray) (rd l0 x17_2)]) := ⟨_, rfl⟩
                        replace H : (impl_FoldsText.l0 k2 y106 l0 (l0.length : Int) (wrap64 (x17_2 + 1))) = some r := by first | (rw [hy106]; with_reducible exact H) | (have H2_ := (Option.bind_some _ _).symm.trans H; rw [hy106]; with_reducible exact H2_) | (have H2_ := (Option.bind_some _ _).symm.trans H; with_reducible exact H2_) | with_reducible exact H | (rw [hy106]; exact H) | exact H
                        have Ny106 := Aside0.mk hy106
                        clear hy106
                        have H' := Aside0.mk H
                        clear H
                        have p105 : 0 ≤ (x17_2 : Int) := of_decide_eq_true (by first | (with_reducible assumption) | assumption)
                        have q105 : x17_2 < (l0.length : Int) := of_decide_eq_true (by first | (with_reducible assumption) | assumption)
                        obtain ⟨ad105, e105, hx105_0⟩ := Kd.at_int HR0.out x17_2 p105 q105
                        cases e105
                        replace hx105_0 := (HB.out.cell (World.block_lt_of_cell? w _ hx105_0)).trans hx105_0
                        replace p105 := eq_true p105
                        replace q105 := eq_true q105
                        have p14 : 0 ≤ ((rd l0 x17_2) : Int) := of_decide_eq_true (by first | (with_reducible assumption) | assumption)
                        have q14 : (rd l0 x17_2) < (4 : Int) := of_decide_eq_true (by first | (with_reducible assumption) | assumption)
                        have hx14 := bt_at (⟨#[119, 104, 87, 72]⟩ : ByteArray) (rd l0 x17_2)
                        replace p14 := eq_true p14
                        replace q14 := eq_true q14
                        go_wp2_with (first | ((with_reducible refine gate_builtin (b := .append) (xs := #[.tmp 21, .tmp 24]) rfl ?_); at_builtin; refine Kd.R_append (Kd.int .u8) (w0 := w) w.heap.size rfl (.tmp 21) (.tmp 24) 37 5 (.int .u8 0) 1 rfl Try.underlying37 info5 rfl (by decide) (by omega) u3 x3_2 (bt (⟨#[119, 104, 87, 72]⟩ : ByteArray) (rd l0 x17_2)) [.int .u8 (bt (⟨#[119, 104, 87, 72]⟩ : ByteArray) (rd l0 x17_2))] (fun _ => True) (fun _ => False) rfl rfl ?aP (fun _ hk => hk.elim) ?aF ?aO ?aB ?aS ?aL ?_; (case aP => exact rfl); (case aB => exact (by repeat (first | (with_reducible first | exact HB.out | apply below_alloc | apply pw_below_drewN | apply below_drew1) | exact HB.out))); (case aF => exact (fun _ _ => trivial)); (case aO => exact (by (with_reducible repeat (first | apply Kd.R_alloc | apply Kd.R_drewN | apply Kd.R_drew)); exact HO_3.out)); (case aS => exact (below_size (by repeat (first | (with_reducible first | exact HB.out | apply below_alloc | apply pw_below_drewN | apply below_drew1) | exact HB.out)))); (case aL => have := LMc15.out; omega); intro v107 w16 ho hb hg hat; rw [← Ny106.out] at ho; have n0_ := Aside0.mk (hb); have n1_ := Aside0.mk (ho); clear HB; clear HO_3; have HB := n0_; have HO108 := n1_; clear n0_ n1_; clear ho hb hg hat))
                        go_roundg k2
                        case measure => have := HJ1.out; have := HK2.out; omega
                        case rel => exact ⟨(y106), (wrap64 (x17_2 + 1)), (by first | rfl | (simp; done) | (simp [*]; done)), H', ⟨by have := HJ1.out; have := HK2.out; omega⟩, ⟨by (with_reducible repeat (first | apply Kd.R_alloc | apply Kd.R_drewN | apply Kd.R_drew)); exact HO108.out⟩, ⟨by repeat (first | (with_reducible first | exact HB.out | apply below_alloc | apply pw_below_drewN | apply below_drew1) | exact HB.out)⟩⟩
                      · rw [if_neg c15] at H
                        exact absurd H (by simp)
                    · rw [if_neg c13] at H
                      exact absurd H (by simp)
                  · rw [if_neg c12] at H
                    exact absurd H (by simp)
                · rw [if_neg c11] at H
                  exact absurd H (by simp)
              · rw [if_neg c10] at H
                exact absurd H (by simp)
            · rw [if_neg c9] at H
              have c9b0 : decide (x17_2 < (l0.length : Int)) = false := decide_eq_false c9
              clear c9
              obtain rfl := Option.some.inj H
              have hcv17 := own_string (P := Try.prog) Try.underlying37 Try.underlying5 Try.underlying9 (Kd.own_of_R HO_3.out)
              go_wp2
              go_ret
              exact ⟨by first | rfl | (simp [errW_none, errW_some] <;> rfl) | (simp [*, errW_none, errW_some] <;> rfl), by repeat (first | (with_reducible first | exact HB.out | apply below_alloc | apply pw_below_drewN | apply below_drew1) | exact HB.out)⟩

end Go.Proofs.Ytjegcpagdpjidaa.X

/- what stood in the text F4 -/
set_option linter.unusedVariables false
set_option linter.unusedSimpArgs false
namespace Go.Proofs.Ytjegcpagdpjidaa.X
open Go.RowKit Go.Proofs.YtjegcpagdpjidaaW.PrintWords Go.Proofs.YtjegcpagdpjidaaW.PrintLast Go.Proofs.YtjegcpagdpjidaaW.PrintMore
attribute [local go_sem] max2_int min2_int max_two min_two max_three min_three max_four min_four
/-- all of them are folds -/
def allF (l : List Int) : Bool := l.all fun x => decide (0 ≤ x ∧ x ≤ 3)
/-- the letters of folds -/
def SG : ByteArray := ⟨#[119, 104, 87, 72]⟩
def letF (l : List Int) : List Int := l.map fun f => bt SG f
theorem strOfNums_append (a b : List Int) : strOfNums (a ++ b) = strOfNums a ++ strOfNums b := by
  unfold strOfNums
  simp [ByteArray.ext_iff]
theorem allF_get {l : List Int} (h : allF l = true) {i : Nat} (hi : i < l.length) : 0 ≤ l[i] ∧ l[i] ≤ 3 := by
  unfold allF at h
  rw [List.all_eq_true] at h
  simpa using h l[i] (List.getElem_mem hi)
theorem foldsText_loop (l : List Int) (hl : l.length ≤ 12) (ha : allF l = true) : ∀ (d k i : Nat), i + d = l.length → d < k → impl_FoldsText.l0 k (letF (l.take i)) l (l.length : Int) i = some (strOfNums (letF l)) := by
  intro d
  induction d with
  | zero =>
    intro k i hi hk
    obtain ⟨k, rfl⟩ : ∃ m, k = m + 1 := ⟨k - 1, by omega⟩
    simp only [impl_FoldsText.l0]
    rw [if_neg (by omega), List.take_of_length_le (by omega)]
  | succ d ih =>
    intro k i hi hk
    obtain ⟨k, rfl⟩ : ∃ m, k = m + 1 := ⟨k - 1, by omega⟩
    simp only [impl_FoldsText.l0]
    obtain ⟨h0, h3⟩ := allF_get ha (show i < l.length by omega)
    have hs : l.take (i + 1) = l.take i ++ [l[i]] := by rw [List.take_succ_eq_append_getElem (by omega)]
    have h2 := ih k (i + 1) (by omega) (by omega)
    rw [if_pos (by omega), if_pos (by omega), if_pos (by omega), rd_eq (by omega), if_pos (by omega), if_pos (by omega), if_pos (by simp [letF]; omega), w64s (by omega)]
    rw [hs] at h2
    unfold letF at h2 ⊢
    rw [List.map_append] at h2
    exact h2
/-- both texts -/
def textF (l : List Int) : ByteArray := if (allF l && decide (l.length ≤ 12)) = true then strOfNums (letF l) else ⟨#[]⟩
theorem implFoldsText_ev {l : List Int} (hl : l.length ≤ 4294967296) : Ev (fun k => impl_FoldsText.f k l) (textF l) := by
  refine ⟨l.length + 3, fun k hk => ?_⟩
  obtain ⟨k, rfl⟩ : ∃ m, k = m + 1 := ⟨k - 1, by omega⟩
  show impl_FoldsText.f (k + 1) l = _
  unfold impl_FoldsText.f textF
  by_cases h : l.length ≤ 12
  · rw [if_neg (by omega), areWithin_f, Option.bind_some]
    simp only [impl_FoldsText.j0]
    by_cases ha : allF l = true
    · have ha' := ha
      unfold allF at ha'
      rw [ha', if_neg (by simp), if_pos (by simp [ha, h])]
      simpa [letF] using foldsText_loop l h ha l.length k 0 (by omega) (by omega)
    · have ha' := ha
      unfold allF at ha'
      simp only [Bool.not_eq_true] at ha'
      rw [ha', if_pos (by simp), if_neg (by simp [ha])]
  · rw [if_pos (by omega), if_neg (by simp [h])]
    simp only [impl_FoldsText.j0]
    rw [if_pos trivial]
end Go.Proofs.Ytjegcpagdpjidaa.X
