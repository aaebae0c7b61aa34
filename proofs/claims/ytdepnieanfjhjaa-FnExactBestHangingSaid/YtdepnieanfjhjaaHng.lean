/- Contracts of functions, and plain facts: what each call answers, and what it leaves as it was. -/
import Derived.Test.YtdepnieanfjhjaaSpF
import Derived.Test.YtdepnieanfjhjaaCourse
import Derived.Test.YtdepnieanfjhjaaHSeq
set_option linter.unusedVariables false
set_option linter.unusedSimpArgs false
namespace Go.Proofs.Ytdepnieanfjhjaa.X
open Go.RowKit Go.Proofs.YtdepnieanfjhjaaW.PrintWords Go.Proofs.YtdepnieanfjhjaaW.PrintLast Go.Proofs.YtdepnieanfjhjaaW.PrintMore
attribute [local go_sem] max2_int min2_int max_two min_two max_three min_three max_four min_four
/-- what the first k of an order cost, one by one -/
def hangT (lf : Nat → Nat → Int) (o : List Int) (k : Nat) : List Int := (List.range k).map fun j => lf (o.getD j 0).toNat j
theorem hangT_len (lf : Nat → Nat → Int) (o : List Int) (k : Nat) : (hangT lf o k).length = k := by simp [hangT]
theorem hangT_succ (lf : Nat → Nat → Int) (o : List Int) (k : Nat) : hangT lf o (k + 1) = hangT lf o k ++ [lf (o.getD k 0).toNat k] := by simp [hangT, List.range_succ]
theorem scoreO_take (lf : Nat → Nat → Int) (o : List Int) : ∀ k, k < o.length → scoreO lf 0 (o.take (k + 1)) = scoreO lf 0 (o.take k) + lf (o.getD k 0).toNat k := fun k hk => by
  rw [List.take_add_one, List.getElem?_eq_getElem hk, Option.toList_some, scoreO_snoc, List.getD_eq_getElem?_getD, List.getElem?_eq_getElem hk, Option.getD_some, List.length_take, Nat.zero_add, Nat.min_eq_left (by omega)]
theorem w64n {m : Nat} (h : m ≤ 24) : wrap64 (m : Int) = (m : Int) := by unfold wrap64; omega
theorem sum_loop (l : List Int) (f : Nat → Int) (h0 : f 0 = 0) (hs : ∀ k, (h : k < l.length) → f (k + 1) = f k + l[k]) (hb : ∀ k, k ≤ l.length → -9000000 ≤ f k ∧ f k ≤ 9000000) (hn : l.length ≤ 4294967296) : ∀ (d k i : Nat), i + d = l.length → d < k → impl_sum.l0 k (f i) l (l.length : Int) i = some (f l.length) := by
  intro d
  induction d with
  | zero =>
    intro k i hi hk
    obtain ⟨k, rfl⟩ : ∃ m, k = m + 1 := ⟨k - 1, by omega⟩
    have : i = l.length := by omega
    rw [impl_sum.l0, if_neg (by omega), this]
  | succ d ih =>
    intro k i hi hk
    obtain ⟨k, rfl⟩ : ∃ m, k = m + 1 := ⟨k - 1, by omega⟩
    have h1 := hs i (by omega)
    have h2 := hb (i + 1) (by omega)
    have e1 : wrap64 (f i + rd l (i : Int)) = f (i + 1) := by rw [rd_eq (by omega), ← h1]; unfold wrap64; omega
    rw [impl_sum.l0, if_pos (by omega), if_pos (by omega), if_pos (by omega), e1, w64s (by omega)]
    exact ih k (i + 1) (by omega) (by omega)
theorem sum_hang {lf : Nat → Nat → Int} (hl : LfOk lf) (o : List Int) (hol : o.length ≤ 6) : impl_sum.f (o.length + 1) (hangT lf o o.length) = some (scoreO lf 0 o) := by
  have hlen := hangT_len lf o o.length
  have := sum_loop (hangT lf o o.length) (fun k => scoreO lf 0 (o.take k)) (by simp [scoreO]) (fun k hk => by
    rw [hlen] at hk
    show scoreO lf 0 (o.take (k + 1)) = scoreO lf 0 (o.take k) + _
    rw [scoreO_take lf o k hk]
    simp [hangT]) (fun k hk => by
    have := scoreO_range hl (o.take k) 0
    have : (o.take k).length ≤ o.length := List.length_take_le' ..
    show -9000000 ≤ scoreO lf 0 (o.take k) ∧ scoreO lf 0 (o.take k) ≤ 9000000
    omega) (by omega) o.length (o.length + 1) 0 (by omega) (by omega)
  unfold impl_sum.f
  rw [hlen] at this ⊢
  simpa [scoreO] using this
theorem course_last (L : List Int) (hL : L.length = 72) (hd : dayOk L = true) (wet thick : Int) (hw : washOk wet thick = true) (q m : Nat) (hq : q ≤ 24) (hm : m = 24 - q) (w : World) :
    Calls Try.prog 41 #[(.agg (nums .i8 L).toArray), .agg #[.int .i16 wet, .int .i8 thick], .int .i64 q, .bool false] w fun e w' => ∃ A c l, e = .returned (.slice A (m + 1) c) ∧ m + 1 ≤ c ∧ Kd.C (Kd.int .i64) w' A (m + 1) l ∧ rd l (m : Int) = leftF L wet thick q ∧ Below w.heap.size w w' := by
  subst hm
  refine (course_calls L hL hd wet thick hw q hq false w).mono ?_
  rintro e w' ⟨v, rfl, hR, hb⟩
  obtain ⟨A, c, rfl, hc, hC⟩ := Kd.R_reads hR
  have hg := courseF_get L thick false q wet (24 - q) (24 - q) (Nat.le_refl _)
  rw [courseF_length] at hc hC
  exact ⟨A, c, _, by rw [courseF_length], hc, hC, hg, hb⟩
set_option maxHeartbeats 8000000 in
set_option maxRecDepth 100000 in
theorem hang_calls (L : List Int) (hL : L.length = 72) (hd : dayOk L = true) (ws : List S52) (hws : ∀ x ∈ ws, washOk x.f0 x.f1 = true) (h : Nat) (hh : h ≤ 24) (n cw : Nat) (hn : n = ws.length) (hn6 : n ≤ 6) (A : Option Addr) (o : List Int) (ho : ∀ x ∈ o, 0 ≤ x ∧ x < (n : Int)) (hol : o.length ≤ 6) (Ao : Option Addr) (co : Nat) (hco : o.length ≤ co) (w : World) (hC : Kd.C k52 w A n ws) (hO : Kd.C (Kd.int .i64) w Ao o.length o) :
    Calls Try.prog 25 #[(.agg (nums .i8 L).toArray), .slice A n cw, .slice Ao o.length co, .int .i64 (h : Int)] w fun e w' => ∃ v, e = .returned v ∧ Ir w' w.heap.size v (hangT (lfF L ws h) o o.length) ∧ Below w.heap.size w w' := by
  have HC := Aside0.mk hC
  have HO := Aside0.mk hO
  have HWS : Aside0 (∀ k, k < n → washOk (ws.getD k z52).f0 (ws.getD k z52).f1 = true) := ⟨fun k hk => by rw [List.getD_eq_getElem?_getD, List.getElem?_eq_getElem (by omega)]; exact hws _ (List.getElem_mem _)⟩
  have HOO := Aside0.mk ho
  have HNW := Aside0.mk hn
  have HN : Aside0 ((nums .i8 L).length = 72) := ⟨by rw [nums_len]; exact hL⟩
  have HS : Aside0 (((nums .i8 L).drop 0).take (nums .i8 L).length = nums .i8 L) := ⟨by rw [List.drop_zero, List.take_length]⟩
  have HB0 : Aside0 (Blk (w.alloc (.cells (nums .i8 L).toArray 33)) w.heap.size 33 (nums .i8 L)) := ⟨Blk.new w _ _⟩
  have HW0 : Aside0 (Below w.heap.size w (w.alloc (.cells (nums .i8 L).toArray 33))) := ⟨below_alloc (Below.refl _ _) _⟩
  clear hC hO ho hn hws
  obtain ⟨w0, hw0⟩ : ∃ w0, w0 = w.alloc (.cells (nums .i8 L).toArray 33) := ⟨_, rfl⟩
  go_enter Try.func25, Try.ntmps25
  go_wp2_with ((with_reducible refine gate_dst (N := 13) rfl ?_); refine Kd.R_lit (Kd.int .i64) w.heap.size 2 ?hg (N := 13) ?hd (xs := ([] : List Int)) (inner := []) (ok := fun _ => True) (okp := fun _ => True) ?hr ?hp (fun _ hk => hk) trivial HW0.out (by simp) (by simp) ?_; (case hd => rfl); (case hg => rfl); (case hr => first | (go_simp; done) | (go_simp; rfl)); (case hp => exact (Reps.none _ _)); intro v1 w1 ho hb hg_ hnew_; clear hnew_; have HI1 : Aside0 (Ir w1 w.heap.size v1 (hangT (lfF L ws h) o 0)) := ⟨Ir.of_row ho⟩; have HB1 := Aside0.mk hb; have HA1 : Aside0 (Blk w1 w.heap.size 33 (nums .i8 L)) := ⟨(hg_.block _ HB0.out.lt (by simp)).trans HB0.out⟩; clear ho hb hg_)
  go_loopw [9, 16] (fun v9 v16 w' => ∃ k : Nat, k ≤ o.length ∧ v16 = .int .i64 k ∧ Aside0 (Ir w' w.heap.size v9 (hangT (lfF L ws h) o k)) ∧ Aside0 (Blk w' w.heap.size 33 (nums .i8 L)) ∧ Aside0 (Below w.heap.size w w')) (fun _ v16 _ => o.length - (intOf v16).toNat)
  case atStart => exact ⟨0, by omega, rfl, HI1, HA1, HB1⟩
  case round =>
    clear HI1 HA1 HB1
    obtain ⟨k, hk, rfl, HI, HA, HB⟩ := hrel
    obtain ⟨wo, rfl⟩ : ∃ wo : World, wo = wr := ⟨_, rfl⟩
    have hk9 : IntKind.i64.wrap ((k : Int) + 1) = (k : Int) + 1 := IntWalk.i64_in _ ⟨by omega, by omega⟩
    by_cases hlt : k < o.length
    · have hki : (k : Int) < (o.length : Int) := by omega
      obtain ⟨aO, eO, hxo⟩ := Kd.at_int (Kd.C_below HO.out HB.out) (k : Int) (by omega) (by omega)
      have hxi := HOO.out o[k] (List.getElem_mem _)
      have HTS := Aside0.mk (hangT_succ (lfF L ws h) o k)
      rw [show rd o (k : Int) = o[k] from rd_eq hlt] at hxo
      rw [show o.getD k 0 = o[k] by simp [List.getD_eq_getElem?_getD, List.getElem?_eq_getElem hlt]] at HTS
      generalize o[k] = xi at *
      obtain ⟨i, rfl⟩ : ∃ i : Nat, xi = i := ⟨xi.toNat, by omega⟩
      rw [Int.toNat_natCast] at HTS
      rw [Int.toNat_natCast] at hxo
      have hin : i < n := by omega
      have hini : (i : Int) < (n : Int) := hxi.2
      have hi0 : (0 : Int) ≤ (i : Int) := by omega
      obtain ⟨ad, eA, hx0, hx1⟩ := at_T52 (Kd.C_below HC.out HB.out) (i : Int) (by omega) (by omega)
      have HXk := Aside0.mk (HWS.out i hin)
      rw [show rd_T52 ws i = ws.getD i z52 from rfl] at hx0 hx1
      replace hx0 := (show (i : Int).toNat = i from rfl) ▸ hx0
      replace hx1 := (show (i : Int).toNat = i from rfl) ▸ hx1
      have HL1 : Aside0 (lfF L ws h i k = leftF L (ws.getD i z52).f0 (ws.getD i z52).f1 (h + k)) := ⟨by rw [HNW.out] at hin; unfold lfF; simp [List.getD_eq_getElem?_getD, List.getElem?_eq_getElem hin]⟩
      generalize ws.getD i z52 = x at hx0 hx1 HXk HL1
      obtain ⟨q, hq⟩ : ∃ q, q = (if h + k ≤ 24 then h + k else 24) := ⟨_, rfl⟩
      have hq24 : q ≤ 24 := by rw [hq]; split <;> omega
      have hqi : (if 24 < (h : Int) + (k : Int) then 24 else (h : Int) + (k : Int)) = (q : Int) := by rw [hq]; split <;> split <;> omega
      have HLQ : Aside0 (leftF L x.f0 x.f1 (h + k) = leftF L x.f0 x.f1 q) := ⟨by
        rw [hq]
        split
        · rfl
        · unfold leftF; rw [show 24 - (h + k) = 0 by omega]; rfl⟩
      have HCR := Aside0.mk (fun W => course_last L hL hd x.f0 x.f1 HXk.out q (24 - q) hq24 rfl W)
      have hhk : IntKind.i64.wrap ((h : Int) + (k : Int)) = (h : Int) + (k : Int) := IntWalk.i64_in _ ⟨by omega, by omega⟩
      have hm24 : 24 - q ≤ 24 := by omega
      generalize 24 - q = m at HCR hm24
      clear hq
      subst eO eA
      go_wp2_with fail
      refine seq_region 9 (by kernel_rfl) (by kernel_rfl) (fun w2 hw2 => ?_)
      have HI2 : Aside0 (Ir w2 w.heap.size u9 (hangT (lfF L ws h) o k)) := ⟨by rw [hw2]; exact HI.out.drew⟩
      have HA2 : Aside0 (Blk w2 w.heap.size 33 (nums .i8 L)) := ⟨by rw [hw2]; exact HA.out.drew⟩
      have HB2 : Aside0 (Below w.heap.size w w2) := ⟨by rw [hw2]; exact below_drew HB.out⟩
      replace hx0 : w2.cell? (ad.add (i * 2)) = some (.int .i16 x.f0) := by rw [hw2]; exact hx0
      replace hx1 : w2.cell? ⟨(ad.add (i * 2)).block, (ad.add (i * 2)).off + 1, none⟩ = some (.int .i8 x.f1) := by rw [hw2]; exact hx1
      clear hw2 HI HA HB hxo
      simp only [List.take_succ_cons, List.take_zero, List.drop_succ_cons, List.drop_zero]
      refine still_load rfl 33 _ rfl (.pointer (some ⟨w.heap.size, 0, none⟩)) (.agg (nums .i8 L).toArray) (by rfl) (run_loadAt_mid w2 w.heap.size 0 33 (nums .i8 L) _ (HA2.out.rangeAt 0 HS.out) Try.underlying33 (by rfl) (by rw [HN.out]; kernel_rfl)) ?_
      repeat still_step
      try refine wpStill_nil ?_
      go_wp2_with fail
      refine (HCR.out _).mono ?_
      rintro e w3 ⟨Ac, cc, l, rfl, hcc, hCc, hrd, hb⟩
      have HI3 := Aside0.mk (HI2.out.below hb)
      have HA3 := Aside0.mk (HA2.out.below hb)
      have HB3 := Aside0.mk (below_step HB2.out hb)
      obtain ⟨aC, eC, hxc⟩ := Kd.at_int hCc (m : Int) (by omega) (by omega)
      rw [hrd, ← HLQ.out, ← HL1.out, Int.toNat_natCast] at hxc
      subst eC
      clear HI2 HA2 HB2 hb hx0 hx1 hCc hrd HCR HLQ HL1 hqi
      have hm1 : wrap64 (m : Int) = (m : Int) := w64n hm24
      have hm3 : (m : Int) < (m : Int) + 1 := Int.lt_succ _
      have hm0 : (0 : Int) ≤ (m : Int) := Int.natCast_nonneg m
      generalize lfF L ws h i k = r at *
      go_wp2_with ((with_reducible refine gate_builtin (b := .append) (xs := #[.tmp 31, .tmp 38]) rfl ?_); at_builtin; refine Kd.R_append (Kd.int .i64) (w0 := w) w.heap.size rfl (.tmp 31) (.tmp 38) 28 2 (.int .i64 0) 8 rfl Try.underlying28 (by kernel_rfl) rfl (by decide) (by decide) _ (hangT (lfF L ws h) o k) r [.int .i64 r] (fun q => u9.ownBlock = some q ∨ w3.heap.size ≤ q) (fun _ => False) rfl rfl rfl (fun _ hk => hk.elim) (fun _ hk => .inr hk) (Kd.R_mono HI3.out.row (fun _ hk => .inl hk)) HB3.out (below_size HB3.out) (by rw [hangT_len]; omega) ?_; intro v4 w4 hr4 hb4 hg4 _; have HI4 : Aside0 (Ir w4 w.heap.size v4 (hangT (lfF L ws h) o (k + 1))) := ⟨by rw [HTS.out]; exact Ir.of_row hr4⟩; have HB4 := Aside0.mk hb4; have HA4 := Aside0.mk (HA3.out.grown hg4 (Kd.R_ne HI3.out.row HA3.out (by decide))); clear hr4 hb4 hg4)
      go_roundw
      case rel => exact ⟨k + 1, by omega, by go_num, HI4, HA4, HB4⟩
      case measure => simp [intOf] <;> omega
    · have hke : k = o.length := by omega
      subst hke
      have hki : ¬ (o.length : Int) < (o.length : Int) := by omega
      go_wp2
      go_ret
      exact ⟨_, rfl, HI.out, HB.out⟩
end Go.Proofs.Ytdepnieanfjhjaa.X
