/- Contracts of functions, and plain facts: what each call answers, and what it leaves as it was. -/
import Derived.Test.YtjmnbikaijphlaaHUse
import Derived.Test.YtjmnbikaijphlaaHWash
import Derived.Test.YtjmnbikaijphlaaHOwn
import Derived.Test.YtjmnbikaijphlaaHSeq
import Derived.Test.YtjmnbikaijphlaaHSmall
import Derived.Test.YtjmnbikaijphlaaX5
set_option linter.unusedVariables false
set_option linter.unusedSimpArgs false
namespace Go.Proofs.Ytjmnbikaijphlaa.X
open Go.RowKit Go.Proofs.YtjmnbikaijphlaaW.PrintWords Go.Proofs.YtjmnbikaijphlaaW.PrintLast Go.Proofs.YtjmnbikaijphlaaW.PrintMore
attribute [local go_sem] max2_int min2_int max_two min_two max_three min_three max_four min_four
/-- the numbers behind the first q kinds' use, and what is short of kind q -/
def dsF (f N : Nat → Int) : Nat → Nat → Int
  | 0 => f
  | q + 1 => (useF (dsF f N q) (25 * q) (N q)).1
def shF (f N : Nat → Int) (q : Nat) : Int := (useF (dsF f N q) (25 * q) (N q)).2
def shL (f N : Nat → Int) : Nat → List Int
  | 0 => []
  | q + 1 => shL f N q ++ [shF f N q]
theorem shL_len (f N : Nat → Int) : ∀ q, (shL f N q).length = q
  | 0 => rfl
  | q + 1 => by rw [shL, List.length_append, shL_len f N q]; rfl
theorem dsF_fine {f N : Nat → Int} {n : Nat} (h : Fine f n) (hN : ∀ k, k < n → 0 ≤ N k) : ∀ q, q ≤ n → Fine (dsF f N q) n
  | 0, _ => h
  | q + 1, hq => Fine.use (dsF_fine h hN q (by omega)) (by omega) (hN q (by omega))
/-- the numbers behind a day -/
def dayF (f N : Nat → Int) (n : Nat) (tub every today : Int) : Nat → Int := if Int.tmod (today + 1) every = 0 then (wsAll (dsF f N n) tub n).1 else dsF f N n
/-- a row of numbers that is read -/
def Nd (w : World) (b n : Nat) (N : Nat → Int) : Prop := b < w.heap.size ∧ ∀ k, k < n → w.cell? ⟨b, k, none⟩ = some (.int .i64 (N k))
section
variable {w w1 : World} {b n : Nat} {N : Nat → Int} {S : Nat → Prop}
theorem Nd.kept (h : Nd w b n N) (hk : Kept w w1 S) (hn : ¬ S b) : Nd w1 b n N := ⟨Nat.lt_of_lt_of_le h.1 hk.1, fun k hl => cell_kept (h.2 k hl) hk hn⟩
theorem Nd.below (h : Nd w b n N) (hb : Below w.heap.size w w1) : Nd w1 b n N := h.kept (Kept.of_below hb (fun _ => False)) (fun h => h)
theorem Nd.alloc (h : Nd w b n N) (o : Obj) : Nd (w.alloc o) b n N := h.below (below_alloc (Below.refl _ _) o)
theorem Nd.drew (h : Nd w b n N) : Nd w.drew b n N := h
theorem kept_grown {row : Option Nat} (hg : w.grownBy w1 row) : Kept w w1 (fun k => row = some k) := Kept.of_grown hg (Kept.refl _ _) (fun k hk => .inl hk)
theorem Nd.grown (h : Nd w b n N) {row : Option Nat} (hg : w.grownBy w1 row) (hne : some b ≠ row) : Nd w1 b n N := h.kept (kept_grown hg) (fun e => hne e.symm)
theorem Nd.at (h : Nd w b n N) {k j : Nat} (hk : k < n) (hj : j = k) : w.cell? ⟨b, j, none⟩ = some (.int .i64 (N k)) := by subst hj; exact h.2 _ hk
theorem own_ne {base e size m : Nat} {v : Value} {xs : List Value} {g : Nat} (h : w.ownsRow base e size v m xs) (hg : g < base) : some g ≠ v.ownBlock := fun he => by have := own_base h g he.symm; omega
end
/-- what a day leaves as it was -/
def KpG (w W : World) (S : Nat → Prop) : Prop := Below 0 w W ∧ Kept w W S
section
variable {w W W2 : World} {S : Nat → Prop}
theorem KpG.of_below (h : Below w.heap.size w W) (S : Nat → Prop) : KpG w W S := ⟨h.mono (Nat.zero_le _), Kept.of_below h S⟩
theorem KpG.of_grown {row : Option Nat} (hg : W.grownBy W2 row) (h : KpG w W S) (hr : ∀ k, row = some k → S k ∨ w.heap.size ≤ k) : KpG w W2 S := ⟨h.1.grown hg (Nat.zero_le _) (fun k _ => Nat.zero_le _), Kept.of_grown hg h.2 hr⟩
theorem KpG.below (h : KpG w W S) (hb : Below W.heap.size W W2) : KpG w W2 S := ⟨h.1.trans (hb.mono (Nat.zero_le _)), h.2.below hb⟩
theorem KpG.alloc (h : KpG w W S) (o : Obj) : KpG w (W.alloc o) S := h.below (below_alloc (Below.refl _ _) o)
theorem KpG.drew (h : KpG w W S) : KpG w W.drew S := h.below (below_drew (Below.refl _ _))
theorem KpG.setCell (h : KpG w W S) {p : Addr} (hp : S p.block ∨ w.heap.size ≤ p.block) (u : Value) : KpG w (W.setCell p u) S := ⟨h.1.setCell (Nat.zero_le _) u, h.2.setCell hp u⟩
end
theorem int64Info : (Try.prog.info? 2).map (fun i => (i.zero, i.size, i.bytes)) = some (some (.int .i64 0), 1, 8) := by kernel_rfl
theorem nums_snoc (xs : List Int) (x : Int) : nums .i64 xs ++ [.int .i64 x] = nums .i64 (xs ++ [x]) := by simp [nums]
set_option maxHeartbeats 8000000 in
set_option maxRecDepth 100000 in
theorem l05Day_ok (f N : Nat → Int) (n c g hb gN cN : Nat) (tub every today : Int) (hn : 0 < n ∧ n ≤ 4) (hG : Fine f n) (hN : ∀ k, k < n → 0 ≤ N k ∧ N k ≤ 500) (ht : 0 ≤ tub ∧ tub ≤ 1000) (hv : 1 ≤ every ∧ every ≤ 7) (hd : 0 ≤ today ∧ today < 60) (h1 : gN ≠ g) (h2 : gN ≠ hb) (h3 : hb ≠ g) (hND : ∀ W, Nd W gN n N → Calls Try.prog 100 #[.slice (some ⟨gN, 0, none⟩) n cN, .int .i64 n] W fun e w' => e = .returned (.bool true) ∧ Below W.heap.size W w') (w : World) (hH : Blk w hb 40 (hcells (some ⟨g, 0, none⟩) n c tub every today)) (hB : Rw w g n f) (hNd : Nd w gN n N) :
    Calls Try.prog 101 #[.pointer (some ⟨hb, 0, none⟩), .slice (some ⟨gN, 0, none⟩) n cN] w fun e w' => ∃ v : Value, e = .returned (.tuple #[v, .int .i64 0]) ∧ w'.ownsRow w.heap.size 2 1 v n (nums .i64 (shL f N n)) ∧ Rw w' g n (dayF f N n tub every today) ∧ Blk w' hb 40 (hcells (some ⟨g, 0, none⟩) n c tub every (today + 1)) ∧ KpG w w' (fun k => k = g ∨ k = hb) := by
  obtain ⟨i0, hi, hz0, hz1, hz2⟩ := info_parts int64Info
  have HI := Aside0.mk (And.intro hi (And.intro hz0 (And.intro hz1 hz2)))
  have HG : Aside0 (∀ q, q ≤ n → Fine (dsF f N q) n) := ⟨fun q hq => dsF_fine hG (fun k hk => (hN k hk).1) q hq⟩
  have HN := Aside0.mk hN
  have HU : Aside0 (∀ (F : Nat → Int) (k : Nat), k < n → Fine F n → ∀ W : World, Rw W g n F → Calls Try.prog 82 #[.pointer (some ⟨g, k * 25, none⟩), .int .i64 (N k)] W fun e w' => e = .returned (.int .i64 (useF F (25 * k) (N k)).2) ∧ Rw w' g n (useF F (25 * k) (N k)).1 ∧ W.grownBy w' (some g)) := ⟨fun F k hk hF W h => by rw [Nat.mul_comm k 25]; exact l05Use_calls F n k (25 * k) hk rfl (hF k hk) (N k) (hN k hk) g W h⟩
  have HB := Aside0.mk hB
  have HH := Aside0.mk hH
  have HD := Aside0.mk hNd
  have hgl := hB.lt
  have hhl := hH.lt
  have hnl := hNd.1
  have hd60 : decide (today = 60) = false := decide_eq_false (by omega)
  have c0 := hH.cell 0 (v := .slice (some ⟨g, 0, none⟩) n c) rfl
  clear hi hz0 hz1 hz2 hG hN hB hH hNd
  go_enter Try.func101, Try.ntmps101
  have HND := Aside0.mk hND
  clear hND
  have b0 := ((HH.out.alloc (.cells #[] 2))).cell 0 (v := .slice (some ⟨g, 0, none⟩) n c) rfl
  go_wp2_with (go_at_call 100; refine (HND.out _ (HD.out.alloc _)).mono ?_; rintro e w1 ⟨rfl, hb_⟩; have HD1 := Aside0.mk ((HD.out.alloc (.cells #[] 2)).below hb_); have HH1 := Aside0.mk ((HH.out.alloc (.cells #[] 2)).below hb_); have HB1 := Aside0.mk ((HB.out.alloc (.cells #[] 2)).below hb_); have HV1 : Aside0 (w1.ownsRow w.heap.size 2 1 (.slice (some ⟨w.heap.size, 0, none⟩) 0 0) 0 []) := ⟨pw_own_below (World.ownsRow_made w #[] 0 (by exact Nat.le_refl _) (by decide) (by rfl)) hb_⟩; have HK1 : Aside0 (KpG w w1 (fun k => k = g ∨ k = hb)) := ⟨(KpG.of_below (below_alloc (Below.refl _ _) (.cells #[] 2)) _).below hb_⟩; have c3 := HH1.out.cell 3 (v := .int .i16 today) rfl; clear hb_ c0 b0)
  clear c3 HB HH HD
  rw [show (today == 60) = false from by rw [beq_eq_false_iff_ne]; omega]
  go_loopw [6, 7] (fun v6 v7 w' => ∃ (k : Nat) (v : Value), k ≤ n ∧ v6 = v ∧ v7 = .int .i64 k ∧ Aside0 (w'.ownsRow w.heap.size 2 1 v k (nums .i64 (shL f N k))) ∧ Aside0 (Rw w' g n (dsF f N k)) ∧ Aside0 (Blk w' hb 40 (hcells (some ⟨g, 0, none⟩) n c tub every today)) ∧ Aside0 (Nd w' gN n N) ∧ Aside0 (KpG w w' (fun k => k = g ∨ k = hb))) (fun _ v7 _ => n - (intOf v7).toNat)
  case atStart => exact ⟨0, _, by omega, rfl, rfl, HV1, HB1, HH1, HD1, HK1⟩
  case round =>
    clear HV1 HB1 HH1 HD1 HK1
    obtain ⟨k, v, hk, rfl, rfl, HV, HR, HH, HD, HK⟩ := hrel
    have c0 := HH.out.cell 0 (v := .slice (some ⟨g, 0, none⟩) n c) rfl
    by_cases hlt : k < n
    · have HF := Aside0.mk (HG.out k hk)
      have HDS : Aside0 (dsF f N (k + 1) = (useF (dsF f N k) (25 * k) (N k)).1) := ⟨rfl⟩
      have HSS : Aside0 (shL f N (k + 1) = shL f N k ++ [(useF (dsF f N k) (25 * k) (N k)).2]) := ⟨rfl⟩
      generalize dsF f N k = F at *
      have hn0 : 0 ≤ N k ∧ N k ≤ 500 := HN.out k hlt
      obtain ⟨wo, rfl⟩ : ∃ wo : World, wo = wr := ⟨_, rfl⟩
      go_wp2
      clear c0
      have HV1 : Aside0 (wo.drew.ownsRow w.heap.size 2 1 u6 k (nums .i64 (shL f N k))) := ⟨HV.out⟩
      have HR1 : Aside0 (Rw wo.drew g n F) := ⟨HR.out.drew⟩
      have HH1 : Aside0 (Blk wo.drew hb 40 (hcells (some ⟨g, 0, none⟩) n c tub every today)) := ⟨HH.out.drew⟩
      have HD1 : Aside0 (Nd wo.drew gN n N) := ⟨HD.out.drew⟩
      have HK1 : Aside0 (KpG w wo.drew (fun k => k = g ∨ k = hb)) := ⟨HK.out.drew⟩
      clear HV HR HH HD HK
      have c0 := HH1.out.cell 0 (v := .slice (some ⟨g, 0, none⟩) n c) rfl
      have cn := HD1.out.at (k := k) (j := k) hlt rfl
      have hkn : (k : Int) < n := by omega
      go_region_held3 (fun w' => w'.cell? ⟨hb, 0, none⟩ = some (.slice (some ⟨g, 0, none⟩) n c) ∧ w'.cell? ⟨gN, k, none⟩ = some (.int .i64 (N k))) (first | exact ⟨c0, cn⟩ | exact ⟨e0, en⟩ | exact ⟨f0, fn⟩ | go_keep) ((first | (go_at_call 82; (with_reducible refine (HU.out F k hlt HF.out _ HR1.out).mono ?_); rintro e w2 ⟨rfl, hR_, hg_⟩; have HK2 := Aside0.mk (KpG.of_grown hg_ HK1.out (fun k_ e_ => by injection e_ with e_; exact .inl (.inl e_.symm))); have HS2 : Aside0 (w.heap.size ≤ w2.heap.size) := ⟨HK2.out.2.1⟩; have HV2 : Aside0 (w2.ownsRow w.heap.size 2 1 u6 k (nums .i64 (shL f N k))) := ⟨own_other HV1.out hg_ (.inr (own_ne HV1.out hgl).symm)⟩; have HH2 := Aside0.mk (HH1.out.grown hg_ (by intro h_; injection h_ with h_; omega)); have HD2 := Aside0.mk (HD1.out.grown hg_ (by intro h_; injection h_ with h_; omega)); have HR2 := Aside0.mk hR_; clear hR_ hg_; have e0 := HH2.out.cell 0 (v := .slice (some ⟨g, 0, none⟩) n c) rfl; have en := HD2.out.at (k := k) (j := k) hlt rfl; obtain ⟨s, hs_⟩ : ∃ s, (useF F (25 * k) (N k)).2 = s := ⟨_, rfl⟩; rw [hs_]; have HSX := Aside0.mk hs_; clear hs_) | (refine step_append_lies _ (by rfl) _ _ 45 (by rfl) w.heap.size 2 i0 _ 1 8 Try.underlying45 HI.out.1 HI.out.2.1 HI.out.2.2.1 HI.out.2.2.2 (by rfl) (by decide) _ k (nums .i64 (shL f N k)) (by rfl) (pw_own_below HV2.out (below_alloc (Below.refl _ _) _)) ⟨w2.heap.size, 0, none⟩ 1 1 [.int .i64 s] (by rfl) (by rfl) (by intro j u hj; match j, hj with | 0, hj => (injection hj with hj; subst hj; exact (Blk.new w2 _ [.int .i64 s]).cell 0 rfl) | (j + 1), hj => (simp at hj)) (by intro u hu; simp at hu; subst hu; rfl) (by decide) (by unfold maxLen; omega) (by omega) (by have := HS2.out; simp <;> omega) _ rfl ?_; intro g' cap' w3 hown hgrow hat hlt'; have HR4 := Aside0.mk (Rw.grown (HR2.out.alloc _) hgrow (own_ne HV2.out hgl)); have HH4 := Aside0.mk (Blk.grown (HH2.out.alloc _) hgrow (own_ne HV2.out hhl)); have HD4 := Aside0.mk (Nd.grown (HD2.out.alloc _) hgrow (own_ne HV2.out hnl)); have HK4 := Aside0.mk (KpG.of_grown hgrow (HK2.out.alloc _) (fun k_ e_ => .inr (own_base HV2.out k_ e_))); have HV4 := Aside0.mk hown; clear hown hgrow hat hlt'; have f0 := HH4.out.cell 0 (v := .slice (some ⟨g, 0, none⟩) n c) rfl; have fn := HD4.out.at (k := k) (j := k) hlt rfl)))
      go_wp2
      go_roundw
      case rel => exact ⟨k + 1, _, by omega, rfl, by go_num, ⟨by rw [HSS.out, ← nums_snoc, HSX.out]; exact HV4.out⟩, ⟨by rw [HDS.out]; exact HR4.out⟩, HH4, HD4, HK4⟩
      case measure => simp [intOf] <;> omega
    · have ek : k = n := by omega
      clear c0
      subst ek
      have HFN := Aside0.mk (HG.out k (Nat.le_refl k))
      obtain ⟨wo, rfl⟩ : ∃ wo : World, wo = wr := ⟨_, rfl⟩
      have c0 := HH.out.cell 0 (v := .slice (some ⟨g, 0, none⟩) k c) rfl
      have c3 := HH.out.cell 3 (v := .int .i16 today) rfl
      have d3 := HH.out.frozen 3
      have i1 : IntKind.i16.wrap (today + 1) = today + 1 := IntWalk.i16_in _ ⟨by omega, by omega⟩
      have i2 : IntKind.i64.wrap (today + 1) = today + 1 := IntWalk.i64_in _ ⟨by omega, by omega⟩
      have i3 : IntKind.i64.wrap every = every := IntWalk.i64_in _ ⟨by omega, by omega⟩
      have hv0 : every ≠ 0 := by omega
      go_wp2_with fail
      clear c0 c3 d3
      obtain ⟨w4, hw_⟩ : ∃ W_, W_ = wo.setCell ⟨hb, 3, none⟩ (.int .i16 (today + 1)) := ⟨_, rfl⟩
      rw [← hw_]
      have HH4 : Aside0 (Blk w4 hb 40 (hcells (some ⟨g, 0, none⟩) k c tub every (today + 1))) := ⟨by rw [hw_]; exact HH.out.set 3 _⟩
      have HR4 : Aside0 (Rw w4 g k (dsF f N k)) := ⟨by rw [hw_]; exact Rw.other HR.out h3⟩
      have HV4 : Aside0 (w4.ownsRow w.heap.size 2 1 u6 k (nums .i64 (shL f N k))) := ⟨by rw [hw_]; exact own_other HV.out (grown_set _ _ _ _) (.inr (own_ne HV.out hhl).symm)⟩
      have HK4 : Aside0 (KpG w w4 (fun k => k = g ∨ k = hb)) := ⟨by rw [hw_]; exact HK.out.setCell (.inl (.inr rfl)) _⟩
      clear hw_ HV HR HH HD HK
      refine seq_all (by kernel_rfl) (by kernel_rfl) (fun w5 hw_ => ?_)
      have HH5 : Aside0 (Blk w5 hb 40 (hcells (some ⟨g, 0, none⟩) k c tub every (today + 1))) := ⟨by rw [hw_]; exact HH4.out.drew⟩
      have HR5 : Aside0 (Rw w5 g k (dsF f N k)) := ⟨by rw [hw_]; exact HR4.out.drew⟩
      have HV5 : Aside0 (w5.ownsRow w.heap.size 2 1 u6 k (nums .i64 (shL f N k))) := ⟨by rw [hw_]; exact HV4.out⟩
      have HK5 : Aside0 (KpG w w5 (fun k => k = g ∨ k = hb)) := ⟨by rw [hw_]; exact HK4.out.drew⟩
      clear hw_ HV4 HR4 HH4 HK4
      have e2 := HH5.out.cell 2 (v := .int .i8 every) rfl
      have e3 := HH5.out.cell 3 (v := .int .i16 (today + 1)) rfl
      have HY : Aside0 (dayF f N k tub every today = if Int.tmod (today + 1) every = 0 then (wsAll (dsF f N k) tub k).1 else dsF f N k) := ⟨rfl⟩
      repeat still_step
      try refine wpStill_nil ?_
      by_cases hz : Int.tmod (today + 1) every = 0
      · rw [if_pos hz] at HY
        have hzb : (Int.tmod (today + 1) every == 0) = true := by simpa using hz
        rw [hzb]
        have HWA := Aside0.mk (fun W h h' => l05Wash_calls (dsF f N k) k c g hb tub every (today + 1) hn.2 HFN.out ht h3 W h h')
        go_wp2_with fail
        refine (HWA.out _ HH5.out HR5.out).mono ?_
        rintro e w6 ⟨rfl, hR_, hg_⟩
        have HV6 : Aside0 (w6.ownsRow w.heap.size 2 1 u6 k (nums .i64 (shL f N k))) := ⟨own_other HV5.out hg_ (.inr (own_ne HV5.out hgl).symm)⟩
        have HH6 := Aside0.mk (HH5.out.grown hg_ (by intro h_; injection h_ with h_; omega))
        have HK6 := Aside0.mk (KpG.of_grown hg_ HK5.out (fun k_ e_ => by injection e_ with e_; exact .inl (.inl e_.symm)))
        have HR6 := Aside0.mk hR_
        clear hR_ hg_ HV5 HH5 HK5 HR5
        go_wp2
        refine bodyPost_ret (results_tmp2 (by rfl) _ _ _) rfl ⟨_, rfl, HV6.out, by rw [HY.out]; exact HR6.out, HH6.out, HK6.out⟩
      · rw [if_neg hz] at HY
        have hzb : (Int.tmod (today + 1) every == 0) = false := by simpa using hz
        rw [hzb]
        go_wp2
        refine bodyPost_ret (results_tmp2 (by rfl) _ _ _) rfl ⟨_, rfl, HV5.out, by rw [HY.out]; exact HR5.out, HH5.out, HK5.out⟩
set_option maxHeartbeats 8000000 in
set_option maxRecDepth 100000 in
theorem day_ok (f N : Nat → Int) (n c g hb gN cN : Nat) (tub every today : Int) (hn : 0 < n ∧ n ≤ 4) (hG : Fine f n) (hN : ∀ k, k < n → 0 ≤ N k ∧ N k ≤ 500) (ht : 0 ≤ tub ∧ tub ≤ 1000) (hv : 1 ≤ every ∧ every ≤ 7) (hd : 0 ≤ today ∧ today < 60) (h1 : gN ≠ g) (h2 : gN ≠ hb) (h3 : hb ≠ g)  (w : World) (hH : Blk w hb 40 (hcells (some ⟨g, 0, none⟩) n c tub every today)) (hB : Rw w g n f) (hNd : Nd w gN n N) :
    Calls Try.prog 93 #[.pointer (some ⟨hb, 0, none⟩), .slice (some ⟨gN, 0, none⟩) n cN] w fun e w' => ∃ v : Value, e = .returned (v) ∧ w'.ownsRow w.heap.size 2 1 v n (nums .i64 (shL f N n)) ∧ Rw w' g n (dayF f N n tub every today) ∧ Blk w' hb 40 (hcells (some ⟨g, 0, none⟩) n c tub every (today + 1)) ∧ KpG w w' (fun k => k = g ∨ k = hb) := by
  obtain ⟨i0, hi, hz0, hz1, hz2⟩ := info_parts int64Info
  have HI := Aside0.mk (And.intro hi (And.intro hz0 (And.intro hz1 hz2)))
  have HG : Aside0 (∀ q, q ≤ n → Fine (dsF f N q) n) := ⟨fun q hq => dsF_fine hG (fun k hk => (hN k hk).1) q hq⟩
  have HN := Aside0.mk hN
  have HU : Aside0 (∀ (F : Nat → Int) (k : Nat), k < n → Fine F n → ∀ W : World, Rw W g n F → Calls Try.prog 86 #[.pointer (some ⟨g, k * 25, none⟩), .int .i64 (N k)] W fun e w' => e = .returned (.int .i64 (useF F (25 * k) (N k)).2) ∧ Rw w' g n (useF F (25 * k) (N k)).1 ∧ W.grownBy w' (some g)) := ⟨fun F k hk hF W h => by rw [Nat.mul_comm k 25]; exact use_calls F n k (25 * k) hk rfl (hF k hk) (N k) (hN k hk) g W h⟩
  have HB := Aside0.mk hB
  have HH := Aside0.mk hH
  have HD := Aside0.mk hNd
  have hgl := hB.lt
  have hhl := hH.lt
  have hnl := hNd.1
  have hd60 : decide (today = 60) = false := decide_eq_false (by omega)
  have c0 := hH.cell 0 (v := .slice (some ⟨g, 0, none⟩) n c) rfl
  clear hi hz0 hz1 hz2 hG hN hB hH hNd
  go_enter Try.func93, Try.ntmps93
  have b0 := ((HH.out.alloc (.cells #[] 2))).cell 0 (v := .slice (some ⟨g, 0, none⟩) n c) rfl
  go_wp2_with fail
  clear b0 c0
  obtain ⟨w1, hw_⟩ : ∃ W_, W_ = w.alloc (.cells #[] 2) := ⟨_, rfl⟩
  rw [← hw_]
  have HD1 : Aside0 (Nd w1 gN n N) := ⟨by rw [hw_]; exact HD.out.alloc _⟩
  have HH1 : Aside0 (Blk w1 hb 40 (hcells (some ⟨g, 0, none⟩) n c tub every today)) := ⟨by rw [hw_]; exact HH.out.alloc _⟩
  have HB1 : Aside0 (Rw w1 g n f) := ⟨by rw [hw_]; exact HB.out.alloc _⟩
  have HV1 : Aside0 (w1.ownsRow w.heap.size 2 1 (.slice (some ⟨w.heap.size, 0, none⟩) 0 0) 0 []) := ⟨by rw [hw_]; exact World.ownsRow_made w #[] 0 (by exact Nat.le_refl _) (by decide) (by rfl)⟩
  have HK1 : Aside0 (KpG w w1 (fun k => k = g ∨ k = hb)) := ⟨by rw [hw_]; exact KpG.of_below (below_alloc (Below.refl _ _) (.cells #[] 2)) _⟩
  clear hw_ HB HH HD
  go_loopw [5, 13] (fun v5 v13 w' => ∃ (k : Nat) (v : Value), k ≤ n ∧ v5 = v ∧ v13 = .int .i64 k ∧ Aside0 (w'.ownsRow w.heap.size 2 1 v k (nums .i64 (shL f N k))) ∧ Aside0 (Rw w' g n (dsF f N k)) ∧ Aside0 (Blk w' hb 40 (hcells (some ⟨g, 0, none⟩) n c tub every today)) ∧ Aside0 (Nd w' gN n N) ∧ Aside0 (KpG w w' (fun k => k = g ∨ k = hb))) (fun _ v13 _ => n - (intOf v13).toNat)
  case atStart => exact ⟨0, _, by omega, rfl, rfl, HV1, HB1, HH1, HD1, HK1⟩
  case round =>
    clear HV1 HB1 HH1 HD1 HK1
    obtain ⟨k, v, hk, rfl, rfl, HV, HR, HH, HD, HK⟩ := hrel
    have c0 := HH.out.cell 0 (v := .slice (some ⟨g, 0, none⟩) n c) rfl
    by_cases hlt : k < n
    · have HF := Aside0.mk (HG.out k hk)
      have HDS : Aside0 (dsF f N (k + 1) = (useF (dsF f N k) (25 * k) (N k)).1) := ⟨rfl⟩
      have HSS : Aside0 (shL f N (k + 1) = shL f N k ++ [(useF (dsF f N k) (25 * k) (N k)).2]) := ⟨rfl⟩
      generalize dsF f N k = F at *
      have hn0 : 0 ≤ N k ∧ N k ≤ 500 := HN.out k hlt
      obtain ⟨wo, rfl⟩ : ∃ wo : World, wo = wr := ⟨_, rfl⟩
      go_wp2
      clear c0
      have HV1 : Aside0 (wo.drew.ownsRow w.heap.size 2 1 u5 k (nums .i64 (shL f N k))) := ⟨HV.out⟩
      have HR1 : Aside0 (Rw wo.drew g n F) := ⟨HR.out.drew⟩
      have HH1 : Aside0 (Blk wo.drew hb 40 (hcells (some ⟨g, 0, none⟩) n c tub every today)) := ⟨HH.out.drew⟩
      have HD1 : Aside0 (Nd wo.drew gN n N) := ⟨HD.out.drew⟩
      have HK1 : Aside0 (KpG w wo.drew (fun k => k = g ∨ k = hb)) := ⟨HK.out.drew⟩
      clear HV HR HH HD HK
      have c0 := HH1.out.cell 0 (v := .slice (some ⟨g, 0, none⟩) n c) rfl
      have cn := HD1.out.at (k := k) (j := k) hlt rfl
      have hkn : (k : Int) < n := by omega
      go_region_held3 (fun w' => w'.cell? ⟨hb, 0, none⟩ = some (.slice (some ⟨g, 0, none⟩) n c) ∧ w'.cell? ⟨gN, k, none⟩ = some (.int .i64 (N k))) (first | exact ⟨c0, cn⟩ | exact ⟨e0, en⟩ | exact ⟨f0, fn⟩ | go_keep) ((first | (go_at_call 86; (with_reducible refine (HU.out F k hlt HF.out _ HR1.out).mono ?_); rintro e w2 ⟨rfl, hR_, hg_⟩; have HK2 := Aside0.mk (KpG.of_grown hg_ HK1.out (fun k_ e_ => by injection e_ with e_; exact .inl (.inl e_.symm))); have HS2 : Aside0 (w.heap.size ≤ w2.heap.size) := ⟨HK2.out.2.1⟩; have HV2 : Aside0 (w2.ownsRow w.heap.size 2 1 u5 k (nums .i64 (shL f N k))) := ⟨own_other HV1.out hg_ (.inr (own_ne HV1.out hgl).symm)⟩; have HH2 := Aside0.mk (HH1.out.grown hg_ (by intro h_; injection h_ with h_; omega)); have HD2 := Aside0.mk (HD1.out.grown hg_ (by intro h_; injection h_ with h_; omega)); have HR2 := Aside0.mk hR_; clear hR_ hg_; have e0 := HH2.out.cell 0 (v := .slice (some ⟨g, 0, none⟩) n c) rfl; have en := HD2.out.at (k := k) (j := k) hlt rfl; obtain ⟨s, hs_⟩ : ∃ s, (useF F (25 * k) (N k)).2 = s := ⟨_, rfl⟩; rw [hs_]; have HSX := Aside0.mk hs_; clear hs_) | (refine step_append_lies _ (by rfl) _ _ 45 (by rfl) w.heap.size 2 i0 _ 1 8 Try.underlying45 HI.out.1 HI.out.2.1 HI.out.2.2.1 HI.out.2.2.2 (by rfl) (by decide) _ k (nums .i64 (shL f N k)) (by rfl) (pw_own_below HV2.out (below_alloc (Below.refl _ _) _)) ⟨w2.heap.size, 0, none⟩ 1 1 [.int .i64 s] (by rfl) (by rfl) (by intro j u hj; match j, hj with | 0, hj => (injection hj with hj; subst hj; exact (Blk.new w2 _ [.int .i64 s]).cell 0 rfl) | (j + 1), hj => (simp at hj)) (by intro u hu; simp at hu; subst hu; rfl) (by decide) (by unfold maxLen; omega) (by omega) (by have := HS2.out; simp <;> omega) _ rfl ?_; intro g' cap' w3 hown hgrow hat hlt'; have HR4 := Aside0.mk (Rw.grown (HR2.out.alloc _) hgrow (own_ne HV2.out hgl)); have HH4 := Aside0.mk (Blk.grown (HH2.out.alloc _) hgrow (own_ne HV2.out hhl)); have HD4 := Aside0.mk (Nd.grown (HD2.out.alloc _) hgrow (own_ne HV2.out hnl)); have HK4 := Aside0.mk (KpG.of_grown hgrow (HK2.out.alloc _) (fun k_ e_ => .inr (own_base HV2.out k_ e_))); have HV4 := Aside0.mk hown; clear hown hgrow hat hlt'; have f0 := HH4.out.cell 0 (v := .slice (some ⟨g, 0, none⟩) n c) rfl; have fn := HD4.out.at (k := k) (j := k) hlt rfl)))
      go_wp2
      go_roundw
      case rel => exact ⟨k + 1, _, by omega, rfl, by go_num, ⟨by rw [HSS.out, ← nums_snoc, HSX.out]; exact HV4.out⟩, ⟨by rw [HDS.out]; exact HR4.out⟩, HH4, HD4, HK4⟩
      case measure => simp [intOf] <;> omega
    · have ek : k = n := by omega
      clear c0
      subst ek
      have HFN := Aside0.mk (HG.out k (Nat.le_refl k))
      obtain ⟨wo, rfl⟩ : ∃ wo : World, wo = wr := ⟨_, rfl⟩
      have c0 := HH.out.cell 0 (v := .slice (some ⟨g, 0, none⟩) k c) rfl
      have i1 : IntKind.i16.wrap (today + 1) = today + 1 := IntWalk.i16_in _ ⟨by omega, by omega⟩
      have i3 : IntKind.i16.wrap every = every := IntWalk.i16_in _ ⟨by omega, by omega⟩
      have hv0 : every ≠ 0 := by omega
      go_wp2_with fail
      clear c0
      refine seq_all (by kernel_rfl) (by kernel_rfl) (fun w5 hw_ => ?_)
      have HH5 : Aside0 (Blk w5 hb 40 (hcells (some ⟨g, 0, none⟩) k c tub every today)) := ⟨by rw [hw_]; exact HH.out.drew⟩
      have HR5 : Aside0 (Rw w5 g k (dsF f N k)) := ⟨by rw [hw_]; exact HR.out.drew⟩
      have HV5 : Aside0 (w5.ownsRow w.heap.size 2 1 u5 k (nums .i64 (shL f N k))) := ⟨by rw [hw_]; exact HV.out⟩
      have HK5 : Aside0 (KpG w w5 (fun k => k = g ∨ k = hb)) := ⟨by rw [hw_]; exact HK.out.drew⟩
      clear hw_ HV HR HH HD HK
      have e2 := HH5.out.cell 2 (v := .int .i8 every) rfl
      have e3 := HH5.out.cell 3 (v := .int .i16 today) rfl
      have HY : Aside0 (dayF f N k tub every today = if Int.tmod (today + 1) every = 0 then (wsAll (dsF f N k) tub k).1 else dsF f N k) := ⟨rfl⟩
      repeat still_step
      try refine wpStill_nil ?_
      clear e2 e3
      by_cases hz : Int.tmod (today + 1) every = 0
      · rw [if_pos hz] at HY
        have hzb : (Int.tmod (today + 1) every == 0) = true := by simpa using hz
        rw [hzb]
        have HWA := Aside0.mk (fun W h h' => wash_calls (dsF f N k) k c g hb tub every today hn.2 HFN.out ht h3 W h h')
        go_wp2_with fail
        refine (HWA.out _ HH5.out HR5.out).mono ?_
        rintro e w6 ⟨rfl, hR_, hg_⟩
        have HV6 : Aside0 (w6.ownsRow w.heap.size 2 1 u5 k (nums .i64 (shL f N k))) := ⟨own_other HV5.out hg_ (.inr (own_ne HV5.out hgl).symm)⟩
        have HH6 := Aside0.mk (HH5.out.grown hg_ (by intro h_; injection h_ with h_; omega))
        have HK6 := Aside0.mk (KpG.of_grown hg_ HK5.out (fun k_ e_ => by injection e_ with e_; exact .inl (.inl e_.symm)))
        have HR6 := Aside0.mk hR_
        clear hR_ hg_ HV5 HH5 HK5 HR5
        have c3 := HH6.out.cell 3 (v := .int .i16 today) rfl
        have d3 := HH6.out.frozen 3
        go_wp2
        go_ret
        exact ⟨_, rfl, own_other HV6.out (grown_set _ _ _ _) (.inr (own_ne HV6.out hhl).symm), by rw [HY.out]; exact Rw.other HR6.out h3, HH6.out.set 3 _, HK6.out.setCell (.inl (.inr rfl)) _⟩
      · rw [if_neg hz] at HY
        have hzb : (Int.tmod (today + 1) every == 0) = false := by simpa using hz
        rw [hzb]
        have c3 := HH5.out.cell 3 (v := .int .i16 today) rfl
        have d3 := HH5.out.frozen 3
        go_wp2
        go_ret
        exact ⟨_, rfl, own_other HV5.out (grown_set _ _ _ _) (.inr (own_ne HV5.out hhl).symm), by rw [HY.out]; exact Rw.other HR5.out h3, HH5.out.set 3 _, HK5.out.setCell (.inl (.inr rfl)) _⟩
/-- every number of the row is one of 0 .. 500 -/
def needB (N : Nat → Int) : Nat → Bool
  | 0 => true
  | q + 1 => needB N q && decide (0 ≤ N q ∧ N q ≤ 500)
theorem needB_iff (N : Nat → Int) : ∀ m, needB N m = true ↔ ∀ k, k < m → 0 ≤ N k ∧ N k ≤ 500
  | 0 => by simp [needB]
  | q + 1 => by
    rw [needB, Bool.and_eq_true, decide_eq_true_eq, needB_iff N q]
    constructor
    · rintro ⟨h1, h2⟩ k hk
      by_cases e : k = q
      · subst e; exact h2
      · exact h1 k (by omega)
    · intro h
      exact ⟨fun k hk => h k (by omega), h q (by omega)⟩
theorem needB_no {N : Nat → Int} {k m : Nat} (hk : k < m) (h : decide (0 ≤ N k ∧ N k ≤ 500) = false) : needB N m = false := by
  cases hb : needB N m
  · rfl
  · have := (needB_iff N m).1 hb k hk
    simp only [decide_eq_false_iff_not] at h
    exact absurd this h
/-- a row of numbers, perhaps empty -/
def NdA (w : World) (A : Option Addr) (m : Nat) (N : Nat → Int) : Prop := 0 < m → ∃ b, A = some ⟨b, 0, none⟩ ∧ Nd w b m N
theorem NdA.below {w w1 : World} {A : Option Addr} {m : Nat} {N : Nat → Int} (h : NdA w A m N) (hb : Below w.heap.size w w1) : NdA w1 A m N := fun hm => by
  obtain ⟨b, e, hn⟩ := h hm
  exact ⟨b, e, hn.below hb⟩
theorem NdA.alloc {w : World} {A : Option Addr} {m : Nat} {N : Nat → Int} (h : NdA w A m N) (o : Obj) : NdA (w.alloc o) A m N := h.below (below_alloc (Below.refl _ _) o)
set_option maxHeartbeats 1000000 in
set_option maxRecDepth 100000 in
theorem l05Needs_calls (N : Nat → Int) (m n : Nat) (A : Option Addr) (cN : Nat) (hm : (m : Int) ≤ 9223372036854775806) (w : World) (h : NdA w A m N) :
    Calls Try.prog 100 #[.slice A m cN, .int .i64 n] w fun e w' => e = .returned (.bool (needB N m && decide ((m : Int) = (n : Int)))) ∧ w' = w := by
  have HA := Aside0.mk h
  have HC := Aside0.mk (fun k W => count_q (N k) W)
  clear h
  go_enter Try.func100, Try.ntmps100
  go_wp2
  go_loop [5] (fun v5 => ∃ k : Nat, k ≤ m ∧ v5 = .int .i64 k ∧ Aside0 (needB N k = true)) (fun v5 => m - (intOf v5).toNat)
  case atStart => exact ⟨0, by omega, rfl, ⟨rfl⟩⟩
  case round =>
    obtain ⟨k, hk, rfl, HN⟩ := hrel
    by_cases hlt : k < m
    · obtain ⟨b, rfl, hd⟩ := HA.out (by omega)
      have cn := hd.at (k := k) (j := k) hlt rfl
      have HCK := Aside0.mk (HC.out k)
      have HY : Aside0 (needB N (k + 1) = (needB N k && decide (0 ≤ N k ∧ N k ≤ 500))) := ⟨rfl⟩
      have hk9 : IntKind.i64.wrap ((k : Int) + 1) = (k : Int) + 1 := IntWalk.i64_in _ ⟨by omega, by omega⟩
      obtain ⟨d, hd9⟩ : ∃ d, decide (0 ≤ N k ∧ N k ≤ 500) = d := ⟨_, rfl⟩
      rw [hd9] at HCK HY
      have HD9 := Aside0.mk hd9
      clear hd HA HC hd9
      cases d
      · go_wp2_with (go_at_call 76; refine (HCK.out _).mono ?_; rintro e w' ⟨rfl, rfl⟩)
        go_ret
        exact ⟨by rw [needB_no hlt HD9.out]; rfl, rfl⟩
      · go_wp2_with (go_at_call 76; refine (HCK.out _).mono ?_; rintro e w' ⟨rfl, rfl⟩)
        go_round
        case rel => exact ⟨k + 1, by omega, by go_num, ⟨by rw [HY.out, HN.out]; rfl⟩⟩
        case measure => simp [intOf] <;> omega
    · have ek : k = m := by omega
      subst ek
      go_wp2
      go_ret
      exact ⟨by rw [HN.out]; simp [BEq.beq], rfl⟩
theorem needB_all (N : Nat → Int) (m : Nat) : ((List.range m).map N).all (fun x => decide (0 ≤ x) && decide (x ≤ 500)) = needB N m := by
  rw [Bool.eq_iff_iff, List.all_eq_true, needB_iff]
  constructor
  · intro h k hk
    have := h (N k) (List.mem_map.2 ⟨k, List.mem_range.2 hk, rfl⟩)
    simpa using this
  · intro h x hx
    obtain ⟨k, hk, rfl⟩ := List.mem_map.1 hx
    have := h k (List.mem_range.1 hk)
    simpa using this
theorem NdA.row {w : World} {A : Option Addr} {m : Nat} {N : Nat → Int} (h : NdA w A m N) (hm : (m : Int) ≤ 9223372036854775807) : Kd.C (Kd.int .i64) w A ((List.range m).map N).length ((List.range m).map N) := by
  refine ⟨rfl, by simp; omega, fun h0 => ?_⟩
  have h0' : 0 < m := by simpa using h0
  obtain ⟨b, rfl, hd⟩ := h h0'
  refine ⟨_, rfl, fun j p hp => ⟨[.int .i64 p], rfl, rfl, fun i u hu => ?_⟩⟩
  match i, hu with
  | 0, hu =>
    injection hu with hu
    subst hu
    simp only [List.getElem?_map, Option.map_eq_some_iff] at hp
    obtain ⟨q, hq, rfl⟩ := hp
    have hj : j < m := by
      have := (List.getElem?_eq_some_iff.1 hq).1
      simpa using this
    have hq2 : q = j := by
      have := (List.getElem?_eq_some_iff.1 hq).2
      simpa using this.symm
    subst hq2
    have hc := hd.at hj (rfl : q = q)
    have hz : q * (Kd.int .i64).sz + 0 = q := by show q * 1 + 0 = q; omega
    rw [add_at, Nat.zero_add, hz]
    exact hc
  | i + 1, hu => simp at hu
theorem areWithin_calls (N : Nat → Int) (m : Nat) (A : Option Addr) (cN : Nat) (hm : (m : Int) ≤ 9223372036854775807) (hc : m ≤ cN) (w : World) (h : NdA w A m N) :
    Calls Try.prog 62 #[.slice A m cN, .int .i64 0, .int .i64 500] w fun e w' => e = .returned (.bool (needB N m)) ∧ Below w.heap.size w w' := by
  have hl : ((List.range m).map N).length = m := by simp
  have h1 := impl_areWithin.calls A cN ((List.range m).map N) 0 500 (needB N m) w (h.row hm) (by rw [hl]; exact hc) (by unfold impl_areWithin.f; rw [needB_all])
  rw [hl] at h1
  exact h1
set_option maxHeartbeats 1000000 in
set_option maxRecDepth 100000 in
theorem needCode_calls (N : Nat → Int) (m n c g hb cN : Nat) (A : Option Addr) (tub every today : Int) (hm : (m : Int) ≤ 9223372036854775807) (hc : m ≤ cN) (w : World) (hH : Blk w hb 40 (hcells (some ⟨g, 0, none⟩) n c tub every today)) (hA : NdA w A m N) :
    Calls Try.prog 102 #[.pointer (some ⟨hb, 0, none⟩), .slice A m cN] w fun e w' => e = .returned (.int .i64 (if (needB N m && decide ((m : Int) = (n : Int))) = true then 0 else 2)) ∧ Below w.heap.size w w' := by
  have HAW := Aside0.mk (fun W h => areWithin_calls N m A cN hm hc W h)
  have HA := Aside0.mk hA
  have HU := Aside0.mk (fun b W => unless_q b 2 W)
  have c0 := hH.cell 0 (v := .slice (some ⟨g, 0, none⟩) n c) rfl
  generalize needB N m = b at *
  by_cases e : (m : Int) = (n : Int)
  · have e1 : decide ((m : Int) = (n : Int)) = true := decide_eq_true e
    rw [e1, Bool.and_true]
    have HUB := Aside0.mk (HU.out b)
    generalize (if b = true then (0 : Int) else 2) = r at *
    clear hH hA hm hc HU
    go_enter Try.func102, Try.ntmps102
    have e2 : ((m : Int) == (n : Int)) = true := by simpa using e
    go_wp2_with (first | (go_at_call 62; refine (HAW.out _ HA.out).mono ?_; rintro e w1 ⟨rfl, hb_⟩; have HW1 := Aside0.mk hb_; clear hb_) | (go_at_call 84; refine (HUB.out _).mono ?_; rintro e w2 ⟨rfl, rfl⟩))
    go_ret
    exact ⟨rfl, HW1.out⟩
  · have e1 : decide ((m : Int) = (n : Int)) = false := decide_eq_false e
    rw [e1, Bool.and_false]
    have HUB := Aside0.mk (HU.out false)
    clear hH hA hm hc HU HAW HA
    go_enter Try.func102, Try.ntmps102
    have e2 : ((m : Int) == (n : Int)) = false := by simpa using e
    go_wp2_with (first | (go_at_call 84; refine (HUB.out _).mono ?_; rintro e w2 ⟨rfl, rfl⟩))
    go_ret
    exact ⟨rfl, Below.refl _ _⟩
set_option maxHeartbeats 8000000 in
set_option maxRecDepth 100000 in
theorem dayCode_calls (N : Nat → Int) (m n c g hb cN : Nat) (A : Option Addr) (tub every today : Int) (hm : (m : Int) ≤ 9223372036854775807) (hc : m ≤ cN) (w : World) (hH : Blk w hb 40 (hcells (some ⟨g, 0, none⟩) n c tub every today)) (hA : NdA w A m N) :
    Calls Try.prog 103 #[.pointer (some ⟨hb, 0, none⟩), .slice A m cN] w fun e w' => e = .returned (.int .i64 (firstL [if (needB N m && decide ((m : Int) = (n : Int))) = true then 0 else 2, if decide (today < 60) = true then 0 else 4])) ∧ Below w.heap.size w w' := by
  have HNC := Aside0.mk (fun W h h' => needCode_calls N m n c g hb cN A tub every today hm hc W h h')
  have HU := Aside0.mk (fun W => unless_q (decide (today < 60)) 4 W)
  obtain ⟨c1, hc1⟩ : ∃ x : Int, (if (needB N m && decide ((m : Int) = (n : Int))) = true then (0 : Int) else 2) = x := ⟨_, rfl⟩
  obtain ⟨c2, hc2⟩ : ∃ x : Int, (if decide (today < 60) = true then (0 : Int) else 4) = x := ⟨_, rfl⟩
  rw [hc1] at HNC ⊢
  rw [hc2] at HU ⊢
  have HH1 : Aside0 (Blk w.drew hb 40 (hcells (some ⟨g, 0, none⟩) n c tub every today)) := ⟨hH.drew⟩
  have HA1 : Aside0 (NdA w.drew A m N) := ⟨hA⟩
  have HW1 : Aside0 (Below w.heap.size w w.drew) := ⟨below_drew (Below.refl _ _)⟩
  have c_3 := hH.drew.cell 3 (v := .int .i16 today) rfl
  clear hH hA hm hc hc1 hc2
  go_enter Try.func103, Try.ntmps103
  go_wp2_with fail
  refine start_ (n := 12) (S := (fun w' => w'.cell? ⟨hb, 3, none⟩ = some (.int .i16 today))) (ds := []) #[false, false, false, false, false, false, false, false, false, false, false, false] (by kernel_rfl) rfl rfl c_3 (fun hHeld => ?_)
  generalize w.drew = w1 at *
  refine pure_ (i := 0) (N := some 5) (v := ?_) (a' := ?_) #[true, false, false, false, false, false, false, false, false, false, false, false] rfl rfl (by kernel_rfl) (fun _ _ _ h => h) (Or.inl ⟨by rfl, ?_⟩) ?_ ?_
  rotate_left
  · intro w'
    go_simp
    with_reducible rfl
  rotate_left
  · simp only [Act.put, List.setIfInBounds_toArray, List.set_cons_zero, List.set_cons_succ, i64_w, i32_w]
    rfl
  refine pure_ (i := 1) (N := some 6) (v := ?_) (a' := ?_) #[true, true, false, false, false, false, false, false, false, false, false, false] rfl rfl (by kernel_rfl) (fun _ _ _ h => h) (Or.inl ⟨by rfl, ?_⟩) ?_ ?_
  rotate_left
  · intro w'
    go_simp
    with_reducible rfl
  rotate_left
  · simp only [Act.put, List.setIfInBounds_toArray, List.set_cons_zero, List.set_cons_succ, i64_w, i32_w]
    rfl
  refine pure_ (i := 3) (N := some 8) (v := ?_) (a' := ?_) #[true, true, false, true, false, false, false, false, false, false, false, false] rfl rfl (by kernel_rfl) (fun _ _ _ h => h) (Or.inl ⟨by rfl, ?_⟩) ?_ ?_
  rotate_left
  · intro w'
    go_simp
    with_reducible rfl
  rotate_left
  · simp only [Act.put, List.setIfInBounds_toArray, List.set_cons_zero, List.set_cons_succ, i64_w, i32_w]
    rfl
  refine pure_ (i := 4) (N := some 9) (v := ?_) (a' := ?_) #[true, true, false, true, true, false, false, false, false, false, false, false] rfl rfl (by kernel_rfl) (fun _ _ _ h => h) (Or.inl ⟨by rfl, ?_⟩) ?_ ?_
  rotate_left
  · intro w'
    go_simp
    with_reducible rfl
  rotate_left
  · simp only [Act.put, List.setIfInBounds_toArray, List.set_cons_zero, List.set_cons_succ, i64_w, i32_w]
    rfl
  refine pure_ (i := 5) (N := some 10) (v := ?_) (a' := ?_) #[true, true, false, true, true, true, false, false, false, false, false, false] rfl rfl (by kernel_rfl) (fun _ _ _ h => h) (Or.inl ⟨by rfl, ?_⟩) ?_ ?_
  rotate_left
  · intro w'
    go_simp
    with_reducible rfl
  rotate_left
  · simp only [Act.put, List.setIfInBounds_toArray, List.set_cons_zero, List.set_cons_succ, i64_w, i32_w]
    rfl
  refine take_ (i := 6) (N := some 11) (v := ?_) (a' := ?_) #[true, true, false, true, true, true, true, false, false, false, false, false] rfl rfl (by kernel_rfl) (fun _ _ _ h => h) (Or.inl ⟨by rfl, ?_⟩) hHeld ?_ ?_
  rotate_left
  · intro w' s0
    go_simp
    with_reducible rfl
  rotate_left
  · simp only [Act.put, List.setIfInBounds_toArray, List.set_cons_zero, List.set_cons_succ, i64_w, i32_w]
    rfl
  refine pure_ (i := 7) (N := some 12) (v := ?_) (a' := ?_) #[true, true, false, true, true, true, true, true, false, false, false, false] rfl rfl (by kernel_rfl) (fun _ _ _ h => h) (Or.inl ⟨by rfl, ?_⟩) ?_ ?_
  rotate_left
  · intro w'
    go_simp
    with_reducible rfl
  rotate_left
  · simp only [Act.put, List.setIfInBounds_toArray, List.set_cons_zero, List.set_cons_succ, i64_w, i32_w]
    rfl
  refine one_ (i := 2) (N := some 7) #[true, true, true, true, true, true, true, true, false, false, false, false] rfl rfl (by kernel_rfl) (by decide) (fun K hK => ?_)
  refine goes_ Try.func102 (by kernel_rfl) rfl #[.pointer (some ⟨hb, 0, none⟩), .slice A m cN] (by rfl) rfl rfl (by (try simp only [List.map_toArray, List.map_cons, List.map_nil]); first | done | rfl) ?_
  refine (HNC.out _ HH1.out HA1.out).mono ?_
  rintro e w2 ⟨rfl, hx⟩
  have HW2 := Aside0.mk (below_step HW1.out hx)
  refine ⟨_, rfl, ?_⟩
  refine hK.out _ _ (pw_cell_below hx hHeld) (fun hHeld => ?_)
  clear hK K
  clear hx
  refine norm_ (a' := ?_) ?_ ?_
  rotate_left
  · show Act.put _ (some 7) _ = _
    simp only [Act.put, List.setIfInBounds_toArray, List.set_cons_zero, List.set_cons_succ, i64_w, i32_w]
    rfl
  refine one_ (i := 8) (N := some 13) #[true, true, true, true, true, true, true, true, true, false, false, false] rfl rfl (by kernel_rfl) (by decide) (fun K hK => ?_)
  refine goes_ Try.func84 (by kernel_rfl) rfl #[.bool (decide (today < 60)), .int .i64 4] (by rfl) rfl rfl (by (try simp only [List.map_toArray, List.map_cons, List.map_nil]); first | done | rfl) ?_
  refine (HU.out _).mono ?_
  rintro e w' ⟨rfl, rfl⟩
  refine ⟨_, rfl, ?_⟩
  refine hK.out _ _ hHeld (fun hHeld => ?_)
  clear hK K
  refine norm_ (a' := ?_) ?_ ?_
  rotate_left
  · show Act.put _ (some 13) _ = _
    simp only [Act.put, List.setIfInBounds_toArray, List.set_cons_zero, List.set_cons_succ, i64_w, i32_w]
    rfl
  refine one_ (i := 9) (N := some 14) #[true, true, true, true, true, true, true, true, true, true, false, false] rfl rfl (by kernel_rfl) (by decide) (fun K hK => ?_)
  refine value_ (v := ?_) (w1 := ?_) (by rfl) rfl ?_ ?_
  rotate_left
  rotate_left
  · go_simp
    first | (refine ⟨?_, ?_⟩ <;> rfl) | rfl
  refine hK.out _ _ (pw_cell_below (below_alloc (Below.refl _ _) _) hHeld) (fun hHeld => ?_)
  clear hK K
  refine norm_ (a' := ?_) ?_ ?_
  rotate_left
  · show Act.put _ (some 14) _ = _
    simp only [Act.put, List.setIfInBounds_toArray, List.set_cons_zero, List.set_cons_succ, i64_w, i32_w]
    rfl
  refine one_ (i := 10) (N := some 15) #[true, true, true, true, true, true, true, true, true, true, true, false] rfl rfl (by kernel_rfl) (by decide) (fun K hK => ?_)
  refine goes_ Try.func83 (by kernel_rfl) rfl #[.slice (some ⟨_, 0, none⟩) 2 2] (by rfl) rfl rfl (by (try simp only [List.map_toArray, List.map_cons, List.map_nil]); first | done | rfl) ?_
  refine (firstOf_q [c1, c2] _ 2 2 _ rfl (by decide) (fun k hk => by
          have : k = 0 ∨ k = 1 := by omega
          rcases this with rfl | rfl <;> (go_simp; try rfl))).mono ?_
  rintro e w' ⟨rfl, rfl⟩
  refine ⟨_, rfl, ?_⟩
  refine hK.out _ _ hHeld (fun hHeld => ?_)
  clear hK K
  refine norm_ (a' := ?_) ?_ ?_
  rotate_left
  · show Act.put _ (some 15) _ = _
    simp only [Act.put, List.setIfInBounds_toArray, List.set_cons_zero, List.set_cons_succ, i64_w, i32_w]
    rfl
  refine pure_ (i := 11) (N := some 4) (v := ?_) (a' := ?_) #[true, true, true, true, true, true, true, true, true, true, true, true] rfl rfl (by kernel_rfl) (fun _ _ _ h => h) (Or.inl ⟨by rfl, ?_⟩) ?_ ?_
  rotate_left
  · intro w'
    go_simp
    with_reducible rfl
  rotate_left
  · simp only [Act.put, List.setIfInBounds_toArray, List.set_cons_zero, List.set_cons_succ, i64_w, i32_w]
    rfl
  refine done_ (by kernel_rfl) ?_
  go_wp2
  go_ret
  exact ⟨rfl, below_alloc HW2.out _⟩
set_option maxHeartbeats 1000000 in
set_option maxRecDepth 100000 in
theorem l05Day_no (N : Nat → Int) (m n c g hb cN : Nat) (A : Option Addr) (tub every today : Int) (hm : (m : Int) ≤ 9223372036854775806) (code : Int) (hcode : (if (needB N m && decide ((m : Int) = (n : Int))) = true then (if today = 60 then 4 else 0) else 2) = code) (hc0 : code ≠ 0) (w : World) (hH : Blk w hb 40 (hcells (some ⟨g, 0, none⟩) n c tub every today)) (hA : NdA w A m N) :
    Calls Try.prog 101 #[.pointer (some ⟨hb, 0, none⟩), .slice A m cN] w fun e w' => ∃ v : Value, e = .returned (.tuple #[v, .int .i64 code]) ∧ w'.ownsRow w.heap.size 2 1 v 0 [] ∧ Below w.heap.size w w' := by
  have HND := Aside0.mk (fun W h => l05Needs_calls N m n A cN hm W h)
  have HA := Aside0.mk hA
  have c0 := (hH.alloc (.cells #[] 2)).cell 0 (v := .slice (some ⟨g, 0, none⟩) n c) rfl
  have c3 := (hH.alloc (.cells #[] 2)).cell 3 (v := .int .i16 today) rfl
  have HO : Aside0 ((w.alloc (.cells #[] 2)).ownsRow w.heap.size 2 1 (.slice (some ⟨w.heap.size, 0, none⟩) 0 0) 0 []) := ⟨World.ownsRow_made w #[] 0 (by exact Nat.le_refl _) (by decide) (by rfl)⟩
  generalize (needB N m && decide ((m : Int) = (n : Int))) = b at *
  clear hH hA hm
  cases b
  · have e2 : code = 2 := by rw [← hcode]; rfl
    subst e2
    clear hcode hc0 c3
    go_enter Try.func101, Try.ntmps101
    go_wp2_with (go_at_call 100; refine (HND.out _ (HA.out.alloc _)).mono ?_; rintro e w1 ⟨rfl, rfl⟩)
    refine bodyPost_ret (results_tmp2 (by rfl) _ _ _) rfl ⟨_, rfl, HO.out, below_alloc (Below.refl _ _) _⟩
  · by_cases h6 : today = 60
    · subst h6
      have e2 : code = 4 := by rw [← hcode]; rfl
      subst e2
      clear hcode hc0
      go_enter Try.func101, Try.ntmps101
      go_wp2_with (go_at_call 100; refine (HND.out _ (HA.out.alloc _)).mono ?_; rintro e w1 ⟨rfl, rfl⟩)
      refine bodyPost_ret (results_tmp2 (by rfl) _ _ _) rfl ⟨_, rfl, HO.out, below_alloc (Below.refl _ _) _⟩
    · exfalso
      simp only [if_neg h6, if_true] at hcode
      exact hc0 hcode.symm
theorem l05Day_yes (f N : Nat → Int) (n c g hb gN cN : Nat) (tub every today : Int) (hn : 0 < n ∧ n ≤ 4) (hG : Fine f n) (hN : needB N n = true) (ht : 0 ≤ tub ∧ tub ≤ 1000) (hv : 1 ≤ every ∧ every ≤ 7) (hd : 0 ≤ today ∧ today < 60) (h1 : gN ≠ g) (h2 : gN ≠ hb) (h3 : hb ≠ g) (w : World) (hH : Blk w hb 40 (hcells (some ⟨g, 0, none⟩) n c tub every today)) (hB : Rw w g n f) (hNd : Nd w gN n N) :
    Calls Try.prog 101 #[.pointer (some ⟨hb, 0, none⟩), .slice (some ⟨gN, 0, none⟩) n cN] w fun e w' => ∃ v : Value, e = .returned (.tuple #[v, .int .i64 0]) ∧ w'.ownsRow w.heap.size 2 1 v n (nums .i64 (shL f N n)) ∧ Rw w' g n (dayF f N n tub every today) ∧ Blk w' hb 40 (hcells (some ⟨g, 0, none⟩) n c tub every (today + 1)) ∧ KpG w w' (fun k => k = g ∨ k = hb) :=
  l05Day_ok f N n c g hb gN cN tub every today hn hG ((needB_iff N n).1 hN) ht hv hd h1 h2 h3 (fun W h => (l05Needs_calls N n n (some ⟨gN, 0, none⟩) cN (by omega) W (fun _ => ⟨gN, rfl, h⟩)).mono (by
    rintro e w' ⟨rfl, rfl⟩
    exact ⟨by rw [hN, decide_eq_true rfl]; rfl, Below.refl _ _⟩)) w hH hB hNd
theorem day_yes (f N : Nat → Int) (n c g hb gN cN : Nat) (tub every today : Int) (hn : 0 < n ∧ n ≤ 4) (hG : Fine f n) (hN : needB N n = true) (ht : 0 ≤ tub ∧ tub ≤ 1000) (hv : 1 ≤ every ∧ every ≤ 7) (hd : 0 ≤ today ∧ today < 60) (h1 : gN ≠ g) (h2 : gN ≠ hb) (h3 : hb ≠ g) (w : World) (hH : Blk w hb 40 (hcells (some ⟨g, 0, none⟩) n c tub every today)) (hB : Rw w g n f) (hNd : Nd w gN n N) :
    Calls Try.prog 93 #[.pointer (some ⟨hb, 0, none⟩), .slice (some ⟨gN, 0, none⟩) n cN] w fun e w' => ∃ v : Value, e = .returned v ∧ w'.ownsRow w.heap.size 2 1 v n (nums .i64 (shL f N n)) ∧ Rw w' g n (dayF f N n tub every today) ∧ Blk w' hb 40 (hcells (some ⟨g, 0, none⟩) n c tub every (today + 1)) ∧ KpG w w' (fun k => k = g ∨ k = hb) :=
  day_ok f N n c g hb gN cN tub every today hn hG ((needB_iff N n).1 hN) ht hv hd h1 h2 h3 w hH hB hNd
end Go.Proofs.Ytjmnbikaijphlaa.X
