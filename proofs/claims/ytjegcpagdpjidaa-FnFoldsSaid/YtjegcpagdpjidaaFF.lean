/- Contracts of functions, and plain facts: what each call answers, and what it leaves as it was. -/
import Derived.Test.YtjegcpagdpjidaaG17
import Derived.Test.YtjegcpagdpjidaaG20
import Derived.Test.YtjegcpagdpjidaaF7
import Derived.Test.YtjegcpagdpjidaaEd
import Derived.Test.YtjegcpagdpjidaaX10
set_option linter.unusedVariables false
set_option linter.unusedSimpArgs false
namespace Go.Proofs.Ytjegcpagdpjidaa.X
open Go.RowKit Go.Proofs.YtjegcpagdpjidaaW.PrintWords Go.Proofs.YtjegcpagdpjidaaW.PrintLast Go.Proofs.YtjegcpagdpjidaaW.PrintMore
attribute [local go_sem] max2_int min2_int max_two min_two max_three min_three max_four min_four
/-- into how many parts folds divide -/
def prodF : List Int → Int
  | [] => 1
  | f :: fs => (2 + f / 2) * prodF fs
theorem f4 {f : Int} (h : 0 ≤ f ∧ f ≤ 3) : f = 0 ∨ f = 1 ∨ f = 2 ∨ f = 3 := by omega
theorem mkS_cases {x y : S26} {f : Int} (h : mkS x f = some y) (hf : 0 ≤ f ∧ f ≤ 3) :
    (f = 0 ∧ x.f0 % 2 = 0 ∧ x.f2 * 2 ≤ 144 ∧ y = ⟨x.f0 / 2, x.f1, x.f2 * 2⟩) ∨ (f = 1 ∧ x.f1 % 2 = 0 ∧ x.f2 * 2 ≤ 144 ∧ y = ⟨x.f0, x.f1 / 2, x.f2 * 2⟩) ∨ (f = 2 ∧ x.f0 % 3 = 0 ∧ x.f2 * 3 ≤ 144 ∧ y = ⟨x.f0 / 3, x.f1, x.f2 * 3⟩) ∨ (f = 3 ∧ x.f1 % 3 = 0 ∧ x.f2 * 3 ≤ 144 ∧ y = ⟨x.f0, x.f1 / 3, x.f2 * 3⟩) := by
  have h1 := mkS_eq h
  rcases f4 hf with rfl | rfl | rfl | rfl
  · rw [madeF_0] at h1
    split at h1
    · simp at h1
    · split at h1
      · simp at h1
      · simp only [Prod.mk.injEq] at h1
        exact .inl ⟨rfl, by omega, by omega, by cases y; simp_all⟩
  · rw [madeF_1] at h1
    split at h1
    · simp at h1
    · split at h1
      · simp at h1
      · simp only [Prod.mk.injEq] at h1
        exact .inr (.inl ⟨rfl, by omega, by omega, by cases y; simp_all⟩)
  · rw [madeF_2] at h1
    split at h1
    · simp at h1
    · split at h1
      · simp at h1
      · simp only [Prod.mk.injEq] at h1
        exact .inr (.inr (.inl ⟨rfl, by omega, by omega, by cases y; simp_all⟩))
  · rw [madeF_3] at h1
    split at h1
    · simp at h1
    · split at h1
      · simp at h1
      · simp only [Prod.mk.injEq] at h1
        exact .inr (.inr (.inr ⟨rfl, by omega, by omega, by cases y; simp_all⟩))
def areaS (s : S26) : Int := s.f0 * s.f1 * s.f2
theorem half_mul {a k : Int} (h : a % k = 0) : a / k * k = a := by
  have := Int.mul_ediv_add_emod a k
  rw [h, Int.add_zero, Int.mul_comm] at this
  exact this
theorem mkS_area {x y : S26} {f : Int} (h : mkS x f = some y) (hf : 0 ≤ f ∧ f ≤ 3) : areaS y = areaS x := by
  rcases mkS_cases h hf with ⟨_, h1, _, rfl⟩ | ⟨_, h1, _, rfl⟩ | ⟨_, h1, _, rfl⟩ | ⟨_, h1, _, rfl⟩
  · show x.f0 / 2 * x.f1 * (x.f2 * 2) = x.f0 * x.f1 * x.f2
    have := half_mul h1
    calc x.f0 / 2 * x.f1 * (x.f2 * 2) = (x.f0 / 2 * 2) * x.f1 * x.f2 := by ac_rfl
      _ = _ := by rw [this]
  · show x.f0 * (x.f1 / 2) * (x.f2 * 2) = x.f0 * x.f1 * x.f2
    have := half_mul h1
    calc x.f0 * (x.f1 / 2) * (x.f2 * 2) = x.f0 * (x.f1 / 2 * 2) * x.f2 := by ac_rfl
      _ = _ := by rw [this]
  · show x.f0 / 3 * x.f1 * (x.f2 * 3) = x.f0 * x.f1 * x.f2
    have := half_mul h1
    calc x.f0 / 3 * x.f1 * (x.f2 * 3) = (x.f0 / 3 * 3) * x.f1 * x.f2 := by ac_rfl
      _ = _ := by rw [this]
  · show x.f0 * (x.f1 / 3) * (x.f2 * 3) = x.f0 * x.f1 * x.f2
    have := half_mul h1
    calc x.f0 * (x.f1 / 3) * (x.f2 * 3) = x.f0 * (x.f1 / 3 * 3) * x.f2 := by ac_rfl
      _ = _ := by rw [this]
theorem Path.area {x y : S26} {L : List Int} (h : Path x L y) : areaS y = areaS x := by
  induction h with
  | nil x => rfl
  | cons h1 h2 h3 ih => rw [ih, mkS_area h1 h2]
theorem Path.layers {x y : S26} {L : List Int} (h : Path x L y) : y.f2 = x.f2 * prodF L := by
  induction h with
  | nil x => simp [prodF]
  | cons h1 h2 h3 ih =>
    rw [ih, prodF]
    rcases mkS_cases h1 h2 with ⟨rfl, _, _, rfl⟩ | ⟨rfl, _, _, rfl⟩ | ⟨rfl, _, _, rfl⟩ | ⟨rfl, _, _, rfl⟩
    · simp only; rw [Int.mul_assoc]; rfl
    · simp only; rw [Int.mul_assoc]; rfl
    · simp only; rw [Int.mul_assoc]; rfl
    · simp only; rw [Int.mul_assoc]; rfl
theorem prodF_pos : ∀ {L : List Int}, (∀ f ∈ L, 0 ≤ f ∧ f ≤ 3) → 1 ≤ prodF L ∧ (L ≠ [] → 2 ≤ prodF L)
  | [], _ => ⟨by decide, fun h => absurd rfl h⟩
  | f :: fs, h => by
    have h1 := (prodF_pos (L := fs) (fun g hg => h g (List.mem_cons_of_mem _ hg))).1
    have h2 := h f (List.mem_cons_self ..)
    have h3 : 2 ≤ prodF (f :: fs) := by
      rw [prodF]
      rcases f4 h2 with rfl | rfl | rfl | rfl
      · show 2 ≤ 2 * prodF fs; omega
      · show 2 ≤ 2 * prodF fs; omega
      · show 2 ≤ 3 * prodF fs; omega
      · show 2 ≤ 3 * prodF fs; omega
    exact ⟨by omega, fun _ => h3⟩
/-- each edge lies within bounds, and each side has one at the least -/
def EB (e : Int × Int × Int × Int) (P : Int) : Prop := (0 ≤ e.1 ∧ e.1 ≤ 2 * P) ∧ (0 ≤ e.2.1 ∧ e.2.1 ≤ 2 * P) ∧ (0 ≤ e.2.2.1 ∧ e.2.2.1 ≤ 2 * P) ∧ (0 ≤ e.2.2.2 ∧ e.2.2.2 ≤ 2 * P) ∧ 1 ≤ e.1 + e.2.1 ∧ 1 ≤ e.2.2.1 + e.2.2.2
theorem stepE_bd {e : Int × Int × Int × Int} {P : Int} (h : EB e P) (hP : 1 ≤ P ∧ P ≤ 1000000) {f : Int} (hf : 0 ≤ f ∧ f ≤ 3) : EB (stepE f e) ((2 + f / 2) * P) := by
  obtain ⟨a, b, c, d⟩ := e
  obtain ⟨⟨h1, h2⟩, ⟨h3, h4⟩, ⟨h5, h6⟩, ⟨h7, h8⟩, h9, h10⟩ := h
  simp only at h1 h2 h3 h4 h5 h6 h7 h8 h9 h10
  rcases f4 hf with rfl | rfl | rfl | rfl
  · show EB (wrap64 (a + b), 0, wrap64 (c * 2), wrap64 (d * 2)) (2 * P)
    rw [w64i (by omega) (by omega), w64i (by omega) (by omega), w64i (by omega) (by omega)]
    unfold EB; simp only; omega
  · show EB (wrap64 (a * 2), wrap64 (b * 2), wrap64 (c + d), 0) (2 * P)
    rw [w64i (by omega) (by omega), w64i (by omega) (by omega), w64i (by omega) (by omega)]
    unfold EB; simp only; omega
  · show EB (b, a, wrap64 (c * 3), wrap64 (d * 3)) (3 * P)
    rw [w64i (by omega) (by omega), w64i (by omega) (by omega)]
    unfold EB; simp only; omega
  · show EB (wrap64 (a * 3), wrap64 (b * 3), d, c) (3 * P)
    rw [w64i (by omega) (by omega), w64i (by omega) (by omega)]
    unfold EB; simp only; omega
theorem edgesE_bd : ∀ (L : List Int) (e : Int × Int × Int × Int) (P : Int), EB e P → 1 ≤ P → (∀ f ∈ L, 0 ≤ f ∧ f ≤ 3) → P * prodF L ≤ 1000000 → EB (edgesE L e) (P * prodF L)
  | [], e, P, h, _, _, _ => by simpa [edgesE, prodF] using h
  | f :: fs, e, P, h, hP, ha, hm => by
    have h1 := (prodF_pos (L := fs) (fun g hg => ha g (List.mem_cons_of_mem _ hg))).1
    have h2 := ha f (List.mem_cons_self ..)
    have h3 : 1 ≤ (2 + f / 2) * P ∧ P ≤ (2 + f / 2) * P := by
      rcases f4 h2 with rfl | rfl | rfl | rfl
      · show 1 ≤ 2 * P ∧ P ≤ 2 * P; omega
      · show 1 ≤ 2 * P ∧ P ≤ 2 * P; omega
      · show 1 ≤ 3 * P ∧ P ≤ 3 * P; omega
      · show 1 ≤ 3 * P ∧ P ≤ 3 * P; omega
    have e1 : P * prodF (f :: fs) = (2 + f / 2) * P * prodF fs := by rw [prodF]; ac_rfl
    rw [e1] at hm ⊢
    have h4 : (2 + f / 2) * P ≤ (2 + f / 2) * P * prodF fs := by
      have := Int.mul_le_mul_of_nonneg_left h1 (show 0 ≤ (2 + f / 2) * P by omega)
      rwa [Int.mul_one] at this
    exact edgesE_bd fs _ _ (stepE_bd h ⟨hP, by omega⟩ h2) h3.1 (fun g hg => ha g (List.mem_cons_of_mem _ hg)) hm
theorem edges_bd {L : List Int} (ha : ∀ f ∈ L, 0 ≤ f ∧ f ≤ 3) (hm : prodF L ≤ 144) : EB (edgesE L (1, 1, 1, 1)) (prodF L) := by
  have := edgesE_bd L (1, 1, 1, 1) 1 (by unfold EB; simp) (by omega) ha (by omega)
  rwa [Int.one_mul] at this
theorem areF_all {L : List Int} (ha : ∀ f ∈ L, 0 ≤ f ∧ f ≤ 3) : areF L = true := by
  unfold areF
  rw [List.all_eq_true]
  intro f hf
  have := ha f hf
  simp [this]
theorem allF_all {L : List Int} (ha : ∀ f ∈ L, 0 ≤ f ∧ f ≤ 3) : allF L = true := by
  unfold allF
  rw [List.all_eq_true]
  intro f hf
  exact decide_eq_true (ha f hf)
theorem area_f {s : S26} (h : ShS s) : impl_AreaOf.f s.f0 s.f1 s.f2 = some (areaS s, 0) := by
  unfold impl_AreaOf.f
  have hb := Sh.bd h
  rw [validSheet_f hb.1 hb.2.1 hb.2.2, Option.bind_some, if_pos (decide_eq_true (show Sh s.f0 s.f1 s.f2 from h))]
  obtain ⟨h1, h2, h3, h4, h5, h6⟩ := h
  have m1 : s.f0 * s.f1 ≤ 1296 * 1296 := Int.mul_le_mul h2 h4 (by omega) (by omega)
  have m2 : 0 ≤ s.f0 * s.f1 := Int.mul_nonneg (by omega) (by omega)
  have m3 : s.f0 * s.f1 * s.f2 ≤ 1296 * 1296 * 144 := Int.mul_le_mul m1 h6 (by omega) (by omega)
  have m4 : 0 ≤ s.f0 * s.f1 * s.f2 := Int.mul_nonneg m2 (by omega)
  rw [w64i (n := s.f0) (by omega) (by omega), w64i (n := s.f1) (by omega) (by omega), w64i (n := s.f2) (by omega) (by omega), w64i (n := s.f0 * s.f1) (by omega) (by omega), w64i (by omega) (by omega)]
  rfl
theorem area_pos {s : S26} (h : ShS s) : 1 ≤ areaS s := by
  obtain ⟨h1, h2, h3, h4, h5, h6⟩ := h
  have m : 0 < s.f0 * s.f1 := Int.mul_pos (by omega) (by omega)
  have : 0 < s.f0 * s.f1 * s.f2 := Int.mul_pos m (by omega)
  unfold areaS
  omega
theorem bt_nums {l : List Int} {i : Nat} (h : i < l.length) (hb : 0 ≤ l[i] ∧ l[i] ≤ 255) : bt (strOfNums l) i = l[i] := by
  have hs : (strOfNums l).size = l.length := by unfold strOfNums; simp [ByteArray.size]
  rw [← bt_at _ _ (by rw [hs]; exact h)]
  have e : ∀ h', (strOfNums l)[i]'h' = UInt8.ofNat l[i].toNat := fun h' => by
    show ((l.map fun n => UInt8.ofNat n.toNat).toArray)[i]'(by simpa using h) = _
    simp
  show (((strOfNums l)[i]'(by rw [hs]; exact h)).toNat : Int) = _
  rw [e, UInt8.toNat_ofNat']
  omega
theorem size_nums (l : List Int) : (strOfNums l).size = l.length := by unfold strOfNums; simp [ByteArray.size]
theorem foldOf_sg {f : Int} (h : 0 ≤ f ∧ f ≤ 3) : foldOf (bt SG f) = f ∧ 0 ≤ bt SG f ∧ bt SG f ≤ 255 := by
  rcases f4 h with rfl | rfl | rfl | rfl <;> decide
theorem readF_text {L : List Int} (ha : ∀ f ∈ L, 0 ≤ f ∧ f ≤ 3) (hl : L.length ≤ 12) : ∀ (d i : Nat), i + d = L.length → readF (strOfNums (letF L)) d i (L.take i) = (L, 0) := by
  intro d
  induction d with
  | zero =>
    intro i hi
    rw [readF, List.take_of_length_le (by omega)]
  | succ d ih =>
    intro i hi
    have hlt : i < L.length := by omega
    have hm := ha L[i] (List.getElem_mem _)
    have hs := foldOf_sg hm
    have hlen : (letF L).length = L.length := by unfold letF; simp
    have hg : (letF L)[i]'(by omega) = bt SG L[i] := by unfold letF; simp
    have hb : bt (strOfNums (letF L)) (i : Int) = bt SG L[i] := by
      rw [bt_nums (by omega) (by rw [hg]; exact hs.2), hg]
    rw [readF, hb, hs.1, if_neg (by rw [List.length_take]; omega), show L.take i ++ [L[i]] = L.take (i + 1) from by rw [List.take_add_one, List.getElem?_eq_getElem hlt]; rfl]
    exact ih (i + 1) (by omega)
theorem read_text {L : List Int} (ha : ∀ f ∈ L, 0 ≤ f ∧ f ≤ 3) (hl : L.length ≤ 12) : impl_ReadFolds.f (textF L) = some (L, 0) := by
  have ht : textF L = strOfNums (letF L) := by unfold textF; rw [if_pos (by rw [allF_all ha, decide_eq_true hl]; rfl)]
  unfold impl_ReadFolds.f
  rw [ht]
  have hlen : (letF L).length = L.length := by unfold letF; simp
  rw [if_pos (by rw [size_nums]; omega), size_nums, hlen]
  have := readF_text ha hl L.length 0 (by omega)
  rw [List.take_zero] at this
  rw [this]
theorem same_loop (l : List Int) (hn : l.length ≤ 4611686018427387903) : ∀ (d k i : Nat), i + d = l.length → d < k → spec_l00Same.l0 k l l i = some true := by
  intro d
  induction d with
  | zero =>
    intro k i hi hk
    obtain ⟨k, rfl⟩ : ∃ m, k = m + 1 := ⟨k - 1, by omega⟩
    rw [spec_l00Same.l0, if_neg (by omega)]
  | succ d ih =>
    intro k i hi hk
    obtain ⟨k, rfl⟩ : ∃ m, k = m + 1 := ⟨k - 1, by omega⟩
    rw [spec_l00Same.l0, if_pos (by omega), if_pos (by omega), if_pos (by omega), if_pos rfl, w64s (by omega)]
    exact ih k (i + 1) (by omega) (by omega)
theorem same_f (l : List Int) (hn : l.length ≤ 4611686018427387903) : spec_A2Same.f (l.length + 1) l l = some true := by
  unfold spec_A2Same.f spec_l00Same.f
  have h := same_loop l hn l.length (l.length + 1) 0 (by omega) (by omega)
  rw [if_pos rfl, show spec_l00Same.l0 (l.length + 1) l l 0 = some true by simpa using h]
  rfl
theorem has_loop (s : List Int) (v : Int) (hn : s.length ≤ 4611686018427387903) : ∀ (d k i : Nat), i + d = s.length → d < k → spec_l00Has.l0 k s v i = some (decide (v ∈ s.drop i)) := by
  intro d
  induction d with
  | zero =>
    intro k i hi hk
    obtain ⟨k, rfl⟩ : ∃ m, k = m + 1 := ⟨k - 1, by omega⟩
    rw [spec_l00Has.l0, if_neg (by omega), List.drop_eq_nil_of_le (by omega)]
    simp
  | succ d ih =>
    intro k i hi hk
    obtain ⟨k, rfl⟩ : ∃ m, k = m + 1 := ⟨k - 1, by omega⟩
    rw [spec_l00Has.l0, if_pos (by omega), if_pos (by omega), rd_eq (by omega), List.drop_eq_getElem_cons (by omega)]
    by_cases h : s[i] = v
    · rw [if_pos h]; simp [h]
    · rw [if_neg h, w64s (by omega), ih k (i + 1) (by omega) (by omega)]
      generalize List.drop (i + 1) s = T
      have h' : ¬ v = s[i] := fun e => h e.symm
      generalize s[i] = u at *
      simp [h']
theorem has_f (s : List Int) (v : Int) (hn : s.length ≤ 4611686018427387903) : spec_A2Has.f (s.length + 1) s v = some (decide (v ∈ s)) := by
  unfold spec_A2Has.f spec_l00Has.f
  have h := has_loop s v hn s.length (s.length + 1) 0 (by omega) (by omega)
  rw [show spec_l00Has.l0 (s.length + 1) s v 0 = some (decide (v ∈ s)) by simpa using h]
  rfl
theorem poss_mem {s : S26} (h : ShS s) {f : Int} (hf : 0 ≤ f ∧ f ≤ 3) : decide (f ∈ (possibleF s.f0 s.f1 s.f2).1) = decide ((foldF s.f0 s.f1 s.f2 f).2.2.2 = 0) := by
  unfold possibleF foldF
  rw [if_pos (show Sh s.f0 s.f1 s.f2 from h), if_pos (show Sh s.f0 s.f1 s.f2 from h)]
  simp only [possF]
  rcases f4 hf with rfl | rfl | rfl | rfl <;> (rw [Bool.eq_iff_iff]; simp only [decide_eq_true_eq]; simp [List.mem_append])
end Go.Proofs.Ytjegcpagdpjidaa.X
