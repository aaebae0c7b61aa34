/- Contracts of functions, and plain facts: what each call answers, and what it leaves as it was. -/
import Derived.Test.YtdepnieanfjhjaaDoorX5
import Derived.Test.YtdepnieanfjhjaaDoorG4
set_option linter.unusedVariables false
set_option linter.unusedSimpArgs false
namespace Go.Proofs.YtdepnieanfjhjaaDoor.X
open Go.RowKit Go.Proofs.YtdepnieanfjhjaaDoorW.PrintWords Go.Proofs.YtdepnieanfjhjaaDoorW.PrintLast Go.Proofs.YtdepnieanfjhjaaDoorW.PrintMore
attribute [local go_sem] max2_int min2_int max_two min_two max_three min_three max_four min_four
/-- an order of rows of numbers: the first place where they differ, else the shorter one -/
def befL : List Int → List Int → Bool
  | [], [] => false
  | [], _ :: _ => true
  | _ :: _, [] => false
  | x :: xs, y :: ys => if x = y then befL xs ys else decide (x < y)
theorem befL_irr : ∀ a : List Int, befL a a = false
  | [] => rfl
  | x :: xs => by simp [befL, befL_irr xs]
theorem befL_tri : ∀ a b : List Int, befL a b = false → befL b a = false → a = b
  | [], [], _, _ => rfl
  | [], _ :: _, h, _ => by cases h
  | _ :: _, [], _, h => by cases h
  | x :: xs, y :: ys, h1, h2 => by
    by_cases e : x = y
    · subst e
      rw [befL, if_pos rfl] at h1 h2
      rw [befL_tri xs ys h1 h2]
    · rw [befL, if_neg e] at h1
      rw [befL, if_neg (fun h => e h.symm)] at h2
      have := of_decide_eq_false h1
      have := of_decide_eq_false h2
      omega
theorem befL_trans : ∀ a b c : List Int, befL a b = true → befL b c = true → befL a c = true
  | [], [], _, h, _ => by cases h
  | [], _ :: _, [], _, h => by cases h
  | [], _ :: _, _ :: _, _, _ => rfl
  | _ :: _, [], _, h, _ => by cases h
  | _ :: _, _ :: _, [], _, h => by cases h
  | x :: xs, y :: ys, z :: zs, h1, h2 => by
    unfold befL at h1 h2 ⊢
    by_cases e1 : x = y
    · subst e1
      rw [if_pos rfl] at h1
      by_cases e2 : x = z
      · subst e2
        rw [if_pos rfl] at h2 ⊢
        exact befL_trans xs ys zs h1 h2
      · rw [if_neg e2] at h2 ⊢
        exact h2
    · rw [if_neg e1] at h1
      have a1 := of_decide_eq_true h1
      by_cases e2 : y = z
      · subst e2
        rw [if_neg e1]
        exact h1
      · rw [if_neg e2] at h2
        have a2 := of_decide_eq_true h2
        rw [if_neg (by omega)]
        exact decide_eq_true (by omega)
/-- what is better: what costs less, else what comes first -/
def btW (s : Int) (o : List Int) (l : Int) (b : List Int) : Prop := s < l ∨ (s = l ∧ befL o b = true)
theorem btW_irr (s : Int) (o : List Int) : ¬ btW s o s o := by
  unfold btW
  rw [befL_irr]
  simp
theorem btW_trans {s1 s2 s3 : Int} {o1 o2 o3 : List Int} (h1 : btW s1 o1 s2 o2) (h2 : btW s2 o2 s3 o3) : btW s1 o1 s3 o3 := by
  rcases h1 with h1 | ⟨h1, g1⟩ <;> rcases h2 with h2 | ⟨h2, g2⟩
  · exact .inl (by omega)
  · exact .inl (by omega)
  · exact .inl (by omega)
  · exact .inr ⟨by omega, befL_trans _ _ _ g1 g2⟩
theorem btW_tri {s1 s2 : Int} {o1 o2 : List Int} (h1 : ¬ btW s1 o1 s2 o2) (h2 : ¬ btW s2 o2 s1 o1) : s1 = s2 ∧ o1 = o2 := by
  unfold btW at h1 h2
  have e : s1 = s2 := by omega
  subst e
  refine ⟨rfl, befL_tri _ _ ?_ ?_⟩
  · cases h : befL o1 o2
    · rfl
    · exact absurd (.inr ⟨rfl, h⟩) h1
  · cases h : befL o2 o1
    · rfl
    · exact absurd (.inr ⟨rfl, h⟩) h2
abbrev BSt := Option (List Int × Int)
def updW (σ : BSt) (o : List Int) (s : Int) : BSt :=
  match σ with
  | none => some (o, s)
  | some (b, l) => if s < l ∨ (s = l ∧ befL o b = true) then some (o, s) else some (b, l)
/-- the things of a set of six at most -/
def ownL (m : Nat) : List Int := ((List.range 6).filter fun i => m.testBit i).map Int.ofNat
theorem ownL_mem {m i : Nat} (hi : i < 6) : (i : Int) ∈ ownL m ↔ m.testBit i = true := by
  unfold ownL
  rw [List.mem_map]
  constructor
  · rintro ⟨a, ha, e⟩
    have : a = i := by have := Int.ofNat.inj e; exact this
    subst this
    exact (List.mem_filter.1 ha).2
  · intro h
    exact ⟨i, List.mem_filter.2 ⟨List.mem_range.2 hi, h⟩, rfl⟩
theorem ownL_add : ∀ k : Nat, k < 6 → ∀ m : Nat, m < 2 ^ k → ownL (m + 2 ^ k) = ownL m ++ [(k : Int)] := by decide +kernel
theorem bit_add : ∀ k : Nat, k < 6 → ∀ m : Nat, m < 2 ^ k → (m + 2 ^ k).testBit k = true ∧ m.testBit k = false ∧ ∀ i, i < k → (m + 2 ^ k).testBit i = m.testBit i := by decide +kernel
theorem ownL_mod : ∀ k, k < 7 → ∀ m, m < 64 → (ownL (m % 2 ^ k)).length ≤ (ownL m).length := by decide +kernel
theorem ownL_range : ∀ m, m < 64 → (ownL m).length ≤ 6 := by decide +kernel
/-- what the first k things cost, when those of the set m lie in the sun -/
def costB (c : Nat → Bool → Int) (m : Nat) : Nat → Int
  | 0 => 0
  | k + 1 => costB c m k + c k (m.testBit k)
theorem costB_congr (c : Nat → Bool → Int) {m m' : Nat} : ∀ k, (∀ i, i < k → m.testBit i = m'.testBit i) → costB c m k = costB c m' k
  | 0, _ => rfl
  | k + 1, h => by rw [costB, costB, costB_congr c k (fun i hi => h i (by omega)), h k (by omega)]
def CstOk (c : Nat → Bool → Int) : Prop := ∀ i b, 0 ≤ c i b ∧ c i b ≤ 1000
theorem costB_range {c : Nat → Bool → Int} (h : CstOk c) (m : Nat) : ∀ k, 0 ≤ costB c m k ∧ costB c m k ≤ 1000 * k
  | 0 => by simp [costB]
  | k + 1 => by
    have h1 := costB_range h m k
    have h2 := h k (m.testBit k)
    rw [costB]
    omega
section
variable (c : Nat → Bool → Int) (n : Nat) (places : Int)
/-- the best one of the sets of V was found -/
def InvW (V : Nat → Prop) (σ : BSt) : Prop := (σ = none ∧ ∀ m, ¬ V m) ∨ ∃ m, V m ∧ σ = some (ownL m, costB c m n) ∧ ∀ m', V m' → ¬ btW (costB c m' n) (ownL m') (costB c m n) (ownL m)
theorem InvW.iff {V V' : Nat → Prop} {σ : BSt} (h : InvW c n V σ) (hV : ∀ m, V m ↔ V' m) : InvW c n V' σ := by
  rcases h with ⟨h1, h2⟩ | ⟨m, h1, h2, h3⟩
  · exact .inl ⟨h1, fun m hm => h2 m ((hV m).2 hm)⟩
  · exact .inr ⟨m, (hV m).1 h1, h2, fun m' hm' => h3 m' ((hV m').2 hm')⟩
theorem InvW.upd {V : Nat → Prop} {σ : BSt} (h : InvW c n V σ) (m : Nat) : InvW c n (fun x => V x ∨ x = m) (updW σ (ownL m) (costB c m n)) := by
  rcases h with ⟨rfl, h2⟩ | ⟨m0, h1, rfl, h3⟩
  · exact .inr ⟨m, .inr rfl, rfl, fun m' hm' => by
      rcases hm' with hm' | rfl
      · exact absurd hm' (h2 m')
      · exact btW_irr _ _⟩
  · unfold updW
    simp only
    by_cases hb : btW (costB c m n) (ownL m) (costB c m0 n) (ownL m0)
    · rw [if_pos (show _ ∨ _ from hb)]
      exact .inr ⟨m, .inr rfl, rfl, fun m' hm' hb' => by
        rcases hm' with hm' | rfl
        · exact h3 m' hm' (btW_trans hb' hb)
        · exact btW_irr _ _ hb'⟩
    · rw [if_neg (show ¬ (_ ∨ _) from hb)]
      exact .inr ⟨m0, .inl h1, rfl, fun m' hm' => by
        rcases hm' with hm' | rfl
        · exact h3 m' hm'
        · exact hb⟩
theorem InvW.uniq {V : Nat → Prop} {σ σ' : BSt} (h : InvW c n V σ) (h' : InvW c n V σ') : σ = σ' := by
  rcases h with ⟨rfl, h2⟩ | ⟨m, h1, rfl, h3⟩ <;> rcases h' with ⟨rfl, g2⟩ | ⟨m', g1, rfl, g3⟩
  · rfl
  · exact absurd g1 (h2 m')
  · exact absurd h1 (g2 m)
  · obtain ⟨e1, e2⟩ := btW_tri (h3 m' g1) (g3 m h1)
    rw [e1, e2]
/-- the program: one set after the other -/
def scanW : Nat → BSt
  | 0 => none
  | m + 1 => if ((ownL m).length : Int) ≤ places then updW (scanW m) (ownL m) (costB c m n) else scanW m
theorem scanW_inv : ∀ M, InvW c n (fun x => x < M ∧ ((ownL x).length : Int) ≤ places) (scanW c n places M)
  | 0 => .inl ⟨rfl, fun m h => by omega⟩
  | M + 1 => by
    have ih := scanW_inv M
    unfold scanW
    split
    · rename_i h
      refine (ih.upd c n M).iff c n (fun x => ?_)
      constructor
      · rintro (⟨h1, h2⟩ | rfl)
        · exact ⟨by omega, h2⟩
        · exact ⟨by omega, h⟩
      · rintro ⟨h1, h2⟩
        by_cases e : x = M
        · exact .inr e
        · exact .inl ⟨by omega, h2⟩
    · rename_i h
      refine ih.iff c n (fun x => ?_)
      constructor
      · rintro ⟨h1, h2⟩; exact ⟨by omega, h2⟩
      · rintro ⟨h1, h2⟩
        refine ⟨?_, h2⟩
        by_cases e : x = M
        · subst e; exact absurd h2 h
        · omega
/-- the reference: one thing after the other, in the sun first -/
def wsR : Nat → Nat → Int → BSt → BSt
  | 0, m, s, σ => updW σ (ownL m) s
  | d + 1, m, s, σ => wsR d m (s + c (n - (d + 1)) false) (if ((ownL m).length : Int) < places then wsR d (m + 2 ^ (n - (d + 1))) (s + c (n - (d + 1)) true) σ else σ)
theorem wsR_inv (hn : n ≤ 6) : ∀ (d m : Nat) (s : Int) (σ : BSt) (V : Nat → Prop), d ≤ n → m < 2 ^ (n - d) → s = costB c m (n - d) → ((ownL m).length : Int) ≤ places → InvW c n V σ →
    InvW c n (fun x => V x ∨ (x % 2 ^ (n - d) = m ∧ x < 2 ^ n ∧ ((ownL x).length : Int) ≤ places)) (wsR c n places d m s σ)
  | 0, m, s, σ, V, _, hm, hs, hl, h => by
    subst hs
    refine (h.upd c n m).iff c n (fun x => ?_)
    rw [Nat.sub_zero] at hm ⊢
    constructor
    · rintro (h1 | rfl)
      · exact .inl h1
      · exact .inr ⟨Nat.mod_eq_of_lt hm, hm, hl⟩
    · rintro (h1 | ⟨h1, h2, h3⟩)
      · exact .inl h1
      · rw [Nat.mod_eq_of_lt h2] at h1; exact .inr h1
  | d + 1, m, s, σ, V, hd, hm, hs, hl, h => by
    obtain ⟨k, hk⟩ : ∃ k, k = n - (d + 1) := ⟨_, rfl⟩
    have hk1 : n - d = k + 1 := by omega
    rw [← hk] at hm hs
    have hk6 : k < 6 := by omega
    have hb := bit_add k hk6 m hm
    have hp : 2 ^ (k + 1) = 2 ^ k + 2 ^ k := by rw [Nat.pow_succ]; omega
    have hlen : (ownL (m + 2 ^ k)).length = (ownL m).length + 1 := by rw [ownL_add k hk6 m hm]; simp
    have hmod : ∀ x, x % 2 ^ (k + 1) = m ∨ x % 2 ^ (k + 1) = m + 2 ^ k ↔ x % 2 ^ k = m := fun x => by
      have e := Nat.mod_pow_succ (x := x) (b := 2) (k := k)
      have hlt : x % 2 ^ k < 2 ^ k := Nat.mod_lt _ (Nat.two_pow_pos k)
      rcases Nat.mod_two_eq_zero_or_one (x / 2 ^ k) with h0 | h0
      · rw [h0, Nat.mul_zero, Nat.add_zero] at e
        constructor
        · rintro (h1 | h1) <;> omega
        · intro h1; exact .inl (by omega)
      · rw [h0, Nat.mul_one] at e
        constructor
        · rintro (h1 | h1) <;> omega
        · intro h1; exact .inr (by omega)
    have hx64 : 2 ^ n ≤ 64 := by
      have : 2 ^ n ≤ 2 ^ 6 := Nat.pow_le_pow_right (by decide) hn
      simpa using this
    unfold wsR
    rw [← hk]
    by_cases hp1 : ((ownL m).length : Int) < places
    · rw [if_pos hp1]
      have s1 : s + c k true = costB c (m + 2 ^ k) (n - d) := by
        rw [hk1, costB, hb.1, hs, costB_congr c k (fun i hi => (hb.2.2 i hi).symm)]
      have s2 : s + c k false = costB c m (n - d) := by rw [hk1, costB, hb.2.1, hs]
      have i1 := wsR_inv hn d (m + 2 ^ k) _ σ V (by omega) (by rw [hk1, hp]; omega) s1 (by rw [hlen]; omega) h
      have i2 := wsR_inv hn d m _ _ _ (by omega) (by rw [hk1, hp]; omega) s2 hl i1
      refine i2.iff c n (fun x => ?_)
      rw [hk1]
      have := hmod x
      constructor
      · rintro ((h1 | ⟨h1, h2, h3⟩) | ⟨h1, h2, h3⟩)
        · exact .inl h1
        · exact .inr ⟨this.1 (.inr h1), h2, h3⟩
        · exact .inr ⟨this.1 (.inl h1), h2, h3⟩
      · rintro (h1 | ⟨h1, h2, h3⟩)
        · exact .inl (.inl h1)
        · rcases this.2 h1 with h1 | h1
          · exact .inr ⟨h1, h2, h3⟩
          · exact .inl (.inr ⟨h1, h2, h3⟩)
    · rw [if_neg hp1]
      have s2 : s + c k false = costB c m (n - d) := by rw [hk1, costB, hb.2.1, hs]
      have i2 := wsR_inv hn d m _ σ V (by omega) (by rw [hk1, hp]; omega) s2 hl h
      refine i2.iff c n (fun x => ?_)
      rw [hk1]
      have := hmod x
      constructor
      · rintro (h1 | ⟨h1, h2, h3⟩)
        · exact .inl h1
        · exact .inr ⟨this.1 (.inl h1), h2, h3⟩
      · rintro (h1 | ⟨h1, h2, h3⟩)
        · exact .inl h1
        · rcases this.2 h1 with h1 | h1
          · exact .inr ⟨h1, h2, h3⟩
          · have := ownL_mod (k + 1) (by omega) x (by omega)
            rw [h1, hlen] at this
            omega
/-- both come to the same -/
theorem ws_scan (hn : n ≤ 6) (hp : 0 ≤ places) : wsR c n places n 0 0 none = scanW c n places (2 ^ n) := by
  have h1 := wsR_inv c n places hn n 0 0 none (fun _ => False) (Nat.le_refl _) (by simp) (by simp [costB]) (by rw [show ownL 0 = [] by decide +kernel]; simpa using hp) (.inl ⟨rfl, fun _ h => h⟩)
  have h2 := scanW_inv c n places (2 ^ n)
  refine InvW.uniq c n (h1.iff c n (fun x => ?_)) h2
  rw [Nat.sub_self, Nat.pow_zero]
  constructor
  · rintro (h | ⟨_, h, g⟩)
    · exact h.elim
    · exact ⟨h, g⟩
  · rintro ⟨h, g⟩
    exact .inr ⟨Nat.mod_one x, h, g⟩
end
end Go.Proofs.YtdepnieanfjhjaaDoor.X
