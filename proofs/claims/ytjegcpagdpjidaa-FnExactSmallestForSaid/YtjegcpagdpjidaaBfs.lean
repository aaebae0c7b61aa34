/- Contracts of functions, and plain facts: what each call answers, and what it leaves as it was. -/
import Derived.Test.YtjegcpagdpjidaaF3
set_option linter.unusedVariables false
set_option linter.unusedSimpArgs false
namespace Go.Proofs.Ytjegcpagdpjidaa.X
open Go.RowKit Go.Proofs.YtjegcpagdpjidaaW.PrintWords Go.Proofs.YtjegcpagdpjidaaW.PrintLast Go.Proofs.YtjegcpagdpjidaaW.PrintMore
attribute [local go_sem] max2_int min2_int max_two min_two max_three min_three max_four min_four
theorem nodup_bound : ∀ (M : Nat) (l : List Nat), l.Nodup → (∀ x ∈ l, x < M) → l.length ≤ M
  | 0, l, _, h => by
    cases l with
    | nil => simp
    | cons x l => exact absurd (h x (List.mem_cons_self ..)) (by omega)
  | M + 1, l, hn, h => by
    by_cases hm : M ∈ l
    · have h1 := nodup_bound M (l.erase M) (hn.erase M) (fun x hx => by
        have h2 := (hn.mem_erase_iff).1 hx
        have := h x h2.2
        have := h2.1
        omega)
      have h2 := List.length_erase_of_mem hm
      have h3 := List.length_pos_of_mem hm
      omega
    · have h1 := nodup_bound M l hn (fun x hx => by
        have := h x hx
        have : x ≠ M := fun e => hm (e ▸ hx)
        omega)
      omega
section
variable {α : Type} [DecidableEq α] (mk : α → Int → Option α)
/-- one fold tried at a sheet that was come to -/
def bTry (x : α × List Int) (l : List (α × List Int)) (j : Int) : List (α × List Int) :=
  match mk x.1 j with
  | none => l
  | some y => if y ∈ l.map (·.1) then l else l ++ [(y, x.2 ++ [j])]
/-- the first m folds tried -/
def bJ (x : α × List Int) (l : List (α × List Int)) : Nat → List (α × List Int)
  | 0 => l
  | m + 1 => bTry mk x (bJ x l m) (m : Int)
/-- sheet number i is looked at -/
def bEx (l : List (α × List Int)) (i : Nat) : List (α × List Int) :=
  match l[i]? with
  | none => l
  | some x => if x.2.length = 12 then l else bJ mk x l 4
/-- the sheets that are known when the first k were looked at -/
def bN (s : α) : Nat → List (α × List Int)
  | 0 => [(s, [])]
  | k + 1 => bEx mk (bN s k) k
theorem bTry_pre (x : α × List Int) (l : List (α × List Int)) (j : Int) : l <+: bTry mk x l j := by
  unfold bTry
  split
  · exact List.prefix_refl _
  · split
    · exact List.prefix_refl _
    · exact List.prefix_append _ _
theorem bJ_pre (x : α × List Int) (l : List (α × List Int)) : ∀ m, l <+: bJ mk x l m
  | 0 => List.prefix_refl _
  | m + 1 => (bJ_pre x l m).trans (bTry_pre mk x _ _)
theorem bEx_pre (l : List (α × List Int)) (i : Nat) : l <+: bEx mk l i := by
  unfold bEx
  split
  · exact List.prefix_refl _
  · split
    · exact List.prefix_refl _
    · exact bJ_pre mk _ _ _
theorem bN_pre (s : α) (k : Nat) : ∀ d, bN mk s k <+: bN mk s (k + d)
  | 0 => List.prefix_refl _
  | d + 1 => (bN_pre s k d).trans (bEx_pre mk _ _)
theorem bN_get (s : α) {k j i : Nat} (h : k ≤ j) (hi : i < (bN mk s k).length) : (bN mk s j)[i]? = (bN mk s k)[i]? := by
  obtain ⟨d, rfl⟩ := Nat.exists_eq_add_of_le h
  obtain ⟨t, ht⟩ := bN_pre mk s k d
  rw [← ht, List.getElem?_append_left hi]
/-- what holds of all sheets that were come to, for folds that keep P -/
theorem bN_all (P : α × List Int → Prop) (s : α) (h0 : P (s, [])) (hstep : ∀ x j y, P x → x.2.length ≠ 12 → mk x.1 j = some y → 0 ≤ j → j < 4 → P (y, x.2 ++ [j])) : ∀ k, ∀ x ∈ bN mk s k, P x
  | 0, x, hx => by
    simp only [bN, List.mem_singleton] at hx
    subst hx; exact h0
  | k + 1, x, hx => by
    have ih := bN_all P s h0 hstep k
    unfold bN bEx at hx
    split at hx
    · exact ih x hx
    · rename_i y hy
      have hyP := ih y (List.mem_of_getElem? hy)
      split at hx
      · exact ih x hx
      · rename_i hne
        have : ∀ m, m ≤ 4 → ∀ z ∈ bJ mk y (bN mk s k) m, P z := by
          intro m
          induction m with
          | zero => intro _; exact ih
          | succ m ihm =>
            intro hm z hz
            unfold bJ bTry at hz
            split at hz
            · exact ihm (by omega) z hz
            · rename_i w hw
              split at hz
              · exact ihm (by omega) z hz
              · rw [List.mem_append, List.mem_singleton] at hz
                rcases hz with hz | rfl
                · exact ihm (by omega) z hz
                · exact hstep y _ w hyP hne hw (by omega) (by omega)
        exact this 4 (by omega) x hx
theorem bN_nodup (s : α) : ∀ k, ((bN mk s k).map (·.1)).Nodup
  | 0 => by simp [bN]
  | k + 1 => by
    have ih := bN_nodup s k
    unfold bN bEx
    split
    · exact ih
    · rename_i y hy
      split
      · exact ih
      · have : ∀ m, ((bJ mk y (bN mk s k) m).map (·.1)).Nodup := by
          intro m
          induction m with
          | zero => exact ih
          | succ m ihm =>
            unfold bJ bTry
            split
            · exact ihm
            · split
              · exact ihm
              · rename_i w hw hnm
                rw [List.map_append, List.nodup_append]
                refine ⟨ihm, by simp, ?_⟩
                intro a ha b hb
                simp only [List.map_cons, List.map_nil, List.mem_singleton] at hb
                subst hb
                exact fun e => hnm (e ▸ ha)
        exact this 4
theorem bN_len (enc : α → Nat) (M : Nat) (Q : α → Prop) (s : α) (h0 : Q s) (hstep : ∀ x j y, Q x → mk x j = some y → 0 ≤ j → j < 4 → Q y) (hinj : ∀ x y, Q x → Q y → enc x = enc y → x = y) (hM : ∀ x, Q x → enc x < M) (k : Nat) : (bN mk s k).length ≤ M := by
  have hall := bN_all mk (fun x => Q x.1) s h0 (fun x j y hx _ hy h1 h2 => hstep x.1 j y hx hy h1 h2) k
  have hnd := bN_nodup mk s k
  have h1 : (((bN mk s k).map (·.1)).map enc).Nodup := by
    have hq : ∀ x ∈ (bN mk s k).map (·.1), Q x := by
      intro x hx
      rw [List.mem_map] at hx
      obtain ⟨y, hy, rfl⟩ := hx
      exact hall y hy
    generalize (bN mk s k).map (·.1) = l at hnd hq
    induction l with
    | nil => simp
    | cons x l ih =>
      rw [List.nodup_cons] at hnd
      rw [List.map_cons, List.nodup_cons]
      refine ⟨fun hx => ?_, ih hnd.2 (fun y hy => hq y (List.mem_cons_of_mem _ hy))⟩
      rw [List.mem_map] at hx
      obtain ⟨y, hy, e⟩ := hx
      have := hinj y x (hq y (List.mem_cons_of_mem _ hy)) (hq x (List.mem_cons_self ..)) e
      subst this
      exact hnd.1 hy
  have h2 := nodup_bound M _ h1 (fun x hx => by
    simp only [List.mem_map] at hx
    obtain ⟨y, ⟨z, hz, rfl⟩, rfl⟩ := hx
    exact hM _ (hall z hz))
  simpa using h2
/-- the search comes to an end -/
theorem bN_ends (s : α) (M : Nat) (hb : ∀ k, (bN mk s k).length ≤ M) : ∃ K, K ≤ M ∧ (bN mk s K).length = K ∧ ∀ k, k < K → k < (bN mk s k).length := by
  have key : ∀ d k, M ≤ k + d → (∀ j, j < k → j < (bN mk s j).length) → k ≤ (bN mk s k).length → ∃ K, K ≤ M ∧ (bN mk s K).length = K ∧ ∀ j, j < K → j < (bN mk s j).length := by
    intro d
    induction d with
    | zero =>
      intro k hk hj hle
      have := hb k
      exact ⟨k, by omega, by omega, hj⟩
    | succ d ih =>
      intro k hk hj hle
      by_cases he : k < (bN mk s k).length
      · refine ih (k + 1) (by omega) (fun j hjk => ?_) ?_
        · rcases Nat.lt_or_ge j k with h | h
          · exact hj j h
          · have : j = k := by omega
            subst this; exact he
        · have := (bN_pre mk s k 1).length_le
          omega
      · have := hb k
        exact ⟨k, by omega, by omega, hj⟩
  exact key M 0 (by omega) (fun j hj => by omega) (by omega)
/-- how many folds: not fewer than those of one looked at before, at most one more than those of one that is still to be looked at; twelve at most -/
theorem bN_deep (s : α) : ∀ k, (bN mk s k).Pairwise (fun x y => x.2.length ≤ y.2.length) ∧ (∀ x ∈ bN mk s k, ∀ y ∈ (bN mk s k).drop k, x.2.length ≤ y.2.length + 1) ∧ ∀ x ∈ bN mk s k, x.2.length ≤ 12
  | 0 => by simp [bN]
  | k + 1 => by
    obtain ⟨h1, h2, h3⟩ := bN_deep s k
    unfold bN bEx
    split
    · rename_i hn
      refine ⟨h1, fun x hx y hy => ?_, h3⟩
      have : (bN mk s k).length ≤ k := by simpa using hn
      rw [List.drop_eq_nil_of_le (by omega)] at hy
      cases hy
    · rename_i y hy
      have hk : k < (bN mk s k).length := (List.getElem?_eq_some_iff.1 hy).1
      have hyd : y ∈ (bN mk s k).drop k := by
        rw [List.drop_eq_getElem_cons hk]
        rw [(List.getElem?_eq_some_iff.1 hy).2]
        exact List.mem_cons_self ..
      have hym := List.mem_of_getElem? hy
      have hsub : ∀ z ∈ (bN mk s k).drop (k + 1), z ∈ (bN mk s k).drop k := fun z hz => by
        rw [List.drop_eq_getElem_cons hk]
        exact List.mem_cons_of_mem _ hz
      split
      · exact ⟨h1, fun x hx z hz => h2 x hx z (hsub z hz), h3⟩
      · rename_i hne
        have hy12 := h3 y hym
        -- those behind the place k have as many folds as y at the least
        have hge : ∀ z ∈ (bN mk s k).drop (k + 1), y.2.length ≤ z.2.length := by
          intro z hz
          have h4 := h1.sublist (List.drop_sublist k _)
          rw [List.drop_eq_getElem_cons hk, (List.getElem?_eq_some_iff.1 hy).2, List.pairwise_cons] at h4
          exact h4.1 z hz
        have : ∀ m, (bJ mk y (bN mk s k) m).Pairwise (fun x y => x.2.length ≤ y.2.length) ∧ (∀ x ∈ bJ mk y (bN mk s k) m, x.2.length ≤ y.2.length + 1 ∧ x.2.length ≤ 12) ∧ (∀ z ∈ (bJ mk y (bN mk s k) m).drop (k + 1), y.2.length ≤ z.2.length) ∧ k < (bJ mk y (bN mk s k) m).length := by
          intro m
          induction m with
          | zero => exact ⟨h1, fun x hx => ⟨h2 x hx y hyd, h3 x hx⟩, hge, hk⟩
          | succ m ihm =>
            obtain ⟨a1, a2, a3, a4⟩ := ihm
            unfold bJ bTry
            split
            · exact ⟨a1, a2, a3, a4⟩
            · split
              · exact ⟨a1, a2, a3, a4⟩
              · refine ⟨?_, ?_, ?_, ?_⟩
                · rw [List.pairwise_append]
                  refine ⟨a1, by simp, fun x hx z hz => ?_⟩
                  rw [List.mem_singleton] at hz
                  subst hz
                  have := (a2 x hx).1
                  simp; omega
                · intro x hx
                  rw [List.mem_append, List.mem_singleton] at hx
                  rcases hx with hx | rfl
                  · exact a2 x hx
                  · simp; omega
                · intro z hz
                  rw [List.drop_append_of_le_length (by omega), List.mem_append, List.mem_singleton] at hz
                  rcases hz with hz | rfl
                  · exact a3 z hz
                  · simp
                · simp; omega
        obtain ⟨a1, a2, a3, _⟩ := this 4
        exact ⟨a1, fun x hx z hz => by have := (a2 x hx).1; have := a3 z hz; omega, fun x hx => (a2 x hx).2⟩
/-- from a sheet of twelve folds on nothing new is found -/
theorem bN_stay (s : α) {i : Nat} {x : α × List Int} (hx : (bN mk s i)[i]? = some x) (h12 : x.2.length = 12) : ∀ d, bN mk s (i + d) = bN mk s i
  | 0 => rfl
  | d + 1 => by
    have ih := bN_stay s hx h12 d
    show bEx mk (bN mk s (i + d)) (i + d) = _
    rw [ih]
    unfold bEx
    split
    · rfl
    · rename_i y hy
      have hi : i < (bN mk s i).length := (List.getElem?_eq_some_iff.1 hx).1
      have hid : i + d < (bN mk s i).length := (List.getElem?_eq_some_iff.1 hy).1
      have hp := (bN_deep mk s i).1
      have h12y := (bN_deep mk s i).2.2 y (List.mem_of_getElem? hy)
      have hge : x.2.length ≤ y.2.length := by
        rcases Nat.eq_zero_or_pos d with rfl | hd
        · rw [Nat.add_zero, hx] at hy
          rw [Option.some.inj hy]; exact Nat.le_refl _
        · have := List.pairwise_iff_getElem.1 hp i (i + d) hi hid (by omega)
          rw [(List.getElem?_eq_some_iff.1 hx).2, (List.getElem?_eq_some_iff.1 hy).2] at this
          exact this
      rw [if_pos (by omega)]
end
instance decS : DecidableEq S26 := fun a b => decidable_of_iff (a.f0 = b.f0 ∧ a.f1 = b.f1 ∧ a.f2 = b.f2) ⟨fun ⟨h0, h1, h2⟩ => by cases a; cases b; simp_all, fun h => by subst h; exact ⟨rfl, rfl, rfl⟩⟩
/-- a fold made of a sheet, if it can be made -/
def mkS (s : S26) (j : Int) : Option S26 := if (madeF s.f0 s.f1 s.f2 j).2.2.2 = 0 then some ⟨(madeF s.f0 s.f1 s.f2 j).1, (madeF s.f0 s.f1 s.f2 j).2.1, (madeF s.f0 s.f1 s.f2 j).2.2.1⟩ else none
def ShS (s : S26) : Prop := Sh s.f0 s.f1 s.f2
theorem mkS_sh {s y : S26} {j : Int} (h : ShS s) (hy : mkS s j = some y) : ShS y := by
  unfold mkS at hy
  split at hy
  · rename_i h0
    obtain rfl := Option.some.inj hy
    exact madeF_sh h j h0
  · cases hy
def encS (s : S26) : Nat := ((s.f0 - 1).toNat * 1296 + (s.f1 - 1).toNat) * 144 + (s.f2 - 1).toNat
theorem encS_lt {s : S26} (h : ShS s) : encS s < 241864704 := by
  unfold ShS Sh at h
  unfold encS
  omega
theorem encS_inj {s y : S26} (h : ShS s) (hy : ShS y) (e : encS s = encS y) : s = y := by
  unfold ShS Sh at h hy
  unfold encS at e
  have h0 : s.f0 = y.f0 := by omega
  have h1 : s.f1 = y.f1 := by omega
  have h2 : s.f2 = y.f2 := by omega
  cases s; cases y; simp_all
theorem bN_M {s : S26} (h : ShS s) (k : Nat) : (bN mkS s k).length ≤ 241864704 :=
  bN_len mkS encS 241864704 ShS s h (fun x j y hx hy _ _ => mkS_sh hx hy) (fun x y hx hy e => encS_inj hx hy e) (fun x hx => encS_lt hx) k
theorem bN_sh {s : S26} (h : ShS s) (k : Nat) : ∀ x ∈ bN mkS s k, ShS x.1 :=
  bN_all mkS (fun x => ShS x.1) s h (fun x j y hx _ hy _ _ => mkS_sh hx hy) k
/-- all sheets that folds make of one, with the first folds that make each -/
def IsAll (s : S26) (l : List (S26 × List Int)) (K : Nat) : Prop := l = bN mkS s K ∧ K ≤ 241864704 ∧ l.length = K ∧ ∀ k, k < K → k < (bN mkS s k).length
theorem all_ex {s : S26} (h : ShS s) : ∃ K, IsAll s (bN mkS s K) K := by
  obtain ⟨K, h1, h2, h3⟩ := bN_ends mkS s 241864704 (bN_M h)
  exact ⟨K, rfl, h1, h2, h3⟩
theorem all_uniq {s : S26} {l l' : List (S26 × List Int)} {K K' : Nat} (h : IsAll s l K) (h' : IsAll s l' K') : K = K' := by
  obtain ⟨rfl, a1, a2, a3⟩ := h
  obtain ⟨rfl, b1, b2, b3⟩ := h'
  rcases Nat.lt_trichotomy K K' with h | h | h
  · have := b3 K h; omega
  · exact h
  · have := a3 K' h; omega
/-- the search, with so many rounds at the most -/
def bRun (l : List (S26 × List Int)) (i : Nat) : Nat → List (S26 × List Int)
  | 0 => l
  | n + 1 => if i < l.length then bRun (bEx mkS l i) (i + 1) n else l
def allS (s : S26) : List (S26 × List Int) := bRun [(s, [])] 0 241864705
theorem bRun_all {s : S26} {l : List (S26 × List Int)} {K : Nat} (h : IsAll s l K) : ∀ d k n, k + d = K → d < n → bRun (bN mkS s k) k n = l := by
  obtain ⟨rfl, h1, h2, h3⟩ := h
  intro d
  induction d with
  | zero =>
    intro k n hk hn
    obtain ⟨n, rfl⟩ : ∃ m, n = m + 1 := ⟨n - 1, by omega⟩
    have : k = K := by omega
    subst this
    rw [bRun, if_neg (by omega)]
  | succ d ih =>
    intro k n hk hn
    obtain ⟨n, rfl⟩ : ∃ m, n = m + 1 := ⟨n - 1, by omega⟩
    rw [bRun, if_pos (h3 k (by omega))]
    exact ih (k + 1) n (by omega) (by omega)
theorem allK_ex {s : S26} (h : ShS s) : ∃ K, IsAll s (allS s) K := by
  obtain ⟨K, hK⟩ := all_ex h
  have := bRun_all hK K 0 241864705 (by omega) (by have := hK.2.1; omega)
  exact ⟨K, by unfold allS; rw [show [(s, [])] = bN mkS s 0 from rfl, this]; exact hK⟩
def nd (x : S26 × List Int) : S63 := ⟨x.1, x.2⟩
end Go.Proofs.Ytjegcpagdpjidaa.X
