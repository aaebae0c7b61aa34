/- The row of the law FnExactWhoGetsSun: for every input it returns true, and each argument reads as it read before; out of the walk (<Name>WalkFnExactWhoGetsSun). Written by a program of the session's. -/
import Derived.Test.YtdepnieanfjhjaaDoorRows
import Derived.Test.YtdepnieanfjhjaaDoorCards
import Derived.Test.YtdepnieanfjhjaaDoorTie
import Derived.Test.YtdepnieanfjhjaaDoorWalkFnExactWhoGetsSun
import Derived.Test.YtdepnieanfjhjaaDoorOpen
import Derived.LaidLaws
import Derived.LaidSub
import Derived.Lay
import Derived.MakeChecks
import Derived.Lib.LaidTab
import Derived.SevenTiedAt
import Derived.ChangeSame
import Derived.ChangeVars
import Derived.WalkKit
import Derived.ProofKit
import Derived.OpenShut
import Derived.ShutString
import Derived.ChangeOld
import Derived.Below
import Derived.SizedLaws
import Derived.Carry
set_option linter.unusedVariables false
namespace Go.Proofs.YtdepnieanfjhjaaDoor.fnExactWhoGetsSun
open Go.ChangeShapes Go.WideShapes Go.ChangeAt Go.RowKit
open Go.ChangeMaps (open_string shut_string)
open Go.Proofs.YtdepnieanfjhjaaDoor.X Go.Proofs.YtdepnieanfjhjaaDoorW.PrintWords
theorem own : ownKnob Tryd.prog.godebug = none := by kernel_rfl
theorem laidOut : laidOutB Tryd.prog = true := by kernel_rfl
set_option maxRecDepth 100000 in
theorem opens0 : Opens Tryd.prog 25 dayK (fun x => dayQ x) := (opens_day Tryd.underlying25 (by kernel_rfl) Tryd.underlying23 (by kernel_rfl) Tryd.underlying22 (by kernel_rfl) ⟨rfl, rfl⟩ ⟨rfl, rfl⟩ ⟨rfl, rfl⟩)
theorem opens1 : Opens Tryd.prog 26 (Kd.slice 56 k56) (fun x => ∀ x_ ∈ x, (Lit.int .i16 x_.f0).wf = true ∧ (Lit.int .i8 x_.f1).wf = true) := (opens_slice Tryd.underlying26 (by kernel_rfl) (opens_iso (fun x : S56 => (x.f0, x.f1)) (fun a => (⟨a.1, a.2⟩ : S56)) (fun a => rfl) (opens_struct Tryd.underlying56 (by kernel_rfl) (opensFs_cons rfl (by kernel_rfl) (opens_int Tryd.underlying50) (opensFs_last rfl (by kernel_rfl) (opens_int Tryd.underlying22))))))
noncomputable def laidW (os : Os) : World := World.laidAll Tryd.prog os Rows.fnExactWhoGetsSunRow.laid
theorem laid_met (os : Os) (args : Array Value) : laidMet Tryd.prog Rows.fnExactWhoGetsSunRow.laid ((laidW os).forCall (fun _ _ => 0) ⟨#[], args, []⟩).memory := laidMet_laidAll args (by kernel_rfl) (by kernel_rfl)
theorem plainly (W : World) : laidMetH Tryd.prog Rows.fnExactWhoGetsSunRow.laid W = laidMet Tryd.prog Rows.fnExactWhoGetsSunRow.laid W := Go.MakeChecks.laidMetH_plain _ _ _ (by kernel_rfl)
theorem one : (Rows.fnExactWhoGetsSunRow.laid.filter fun x => x.1 == "math/bits.deBruijn64tab") = [("math/bits.deBruijn64tab", Lib.tabData .u8 (Lib.deBruijn64tab.map Int.ofNat))] := by kernel_rfl
theorem tab {W : World} (h : laidMetH Tryd.prog Rows.fnExactWhoGetsSunRow.laid W) : TabD W := by
  rw [plainly] at h
  have h2 := h.filter (fun x => x.1 == "math/bits.deBruijn64tab")
  rw [one] at h2
  exact Lib.tabIs_of_head (g := 1) (t := 90) (e := 5) (n := 64) (by kernel_rfl) (by kernel_rfl) (by kernel_rfl) (by kernel_rfl) (by kernel_rfl) (by kernel_rfl) h2
set_option maxRecDepth 100000 in
theorem lifted (os : Os) (started : os.Started) (H : Type) (enc : TypeId × Value → H) :
    ReturnsInHanded {} Tryd.checked os 3 .any (fun w args => (Rows.fnExactWhoGetsSunSpec.pre enc Tryd.prog Tryd.f3 Rows.fnExactWhoGetsSunRow.domain false w args ∧ laidMetH Tryd.prog Rows.fnExactWhoGetsSunRow.laid w) ∧ sizedMet enc Tryd.prog Tryd.f3 (OpenSpec.ofChange Rows.fnExactWhoGetsSunSpec) false w args) (Rows.fnExactWhoGetsSunSpec.post enc Tryd.prog Tryd.f3 false true false false) := by
  refine returnsInHanded_of_change_and (C := Tryd.checked) (X := fun w _ => laidMetH Tryd.prog Rows.fnExactWhoGetsSunRow.laid w) (fun _ _ _ hh h => h.of_heap hh) own started (by kernel_rfl) Tryd.func3
    (ChangeSpec.witness_at (enc := enc) (C := Tryd.checked) (os := os) (X := fun w _ => laidMetH Tryd.prog Rows.fnExactWhoGetsSunRow.laid w) false (laidW os) #[.agg (nums .i8 (List.replicate 72 0)).toArray, .slice none 0 0, .int .i64 0, .int .i64 0, .int .i64 0] 8 (World.laidAll_os _ _ _) (by kernel_rfl) (by kernel_rfl) (by kernel_rfl) (by kernel_rfl) (by kernel_rfl) (by rw [plainly]; exact laid_met os _)) ?_
  intro W base args ds gs before hval0 hW hcnd hsz0 hL _
  have ht : TabD W := tab hL
  clear hL
  have hsz : (DataW.weightsEach Tryd.prog (Tryd.f3.params.toList ++ Rows.fnExactWhoGetsSunSpec.plain.varTypes Tryd.prog) (ds ++ gs)).all (· ≤ reachBytes) = true := hsz0
  have hval : ∀ (j : Nat) t v, Tryd.f3.params[j]? = some t → args[j]? = some v → Value.okWide Tryd.prog W .any base t v := hval0
  have hW' := hW
  obtain ⟨p, q, hA0, hV, rfl, hfz, hnd⟩ := hW
  have hA : DataW.TrodAll enc Tryd.prog W 0 (fun _ => true) true Tryd.f3.params.toList args.toList ds p := hA0
  rw [Tryd.params3] at hA hval hsz
  obtain ⟨v0, vs0, d0, ds0, p0, q0, hargs, rfl, rfl, h0, r0⟩ := trodAll_cons hA
  obtain ⟨v1, vs1, d1, ds1, p1, q1, rfl, rfl, rfl, h1, r1⟩ := trodAll_cons r0
  obtain ⟨v2, vs2, d2, ds2, p2, q2, rfl, rfl, rfl, h2, r2⟩ := trodAll_cons r1
  obtain ⟨v3, vs3, d3, ds3, p3, q3, rfl, rfl, rfl, h3, r3⟩ := trodAll_cons r2
  obtain ⟨v4, vs4, d4, ds4, p4, q4, rfl, rfl, rfl, h4, r4⟩ := trodAll_cons r3
  obtain ⟨rfl, rfl, rfl⟩ := trodAll_nil r4
  obtain rfl : args = #[v0, v1, v2, v3, v4] := by cases args; simp_all
  obtain ⟨rfl, rfl⟩ := trodVars_none hV
  have k0 := h0
  have lt0 : ∀ x ∈ p0, x.block < W.heap.size := by obtain ⟨m, hm⟩ := k0; exact DataW.trod_lt m _ _ _ hm
  obtain ⟨x0, K0, q0⟩ := opens_arg opens0 h0
  obtain ⟨a0, e0, n0, w0⟩ := day_of K0 q0
  obtain rfl := agg_of_arr Tryd.underlying25 (hval 0 25 v0 rfl rfl) e0
  have k1 := h1
  have lt1 : ∀ x ∈ p1, x.block < W.heap.size := by obtain ⟨m, hm⟩ := k1; exact DataW.trod_lt m _ _ _ hm
  obtain ⟨l1, ⟨A1, c1, e1, hc1, hr1⟩, w1⟩ := opens_arg opens1 h1
  obtain ⟨b1, len1, cap1, rfl⟩ := okWide_slice Tryd.underlying26 (hval 1 26 v1 rfl rfl)
  obtain ⟨rfl, rfl, rfl⟩ : b1 = A1 ∧ len1 = l1.length ∧ cap1 = c1 := by simpa [Value.cells] using e1
  have k2 := h2
  have lt2 : ∀ x ∈ p2, x.block < W.heap.size := by obtain ⟨m, hm⟩ := k2; exact DataW.trod_lt m _ _ _ hm
  obtain ⟨a2, rfl, rfl, rfl, w2⟩ := open_int Tryd.underlying2 (hval 2 2 v2 rfl rfl) h2
  have k3 := h3
  have lt3 : ∀ x ∈ p3, x.block < W.heap.size := by obtain ⟨m, hm⟩ := k3; exact DataW.trod_lt m _ _ _ hm
  obtain ⟨a3, rfl, rfl, rfl, w3⟩ := open_int Tryd.underlying2 (hval 3 2 v3 rfl rfl) h3
  have k4 := h4
  have lt4 : ∀ x ∈ p4, x.block < W.heap.size := by obtain ⟨m, hm⟩ := k4; exact DataW.trod_lt m _ _ _ hm
  obtain ⟨a4, rfl, rfl, rfl, w4⟩ := open_int Tryd.underlying2 (hval 4 2 v4 rfl rfl) h4
  clear hA0 hval0 hsz0 hsz
  refine (walk a0 b1 cap1 l1 a2 a3 a4 W n0 w0 hr1 hc1 w1 w2 w3 w4 ht).mono fun e W' ⟨he, bel⟩ => ?_
  subst he
  exact ⟨_, rfl, _, _, _, [], _, [], hW', trodAll_mk1 (shut_bool Tryd.underlying4 _), (trodAll_cons_mk (Below.trod laidOut (by kernel_rfl) (of_decide_eq_true (by kernel_rfl)) k0 bel lt0) (trodAll_cons_mk (Below.trod laidOut (by kernel_rfl) (of_decide_eq_true (by kernel_rfl)) k1 bel lt1) (trodAll_cons_mk (Below.trod laidOut (by kernel_rfl) (of_decide_eq_true (by kernel_rfl)) k2 bel lt2) (trodAll_cons_mk (Below.trod laidOut (by kernel_rfl) (of_decide_eq_true (by kernel_rfl)) k3 bel lt3) (trodAll_cons_mk (Below.trod laidOut (by kernel_rfl) (of_decide_eq_true (by kernel_rfl)) k4 bel lt4) trodAll_mk0))))), rfl, bel.frame _, fun h => by cases h⟩
theorem proved : Rows.FnExactWhoGetsSunSaid :=
  OpenClaim.holds_of_wide 3 Tryd.f3 rfl rfl rfl rfl rfl rfl rfl ⟨rfl, rfl, rfl, rfl, rfl⟩ rfl rfl rfl rfl rfl (by kernel_rfl) Tryd.func3 (by kernel_rfl)
    (of_decide_eq_true (by kernel_rfl)) (by unfold Func.isWrapper; first | (rw [if_pos (by decide +kernel)]; kernel_rfl) | (rw [if_neg (by decide +kernel)]; exact ⟨rfl, rfl⟩))
    (fun os started H enc _ => lifted os started H enc)
theorem card : Rows.FnExactWhoGetsSunCardSaid :=
  Claim7.holds_tied_plain_at .later [] [.data, .data] true (true, "3e1723e716a0e9007ca839dec31b75852eb40c746a2900fbb615e476696fb556") false proved (fun _ h => by cases h) (by kernel_rfl) (fun _ h => by cases h) fnExactWhoGetsSun_row_tie rfl ⟨rfl, rfl⟩ (by kernel_rfl) rfl
    (fun f fn hf hfn => by
      obtain rfl : f = 3 := Option.some.inj ((show Tryd.prog.funcNamed "loop.example/g01378/laws.FnExactWhoGetsSun" = some 3 by kernel_rfl).symm.trans hf) |>.symm
      obtain rfl : fn = Tryd.f3 := (Option.some.inj (Tryd.func3.symm.trans hfn)).symm
      exact ⟨by kernel_rfl, fun j t ht => by
        rw [Tryd.params3] at ht
        have hm : t ∈ [25, 26, 2, 2, 2] := List.mem_of_getElem? (by simpa using ht : ([25, 26, 2, 2, 2] : List Nat)[j]? = some t)
        have hall : ∀ t ∈ [25, 26, 2, 2, 2], Tryd.prog.wantsStandIn t = false := fun t ht => by
          simp only [List.mem_cons, List.not_mem_nil, or_false] at ht
          rcases ht with rfl | rfl | rfl | rfl | rfl <;> kernel_rfl
        exact hall t hm⟩)
    (by kernel_rfl)
end Go.Proofs.YtdepnieanfjhjaaDoor.fnExactWhoGetsSun
namespace Go.Proofs.YtdepnieanfjhjaaDoor
/-- The row, under a short name, for the claim. -/
theorem fnExactWhoGetsSun_holds : Rows.FnExactWhoGetsSunCardSaid := fnExactWhoGetsSun.card
#print axioms fnExactWhoGetsSun_holds
end Go.Proofs.YtdepnieanfjhjaaDoor
