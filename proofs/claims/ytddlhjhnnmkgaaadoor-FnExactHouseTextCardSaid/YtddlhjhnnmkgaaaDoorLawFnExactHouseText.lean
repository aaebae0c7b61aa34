/- The row of the law FnExactHouseText: for every input it returns true, and each argument reads as it read before; out of the walk (<Name>WalkFnExactHouseText). Written by a program of the session's. -/
import Derived.Test.YtddlhjhnnmkgaaaDoorRows
import Derived.Test.YtddlhjhnnmkgaaaDoorCards
import Derived.Test.YtddlhjhnnmkgaaaDoorTie
import Derived.Test.YtddlhjhnnmkgaaaDoorWalkFnExactHouseText
import Derived.Test.YtddlhjhnnmkgaaaDoorOpen
import Derived.LaidLaws
import Derived.LaidSub
import Derived.Lay
import Derived.MakeChecks
import Derived.Lib.LaidTab
import Derived.SevenTiedAt
import Derived.ChangeSame
import Derived.ChangeVars
import Derived.WalkKit
import Derived.ProofKit
import Derived.OpenShut
import Derived.ShutString
import Derived.ChangeOld
import Derived.Below
import Derived.SizedLaws
import Derived.Carry
set_option linter.unusedVariables false
namespace Go.Proofs.YtddlhjhnnmkgaaaDoor.fnExactHouseText
open Go.ChangeShapes Go.WideShapes Go.ChangeAt Go.RowKit
open Go.ChangeMaps (open_string shut_string)
open Go.Proofs.YtddlhjhnnmkgaaaDoor.X Go.Proofs.YtddlhjhnnmkgaaaDoorW.PrintWords
theorem own : ownKnob Tryd.prog.godebug = none := by kernel_rfl
theorem laidOut : laidOutB Tryd.prog = true := by kernel_rfl
set_option maxRecDepth 100000 in
theorem opens0 : Opens Tryd.prog 26 (houseK 55) (fun x => houseQ x) := (opens_house Tryd.underlying26 (by kernel_rfl) Tryd.underlying22 (by kernel_rfl) (by kernel_rfl) (opens_stock Tryd.underlying55 (by kernel_rfl) Tryd.underlying42 (by kernel_rfl) Tryd.underlying23 (by kernel_rfl) Tryd.underlying21 (by kernel_rfl) ⟨rfl, rfl⟩ ⟨rfl, rfl⟩ ⟨rfl, rfl⟩ ⟨rfl, rfl⟩) Tryd.underlying23 (by kernel_rfl) Tryd.underlying24 (by kernel_rfl) ⟨rfl, rfl⟩ ⟨rfl, rfl⟩ ⟨rfl, rfl⟩ ⟨rfl, rfl⟩)
noncomputable def laidW (os : Os) : World := World.laidAll Tryd.prog os Rows.fnExactHouseTextRow.laid
theorem laid_met (os : Os) (args : Array Value) : laidMet Tryd.prog Rows.fnExactHouseTextRow.laid ((laidW os).forCall (fun _ _ => 0) ⟨#[], args, []⟩).memory := laidMet_laidAll args (by kernel_rfl) (by kernel_rfl)
theorem plainly (W : World) : laidMetH Tryd.prog Rows.fnExactHouseTextRow.laid W = laidMet Tryd.prog Rows.fnExactHouseTextRow.laid W := Go.MakeChecks.laidMetH_plain _ _ _ (by kernel_rfl)
theorem one : (Rows.fnExactHouseTextRow.laid.filter fun x => x.1 == "internal/strconv.uint64pow10") = [("internal/strconv.uint64pow10", Lib.tabData .u64 Lib.pow10Tab)] := by kernel_rfl
theorem tab {W : World} (h : laidMetH Tryd.prog Rows.fnExactHouseTextRow.laid W) : TabP W := by
  rw [plainly] at h
  have h2 := h.filter (fun x => x.1 == "internal/strconv.uint64pow10")
  rw [one] at h2
  exact Lib.tabIs_of_head (g := 0) (t := 100) (e := 90) (n := 20) (by kernel_rfl) (by kernel_rfl) (by kernel_rfl) (by kernel_rfl) (by kernel_rfl) (by kernel_rfl) h2
set_option maxRecDepth 100000 in
theorem lifted (os : Os) (started : os.Started) (H : Type) (enc : TypeId × Value → H) :
    ReturnsInHanded {} Tryd.checked os 3 .any (fun w args => (Rows.fnExactHouseTextSpec.pre enc Tryd.prog Tryd.f3 Rows.fnExactHouseTextRow.domain false w args ∧ laidMetH Tryd.prog Rows.fnExactHouseTextRow.laid w) ∧ sizedMet enc Tryd.prog Tryd.f3 (OpenSpec.ofChange Rows.fnExactHouseTextSpec) false w args) (Rows.fnExactHouseTextSpec.post enc Tryd.prog Tryd.f3 false true false false) := by
  refine returnsInHanded_of_change_and (C := Tryd.checked) (X := fun w _ => laidMetH Tryd.prog Rows.fnExactHouseTextRow.laid w) (fun _ _ _ hh h => h.of_heap hh) own started (by kernel_rfl) Tryd.func3
    (ChangeSpec.witness_at (enc := enc) (C := Tryd.checked) (os := os) (X := fun w _ => laidMetH Tryd.prog Rows.fnExactHouseTextRow.laid w) false (laidW os) #[.agg #[.slice none 0 0, .int .i16 0, .int .i8 0, .int .i16 0]] 8 (World.laidAll_os _ _ _) (by kernel_rfl) (by kernel_rfl) (by kernel_rfl) (by kernel_rfl) (by kernel_rfl) (by rw [plainly]; exact laid_met os _)) ?_
  intro W base args ds gs before hval0 hW hcnd hsz0 hL _
  have ht : TabP W := tab hL
  clear hL
  have hsz : (DataW.weightsEach Tryd.prog (Tryd.f3.params.toList ++ Rows.fnExactHouseTextSpec.plain.varTypes Tryd.prog) (ds ++ gs)).all (· ≤ reachBytes) = true := hsz0
  have hval : ∀ (j : Nat) t v, Tryd.f3.params[j]? = some t → args[j]? = some v → Value.okWide Tryd.prog W .any base t v := hval0
  have hW' := hW
  obtain ⟨p, q, hA0, hV, rfl, hfz, hnd⟩ := hW
  have hA : DataW.TrodAll enc Tryd.prog W 0 (fun _ => true) true Tryd.f3.params.toList args.toList ds p := hA0
  rw [Tryd.params3] at hA hval hsz
  obtain ⟨v0, vs0, d0, ds0, p0, q0, hargs, rfl, rfl, h0, r0⟩ := trodAll_cons hA
  obtain ⟨rfl, rfl, rfl⟩ := trodAll_nil r0
  obtain rfl : args = #[v0] := by cases args; simp_all
  obtain ⟨rfl, rfl⟩ := trodVars_none hV
  have k0 := h0
  have lt0 : ∀ x ∈ p0, x.block < W.heap.size := by obtain ⟨m, hm⟩ := k0; exact DataW.trod_lt m _ _ _ hm
  obtain ⟨x0, K0, q0⟩ := opens_arg opens0 h0
  obtain ⟨A0, n0, c0, f0, t0, v'0, d'0, e0, hm0, hA0, hR0, ht0, hv0, hd0⟩ := house_of K0 q0
  obtain rfl := agg_of Tryd.underlying26 (hval 0 26 v0 rfl rfl) e0
  clear hA0 hval0 hsz0 hsz
  refine (walk A0 n0 c0 f0 t0 v'0 d'0 W hm0 hA0 hR0 ht0 hv0 hd0 ht).mono fun e W' ⟨he, bel⟩ => ?_
  subst he
  exact ⟨_, rfl, _, _, _, [], _, [], hW', trodAll_mk1 (shut_bool Tryd.underlying4 _), (trodAll_cons_mk (Below.trod laidOut (by kernel_rfl) (of_decide_eq_true (by kernel_rfl)) k0 bel lt0) trodAll_mk0), rfl, bel.frame _, fun h => by cases h⟩
theorem proved : Rows.FnExactHouseTextSaid :=
  OpenClaim.holds_of_wide 3 Tryd.f3 rfl rfl rfl rfl rfl rfl rfl ⟨rfl, rfl, rfl, rfl, rfl⟩ rfl rfl rfl rfl rfl (by kernel_rfl) Tryd.func3 (by kernel_rfl)
    (of_decide_eq_true (by kernel_rfl)) (by unfold Func.isWrapper; first | (rw [if_pos (by decide +kernel)]; kernel_rfl) | (rw [if_neg (by decide +kernel)]; exact ⟨rfl, rfl⟩))
    (fun os started H enc _ => lifted os started H enc)
theorem card : Rows.FnExactHouseTextCardSaid :=
  Claim7.holds_tied_plain_at .later [] [.data, .data, .data] true (true, "8f378b46e999918d1bb690fca8457d8991403b497c32cf6282e3c2cc68210873") false proved (fun _ h => by cases h) (by kernel_rfl) (fun _ h => by cases h) fnExactHouseText_row_tie rfl ⟨rfl, rfl⟩ (by kernel_rfl) rfl
    (fun f fn hf hfn => by
      obtain rfl : f = 3 := Option.some.inj ((show Tryd.prog.funcNamed "loop.example/g01378/laws.FnExactHouseText" = some 3 by kernel_rfl).symm.trans hf) |>.symm
      obtain rfl : fn = Tryd.f3 := (Option.some.inj (Tryd.func3.symm.trans hfn)).symm
      exact ⟨by kernel_rfl, fun j t ht => by
        rw [Tryd.params3] at ht
        have hm : t ∈ [26] := List.mem_of_getElem? (by simpa using ht : ([26] : List Nat)[j]? = some t)
        have hall : ∀ t ∈ [26], Tryd.prog.wantsStandIn t = false := fun t ht => by
          simp only [List.mem_cons, List.not_mem_nil, or_false] at ht
          rcases ht with rfl <;> kernel_rfl
        exact hall t hm⟩)
    (by kernel_rfl)
end Go.Proofs.YtddlhjhnnmkgaaaDoor.fnExactHouseText
namespace Go.Proofs.YtddlhjhnnmkgaaaDoor
/-- The row, under a short name, for the claim. -/
theorem fnExactHouseText_holds : Rows.FnExactHouseTextCardSaid := fnExactHouseText.card
#print axioms fnExactHouseText_holds
end Go.Proofs.YtddlhjhnnmkgaaaDoor
