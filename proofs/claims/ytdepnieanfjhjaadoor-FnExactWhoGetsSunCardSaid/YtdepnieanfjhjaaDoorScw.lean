/- Contracts of functions, and plain facts: what each call answers, and what it leaves as it was. -/
import Derived.Test.YtdepnieanfjhjaaDoorSws
import Derived.Test.YtdepnieanfjhjaaDoorCourse
import Derived.Test.YtdepnieanfjhjaaDoorG4
import Derived.Test.YtdepnieanfjhjaaDoorX9
import Derived.Test.YtdepnieanfjhjaaDoorX14
import Derived.Test.YtdepnieanfjhjaaDoorSb
set_option linter.unusedVariables false
set_option linter.unusedSimpArgs false
namespace Go.Proofs.YtdepnieanfjhjaaDoor.X
open Go.RowKit Go.Proofs.YtdepnieanfjhjaaDoorW.PrintWords Go.Proofs.YtdepnieanfjhjaaDoorW.PrintLast Go.Proofs.YtdepnieanfjhjaaDoorW.PrintMore
attribute [local go_sem] max2_int min2_int max_two min_two max_three min_three max_four min_four
theorem take_load {P : Program} {a : Act} {oi : Oper} {w' : World} (ty : TypeId) (x : Operand) (ho : oi.op = .load ty x) (p v : Value) (hx : a.eval x = p) (hr : (Instr.loadAt ty p).run P w' = .ok v w') : (execOp a.eval oi).run P w' = .ok (.value v) w' := by
  subst hx
  simp only [execOp, ho]
  simp [Sem.run_bind, hr]
theorem course_at (L : List Int) (hL : L.length = 72) (hd : dayOk L = true) (wet thick : Int) (hw : washOk wet thick = true) (h m nn : Nat) (hm : h + m ≤ 24) (hnn : nn = 24 - h) (sh : Bool) (w : World) :
    Calls Tryd.prog 29 #[(.agg (nums .i8 L).toArray), .agg #[.int .i16 wet, .int .i8 thick], .int .i64 (h : Int), .bool sh] w fun e w' => ∃ A c l, e = .returned (.slice A (nn + 1) c) ∧ nn + 1 ≤ c ∧ Kd.C (Kd.int .i64) w' A (nn + 1) l ∧ rd l (m : Int) = beh L thick sh h m wet ∧ Below w.heap.size w w' := by
  subst hnn
  refine (course_calls L hL hd wet thick hw h (by omega) sh w).mono ?_
  rintro e w' ⟨v, rfl, hR, hb⟩
  obtain ⟨A, c, rfl, hc, hC⟩ := Kd.R_reads hR
  have hg := courseF_get L thick sh h wet (24 - h) m (by omega)
  rw [courseF_length] at hc hC
  exact ⟨A, c, _, by rw [courseF_length], hc, hC, hg, hb⟩
theorem ixR_mem (v : Int) : ∀ (l : List Int) (j : Nat), (0 ≤ ixR v l j) ↔ v ∈ l
  | [], j => by simp [ixR]
  | x :: xs, j => by
    unfold ixR
    split
    · rename_i h; subst h; simp
    · rename_i h; rw [ixR_mem v xs (j + 1)]; simp; exact fun e => absurd e.symm h
theorem contains_f (v : Int) {l : List Int} (hl : l.length ≤ 4611686018427387903) : slices_Contains_int64_int64.f (l.length + 1) l v = some (decide (v ∈ l)) := by
  unfold slices_Contains_int64_int64.f
  rw [index_f v hl (by omega), Option.bind_some]
  congr 1
  rw [decide_eq_decide]
  exact ixR_mem v l 0
set_option maxHeartbeats 8000000 in
set_option maxRecDepth 100000 in
theorem scoreW_calls (L : List Int) (hL : L.length = 72) (hd : dayOk L = true) (ws : List S52) (hw : ∀ x ∈ ws, washOk x.f0 x.f1 = true) (h m : Nat) (hm : h + m ≤ 24) (t1 : Int) (ht1 : t1 = (h : Int) + m) (n : Nat) (hn : n = ws.length) (hn6 : n ≤ 6) (places : Int) (A : Option Addr) (cw mm : Nat) (Ao : Option Addr) (co : Nat) (hco : (ownL mm).length ≤ co) (hmm : (ownL mm).length ≤ 6) (gP gL gD gF gT gW : Nat) (w : World) (hP : Blk w gP 2 [.int .i64 places]) (hLi : Blk w gL 35 [.slice A n cw]) (hD : Blk w gD 33 (nums .i8 L)) (hF : Blk w gF 2 [.int .i64 (h : Int)]) (hT : Blk w gT 2 [.int .i64 t1]) (hW : Blk w gW 2 [.int .i64 6000]) (hC : Kd.C k52 w A n ws) (hO : Kd.C (Kd.int .i64) w Ao (ownL mm).length (ownL mm)) :
    Calls Tryd.prog 27 #[.slice Ao (ownL mm).length co, .pointer (some ⟨gP, 0, none⟩), .pointer (some ⟨gL, 0, none⟩), .pointer (some ⟨gD, 0, none⟩), .pointer (some ⟨gF, 0, none⟩), .pointer (some ⟨gT, 0, none⟩), .pointer (some ⟨gW, 0, none⟩)] w fun e w' => e = .returned (.int .i64 (if ((ownL mm).length : Int) ≤ places then 6000 - costB (cS L ws h m) mm n else -1)) ∧ Below w.heap.size w w' := by
  obtain ⟨nn, hnn⟩ : ∃ nn, nn = 24 - h := ⟨_, rfl⟩
  have HCA := Aside0.mk (fun (u0 u1 : Int) (hw_ : washOk u0 u1 = true) (sh : Bool) W => course_at L hL hd u0 u1 hw_ h m nn hm hnn sh W)
  have hmn : m ≤ nn := by omega
  have HBT : Aside0 (∀ k, k < n → decide ((k : Int) ∈ ownL mm) = mm.testBit k) := ⟨fun k hk => by rw [Bool.eq_iff_iff, decide_eq_true_iff]; exact ownL_mem (by omega)⟩
  have HCO := Aside0.mk (costB_range (cS_ok hd hw h m) mm)
  have HWS : Aside0 (∀ k, k < n → washOk (ws.getD k z52).f0 (ws.getD k z52).f1 = true) := ⟨fun k hk => by rw [List.getD_eq_getElem?_getD, List.getElem?_eq_getElem (by omega)]; exact hw _ (List.getElem_mem _)⟩
  have HN : Aside0 ((nums .i8 L).length = 72) := ⟨by rw [nums_len]; exact hL⟩
  have HNW := Aside0.mk hn
  have HHC := Aside0.mk hC
  have HHO := Aside0.mk hO
  have HD := Aside0.mk hD
  have HF := Aside0.mk hF
  have HT := Aside0.mk hT
  have HW := Aside0.mk hW
  have cP := hP.cell 0 (v := .int .i64 places) rfl
  have HLi := Aside0.mk hLi
  have htm : IntKind.i64.wrap (t1 - (h : Int)) = (m : Int) := (IntWalk.i64_in _ ⟨by omega, by omega⟩).trans (by omega)
  clear hn hL hd hw hnn ht1 hC hO hD hF hT hW hP hLi
  obtain ⟨o, ho⟩ : ∃ o, ownL mm = o := ⟨_, rfl⟩
  rw [ho] at hco hmm HBT HHO ⊢
  clear ho
  have HSZ : Aside0 (∀ W, Kd.C (Kd.int .i64) W Ao o.length o → Calls Tryd.prog 28 #[.slice Ao o.length co] W fun e w' => e = .returned (.int .i64 (o.length : Int)) ∧ Drawn0 W w') := ⟨fun W hC => impl_size_int64.calls Ao co o _ W hC hco (by first | rfl | (unfold impl_size_int64.f; rfl))⟩
  by_cases hp : (o.length : Int) ≤ places
  · rw [if_pos hp]
    have hp2 : ¬ places < (o.length : Int) := by omega
    go_enter Tryd.func27, Tryd.ntmps27
    go_wp2_with fail
    go_region_held3 (fun w' => w'.cell? ⟨gP, 0, none⟩ = some (.int .i64 places)) (first | exact d0 | go_keep) ((go_at_call 28; refine (HSZ.out _ (Kd.C_below HHO.out (by repeat (first | exact Below.refl _ _ | assumption | apply below_drew | apply pw_below_drewN)))).mono ?_; rintro e w1 ⟨rfl, hd1⟩; have q0 := below_step (w := w) (by repeat (first | exact Below.refl _ _ | assumption | apply below_drew | apply pw_below_drewN)) hd1.below; clear hd1; have d0 := pw_cell_below q0 cP))
    have HB1 := Aside0.mk q0
    have cL := (HLi.out.below HB1.out).cell 0 (v := .slice A n cw) rfl
    clear q0 cP d0
    go_wp2
    clear cL
    go_loopw [9, 18] (fun v9 v18 w' => ∃ k : Nat, k ≤ n ∧ v18 = .int .i64 k ∧ v9 = .int .i64 (costB (cS L ws h m) mm k) ∧ Aside0 (Below w.heap.size w w')) (fun _ v18 _ => n - (intOf v18).toNat)
    case atStart => exact ⟨0, by omega, rfl, rfl, HB1⟩
    case round =>
      clear HB1
      obtain ⟨k, hk, rfl, rfl, HB⟩ := hrel
      obtain ⟨wo, rfl⟩ : ∃ wo : World, wo = wr := ⟨_, rfl⟩
      have hk9 : IntKind.i64.wrap ((k : Int) + 1) = (k : Int) + 1 := IntWalk.i64_in _ ⟨by omega, by omega⟩
      have hcr := HCO.out k
      by_cases hlt : k < n
      · have hki : (k : Int) < (n : Int) := by omega
        have hki0 : (0 : Int) ≤ (k : Int) := Int.natCast_nonneg k
        have hcr1 := HCO.out (k + 1)
        obtain ⟨ad, eA, hx0, hx1⟩ := at_T52 (Kd.C_below HHC.out HB.out) (k : Int) (by omega) (by omega)
        have HXk := Aside0.mk (HWS.out k hlt)
        rw [show rd_T52 ws k = ws.getD k z52 from rfl] at hx0 hx1
        replace hx0 := (show (k : Int).toNat = k from rfl) ▸ hx0
        replace hx1 := (show (k : Int).toNat = k from rfl) ▸ hx1
        have hcs : cS L ws h m k (mm.testBit k) = beh L (ws.getD k z52).f1 (!(mm.testBit k)) h m (ws.getD k z52).f0 := by rw [HNW.out] at hlt; unfold cS; simp [List.getD_eq_getElem?_getD, List.getElem?_eq_getElem hlt]
        generalize ws.getD k z52 = x at hx0 hx1 HXk hcs
        have hM := contains_f (k : Int) (l := o) (by omega)
        rw [HBT.out k hlt] at hM
        have HCB : Aside0 (costB (cS L ws h m) mm (k + 1) = costB (cS L ws h m) mm k + beh L x.f1 (!(mm.testBit k)) h m x.f0) := ⟨by rw [costB, hcs]⟩
        rw [HCB.out] at hcr1
        generalize mm.testBit k = tb at *
        have HM := Aside0.mk hM
        have HCR := Aside0.mk (fun W => HCA.out x.f0 x.f1 HXk.out (!tb) W)
        generalize beh L x.f1 (!tb) h m x.f0 = r at *
        generalize costB (cS L ws h m) mm k = al at *
        have har : IntKind.i64.wrap (al + r) = al + r := IntWalk.i64_in _ ⟨by omega, by omega⟩
        have hm0 : (0 : Int) ≤ (m : Int) := Int.natCast_nonneg m
        have hmn2 : (m : Int) < (nn : Int) + 1 := by omega
        clear hM hcs
        subst eA
        go_wp2_with (refine wl_store (by rfl) 52 _ _ (by rfl) (wo.heap.size) 0 (by rfl) 52 2 [.int .i16 0, .int .i8 0] [.int .i16 x.f0, .int .i8 x.f1] (by rfl) (Blk.new wo 52 [.int .i16 0, .int .i8 0]) (by rfl) (show 0 + 2 ≤ 2 from Nat.le_refl _) (by kernel_rfl) (by rfl) ?_; intro wv_ hBs hgs; have hb := stored_below hgs; have HVB : Aside0 (Blk wv_ wo.heap.size 52 [.int .i16 x.f0, .int .i8 x.f1]) := ⟨Blk.all hBs (show 2 ≤ 2 from Nat.le_refl _)⟩; have HBV := Aside0.mk (below_step HB.out hb); clear hBs hgs hb)
        obtain ⟨wv, hwv⟩ : ∃ wv, wv = wo.heap.size := ⟨_, rfl⟩
        rw [← hwv] at HVB ⊢
        clear hwv hx0 hx1
        have c0 : wv_.rangeAt gD 0 (nums .i8 L) := (HD.out.below HBV.out).rangeAt 0 (by rw [List.drop_zero, List.take_length])
        have c1 := HVB.out.cell 0 (v := .int .i16 x.f0) rfl
        have c2 := HVB.out.cell 1 (v := .int .i8 x.f1) rfl
        have c3 := (HF.out.below HBV.out).cell 0 (v := .int .i64 (h : Int)) rfl
        have c4 := (HT.out.below HBV.out).cell 0 (v := .int .i64 t1) rfl
        have HO_ := Aside0.mk (Kd.C_below HHO.out HBV.out)
        have HX0 : Aside0 (Below wv_.heap.size wv_ wv_.drew) := ⟨below_drew (Below.refl _ _)⟩
        go_wp2_with fail
        refine start_ (n := 16) (S := fun w' => w'.rangeAt gD 0 (nums .i8 L) ∧ w'.cell? ⟨wv, 0, none⟩ = some (.int .i16 x.f0) ∧ w'.cell? ⟨wv, 1, none⟩ = some (.int .i8 x.f1) ∧ w'.cell? ⟨gF, 0, none⟩ = some (.int .i64 (h : Int)) ∧ w'.cell? ⟨gT, 0, none⟩ = some (.int .i64 t1) ∧ True) (ds := []) #[false, false, false, false, false, false, false, false, false, false, false, false, false, false, false, false] (by kernel_rfl) rfl rfl ⟨c0, c1, c2, c3, c4, trivial⟩ (fun hHeld => ?_)
        generalize wv_.drew = w9 at HX0 hHeld ⊢
        refine pure_ (i := 0) (N := some 23) (v := ?_) (a' := ?_) #[true, false, false, false, false, false, false, false, false, false, false, false, false, false, false, false] rfl rfl (by kernel_rfl) (fun _ _ _ h => h) (Or.inl ⟨by rfl, ?_⟩) ?_ ?_
        rotate_left
        · intro w'
          go_simp
          with_reducible rfl
        rotate_left
        · simp only [Act.put, List.setIfInBounds_toArray, List.set_cons_zero, List.set_cons_succ, i64_w, i32_w]
          rfl
        refine take_ (i := 1) (N := some 24) (v := ?_) (a' := ?_) #[true, true, false, false, false, false, false, false, false, false, false, false, false, false, false, false] rfl rfl (by kernel_rfl) (fun _ _ _ h => h) (Or.inl ⟨by rfl, ?_⟩) hHeld ?_ ?_
        rotate_left
        · rintro w' ⟨s0, s1, s2, s3, s4, s5⟩
          refine take_load 33 (.tmp 3) ?_ (.pointer (some ⟨gD, 0, none⟩)) (.agg (nums .i8 L).toArray) ?_ ?_
          · rfl
          · rfl
          · exact run_loadAt_mid w' gD 0 33 (nums .i8 L) _ s0 Tryd.underlying33 (by rfl) (by rw [HN.out]; kernel_rfl)
        rotate_left
        · simp only [Act.put, List.setIfInBounds_toArray, List.set_cons_zero, List.set_cons_succ, i64_w, i32_w]
          rfl
        refine take_ (i := 2) (N := some 25) (v := ?_) (a' := ?_) #[true, true, true, false, false, false, false, false, false, false, false, false, false, false, false, false] rfl rfl (by kernel_rfl) (fun _ _ _ h => h) (Or.inl ⟨by rfl, ?_⟩) hHeld ?_ ?_
        rotate_left
        · rintro w' ⟨s0, s1, s2, s3, s4, s5⟩
          go_simp
          with_reducible rfl
        rotate_left
        · simp only [Act.put, List.setIfInBounds_toArray, List.set_cons_zero, List.set_cons_succ, i64_w, i32_w]
          rfl
        refine take_ (i := 3) (N := some 26) (v := ?_) (a' := ?_) #[true, true, true, true, false, false, false, false, false, false, false, false, false, false, false, false] rfl rfl (by kernel_rfl) (fun _ _ _ h => h) (Or.inl ⟨by rfl, ?_⟩) hHeld ?_ ?_
        rotate_left
        · rintro w' ⟨s0, s1, s2, s3, s4, s5⟩
          go_simp
          with_reducible rfl
        rotate_left
        · simp only [Act.put, List.setIfInBounds_toArray, List.set_cons_zero, List.set_cons_succ, i64_w, i32_w]
          rfl
        refine pure_ (i := 4) (N := some 27) (v := ?_) (a' := ?_) #[true, true, true, true, true, false, false, false, false, false, false, false, false, false, false, false] rfl rfl (by kernel_rfl) (fun _ _ _ h => h) (Or.inl ⟨by rfl, ?_⟩) ?_ ?_
        rotate_left
        · intro w'
          go_simp
          with_reducible rfl
        rotate_left
        · simp only [Act.put, List.setIfInBounds_toArray, List.set_cons_zero, List.set_cons_succ, i64_w, i32_w]
          rfl
        refine pure_ (i := 5) (N := some 28) (v := ?_) (a' := ?_) #[true, true, true, true, true, true, false, false, false, false, false, false, false, false, false, false] rfl rfl (by kernel_rfl) (fun _ _ _ h => h) (Or.inl ⟨by rfl, ?_⟩) ?_ ?_
        rotate_left
        · intro w'
          go_simp
          with_reducible rfl
        rotate_left
        · simp only [Act.put, List.setIfInBounds_toArray, List.set_cons_zero, List.set_cons_succ, i64_w, i32_w]
          rfl
        refine take_ (i := 9) (N := some 32) (v := ?_) (a' := ?_) #[true, true, true, true, true, true, false, false, false, true, false, false, false, false, false, false] rfl rfl (by kernel_rfl) (fun _ _ _ h => h) (Or.inl ⟨by rfl, ?_⟩) hHeld ?_ ?_
        rotate_left
        · rintro w' ⟨s0, s1, s2, s3, s4, s5⟩
          go_simp
          with_reducible rfl
        rotate_left
        · simp only [Act.put, List.setIfInBounds_toArray, List.set_cons_zero, List.set_cons_succ, i64_w, i32_w]
          rfl
        refine take_ (i := 10) (N := some 33) (v := ?_) (a' := ?_) #[true, true, true, true, true, true, false, false, false, true, true, false, false, false, false, false] rfl rfl (by kernel_rfl) (fun _ _ _ h => h) (Or.inl ⟨by rfl, ?_⟩) hHeld ?_ ?_
        rotate_left
        · rintro w' ⟨s0, s1, s2, s3, s4, s5⟩
          go_simp
          with_reducible rfl
        rotate_left
        · simp only [Act.put, List.setIfInBounds_toArray, List.set_cons_zero, List.set_cons_succ, i64_w, i32_w]
          rfl
        refine pure_ (i := 11) (N := some 34) (v := ?_) (a' := ?_) #[true, true, true, true, true, true, false, false, false, true, true, true, false, false, false, false] rfl rfl (by kernel_rfl) (fun _ _ _ h => h) (Or.inl ⟨by rfl, ?_⟩) ?_ ?_
        rotate_left
        · intro w'
          go_simp
          with_reducible rfl
        rotate_left
        · simp only [Act.put, List.setIfInBounds_toArray, List.set_cons_zero, List.set_cons_succ, i64_w, i32_w]
          rfl
        refine one_ (i := 6) (N := some 29) #[true, true, true, true, true, true, true, false, false, true, true, true, false, false, false, false] rfl rfl (by kernel_rfl) (by decide) (fun K hK => ?_)
        refine goes_ Tryd.func30 (by kernel_rfl) rfl #[.slice Ao o.length co, .int .i64 (k : Int)] (by rfl) rfl rfl (by (try simp only [List.map_toArray, List.map_cons, List.map_nil]); first | done | rfl) ?_
        refine (slices_Contains_int64_int64.calls (o.length + 1) Ao co o (k : Int) tb _ (Kd.C_below HO_.out HX0.out) hco HM.out).mono ?_
        rintro e wc ⟨rfl, hdc⟩
        refine ⟨_, rfl, ?_⟩
        have HX1 := Aside0.mk (below_step HX0.out hdc.below)
        refine hK.out _ _ ⟨fun j v hv => pw_cell_below HX1.out (c0 j v hv), pw_cell_below HX1.out c1, pw_cell_below HX1.out c2, pw_cell_below HX1.out c3, pw_cell_below HX1.out c4, trivial⟩ (fun hHeld => ?_)
        clear hK K HX0 hdc
        refine norm_ (a' := ?_) ?_ ?_
        rotate_left
        · show Act.put _ (some 29) _ = _
          simp only [Act.put, List.setIfInBounds_toArray, List.set_cons_zero, List.set_cons_succ, i64_w, i32_w]
          rfl
        refine pure_ (i := 7) (N := some 30) (v := ?_) (a' := ?_) #[true, true, true, true, true, true, true, true, false, true, true, true, false, false, false, false] rfl rfl (by kernel_rfl) (fun _ _ _ h => h) (Or.inl ⟨by rfl, ?_⟩) ?_ ?_
        rotate_left
        · intro w'
          go_simp
          with_reducible rfl
        rotate_left
        · simp only [Act.put, List.setIfInBounds_toArray, List.set_cons_zero, List.set_cons_succ, i64_w, i32_w]
          rfl
        refine one_ (i := 8) (N := some 31) #[true, true, true, true, true, true, true, true, true, true, true, true, false, false, false, false] rfl rfl (by kernel_rfl) (by decide) (fun K hK => ?_)
        refine goes_ Tryd.func29 (by kernel_rfl) rfl #[.agg (nums .i8 L).toArray, .agg #[.int .i16 x.f0, .int .i8 x.f1], .int .i64 (h : Int), .bool (!tb)] (by rfl) rfl rfl (by (try simp only [List.map_toArray, List.map_cons, List.map_nil]); first | done | rfl) ?_
        refine (HCR.out _).mono ?_
        rintro e wd ⟨Ac, cc, lc, rfl, hcc, hCc, hrd, hbc⟩
        refine ⟨_, rfl, ?_⟩
        have HX2 := Aside0.mk (below_step HX1.out hbc)
        obtain ⟨aC, eC, hxc⟩ := Kd.at_int hCc (m : Int) (by omega) (by omega)
        rw [hrd, Int.toNat_natCast] at hxc
        subst eC
        refine hK.out _ _ ⟨fun j v hv => pw_cell_below HX2.out (c0 j v hv), pw_cell_below HX2.out c1, pw_cell_below HX2.out c2, pw_cell_below HX2.out c3, pw_cell_below HX2.out c4, trivial⟩ (fun hHeld => ?_)
        clear hK K HX1 hbc hCc hrd
        refine norm_ (a' := ?_) ?_ ?_
        rotate_left
        · show Act.put _ (some 31) _ = _
          simp only [Act.put, List.setIfInBounds_toArray, List.set_cons_zero, List.set_cons_succ, i64_w, i32_w]
          rfl
        refine pure_ (i := 12) (N := some 35) (v := ?_) (a' := ?_) #[true, true, true, true, true, true, true, true, true, true, true, true, true, false, false, false] rfl rfl (by kernel_rfl) (fun _ _ _ h => h) (Or.inl ⟨by rfl, ?_⟩) ?_ ?_
        rotate_left
        · intro w'
          go_simp
          with_reducible rfl
        rotate_left
        · simp only [Act.put, List.setIfInBounds_toArray, List.set_cons_zero, List.set_cons_succ, i64_w, i32_w]
          rfl
        refine one_ (i := 13) (N := some 36) #[true, true, true, true, true, true, true, true, true, true, true, true, true, true, false, false] rfl rfl (by kernel_rfl) (by decide) (fun K hK => ?_)
        refine value_ (v := ?_) (w1 := ?_) (by rfl) rfl ?_ ?_
        rotate_left
        rotate_left
        · go_simp
          first | (refine ⟨?_, ?_⟩ <;> rfl) | rfl
        refine hK.out _ _ ⟨fun j v hv => pw_cell_below HX2.out (c0 j v hv), pw_cell_below HX2.out c1, pw_cell_below HX2.out c2, pw_cell_below HX2.out c3, pw_cell_below HX2.out c4, trivial⟩ (fun hHeld => ?_)
        clear hK K
        refine norm_ (a' := ?_) ?_ ?_
        rotate_left
        · show Act.put _ (some 36) _ = _
          simp only [Act.put, List.setIfInBounds_toArray, List.set_cons_zero, List.set_cons_succ, i64_w, i32_w]
          rfl
        refine pure_ (i := 14) (N := some 37) (v := ?_) (a' := ?_) #[true, true, true, true, true, true, true, true, true, true, true, true, true, true, true, false] rfl rfl (by kernel_rfl) (fun _ _ _ h => h) (Or.inl ⟨by rfl, ?_⟩) ?_ ?_
        rotate_left
        · intro w'
          go_simp
          with_reducible rfl
        rotate_left
        · simp only [Act.put, List.setIfInBounds_toArray, List.set_cons_zero, List.set_cons_succ, i64_w, i32_w]
          rfl
        refine pure_ (i := 15) (N := some 9) (v := ?_) (a' := ?_) #[true, true, true, true, true, true, true, true, true, true, true, true, true, true, true, true] rfl rfl (by kernel_rfl) (fun _ _ _ h => h) (Or.inl ⟨by rfl, ?_⟩) ?_ ?_
        rotate_left
        · intro w'
          go_simp
          with_reducible rfl
        rotate_left
        · simp only [Act.put, List.setIfInBounds_toArray, List.set_cons_zero, List.set_cons_succ, i64_w, i32_w]
          rfl
        refine done_ (by kernel_rfl) ?_
        clear hHeld
        go_wp2
        go_roundw
        case rel => exact ⟨k + 1, by omega, by go_num, by rw [HCB.out], ⟨below_step HBV.out HX2.out⟩⟩
        case measure => simp [intOf] <;> omega
      · have hke : k = n := by omega
        subst hke
        have hki : ¬ (k : Int) < (k : Int) := by omega
        have cW := (HW.out.below HB.out).cell 0 (v := .int .i64 6000) rfl
        have h6 : IntKind.i64.wrap (6000 - costB (cS L ws h m) mm k) = 6000 - costB (cS L ws h m) mm k := IntWalk.i64_in _ ⟨by omega, by omega⟩
        go_wp2
        go_ret
        exact ⟨rfl, HB.out⟩
  · rw [if_neg hp]
    have hp2 : places < (o.length : Int) := by omega
    go_enter Tryd.func27, Tryd.ntmps27
    go_wp2_with fail
    go_region_held3 (fun w' => w'.cell? ⟨gP, 0, none⟩ = some (.int .i64 places)) (first | exact d0 | go_keep) ((go_at_call 28; refine (HSZ.out _ (Kd.C_below HHO.out (by repeat (first | exact Below.refl _ _ | assumption | apply below_drew | apply pw_below_drewN)))).mono ?_; rintro e w1 ⟨rfl, hd1⟩; have q0 := below_step (w := w) (by repeat (first | exact Below.refl _ _ | assumption | apply below_drew | apply pw_below_drewN)) hd1.below; clear hd1; have d0 := pw_cell_below q0 cP))
    go_wp2
    go_ret
    exact ⟨rfl, q0⟩
end Go.Proofs.YtdepnieanfjhjaaDoor.X
