/- Contracts of functions, and plain facts: what each call answers, and what it leaves as it was. -/
import Derived.Test.YtdepnieanfjhjaaHng
import Derived.Test.YtdepnieanfjhjaaDry2
import Derived.Test.YtdepnieanfjhjaaX12
set_option linter.unusedVariables false
set_option linter.unusedSimpArgs false
namespace Go.Proofs.Ytdepnieanfjhjaa.X
open Go.RowKit Go.Proofs.YtdepnieanfjhjaaW.PrintWords Go.Proofs.YtdepnieanfjhjaaW.PrintLast Go.Proofs.YtdepnieanfjhjaaW.PrintMore
attribute [local go_sem] max2_int min2_int max_two min_two max_three min_three max_four min_four
/-- a call of a function value that has caught variables -/
theorem goesF_ {P : Program} {ops : Array Oper} {Q : Exit → Act → World → Prop} {oi : Oper} {N : Option Tmp} {a : Act} {w : World} {K : Act → World → Prop} {f : FuncId} {fn : Func} {t : Tmp} {as_ : Array Operand} {ts : Array TypeId} (hf : P.funcs[f]? = some fn) (hname : (fn.name == "runtime.NumGoroutine") = false) (hb : fn.body.isSome = true) (cap args all : Array Value)
    (hw : Region.wanted oi (yielded ops a.tmps) = true) (hN : oi.dst = N) (hop : oi.op = .call { callee := .value (.tmp t), args := as_, argTypes := ts }) (hcal : a.eval (.tmp t) = .func (.func f) #[] cap) (hargs : as_.map a.eval = args) (hall : args ++ cap = all)
    (h : Calls P f all w fun e w' => ∃ v, e = .returned v ∧ K (a.put N v) w') : if Region.wanted oi (yielded ops a.tmps) = true then Oper.wp P oi a w K Q else K (a.put N undef) w := by
  refine call_ f all hw hN ?_ h
  have he := enters_ hf hname hb all w
  unfold execOp
  subst hall
  simp [hop, resolve, Deferred.ofValue, invoke, hcal, hargs, he]
theorem blk_kept {w W : World} {g t : Nat} {cs : List Value} {S : Nat → Prop} (h : Blk w g t cs) (hk : Kept w W S) (hn : ¬ S g) : Blk W g t cs := (hk.2 g h.lt hn).trans h
set_option maxHeartbeats 8000000 in
set_option maxRecDepth 100000 in
theorem score_calls (L : List Int) (hL : L.length = 72) (hd : dayOk L = true) (ws : List S52) (hws : ∀ x ∈ ws, washOk x.f0 x.f1 = true) (h : Nat) (hh : h ≤ 24) (n cw : Nat) (hn : n = ws.length) (hn6 : n ≤ 6) (A : Option Addr) (o : List Int) (ho : ∀ x ∈ o, 0 ≤ x ∧ x < (n : Int)) (hol : o.length ≤ 6) (Ao : Option Addr) (co : Nat) (hco : o.length ≤ co) (gD gli gfr : Nat) (w : World) (hD : Blk w gD 33 (nums .i8 L)) (hli : Blk w gli 35 [.slice A n cw]) (hfr : Blk w gfr 2 [.int .i64 (h : Int)]) (hC : Kd.C k52 w A n ws) (hO : Kd.C (Kd.int .i64) w Ao o.length o) :
    Calls Try.prog 23 #[.slice Ao o.length co, .pointer (some ⟨gD, 0, none⟩), .pointer (some ⟨gli, 0, none⟩), .pointer (some ⟨gfr, 0, none⟩)] w fun e w' => e = .returned (.int .i64 (scoreO (lfF L ws h) 0 o)) ∧ Below w.heap.size w w' := by
  have HH := Aside0.mk (hang_calls L hL hd ws hws h hh n cw hn hn6 A o ho hol Ao co hco w hC hO)
  have HSU := Aside0.mk (sum_hang (lfF_ok hd hws h) o hol)
  have HHL := Aside0.mk (hangT_len (lfF L ws h) o o.length)
  have HN : Aside0 ((nums .i8 L).length = 72) := ⟨by rw [nums_len]; exact hL⟩
  have HS : Aside0 (((nums .i8 L).drop 0).take 72 = nums .i8 L) := ⟨by rw [List.drop_zero, List.take_of_length_le (by rw [HN.out]; exact Nat.le_refl _)]⟩
  have HD := Aside0.mk hD
  have c1 := hli.cell 0 (v := .slice A n cw) rfl
  have c2 := hfr.cell 0 (v := .int .i64 (h : Int)) rfl
  generalize scoreO (lfF L ws h) 0 o = r at *
  generalize hangT (lfF L ws h) o o.length = T at *
  clear hL hd hws hD hli hfr hC hO ho hn
  go_enter Try.func23, Try.ntmps23
  go_wp2_with (refine wl_load (by rfl) 33 _ (by rfl) gD 0 (by rfl) 33 72 _ _ HD.out HS.out HN.out _ Try.underlying33 (by rfl) (by kernel_rfl) ?_)
  refine HH.out.mono ?_
  rintro e w1 ⟨v, rfl, hI, hb⟩
  obtain ⟨A1, c1_, rfl, hc1, hC1⟩ := Kd.R_reads hI.row
  have HB1 := Aside0.mk hb
  clear hb hI
  go_wp2_with fail
  refine (impl_sum.calls (o.length + 1) A1 c1_ T r _ hC1 hc1 HSU.out).mono ?_
  rintro e w2 ⟨rfl, hd2⟩
  have hb2 := hd2.below
  go_wp2
  go_ret
  exact ⟨rfl, below_step HB1.out hb2⟩
theorem ixR_mem (v : Int) : ∀ (l : List Int) (j : Nat), (0 ≤ ixR v l j) ↔ v ∈ l
  | [], j => by simp [ixR]
  | x :: xs, j => by
    unfold ixR
    split
    · rename_i h; subst h; simp
    · rename_i h; rw [ixR_mem v xs (j + 1)]; simp; exact fun e => absurd e.symm h
theorem contains_f (v : Int) {l : List Int} (hl : l.length ≤ 4611686018427387903) : slices_Contains_int64_int64.f (l.length + 1) l v = some (decide (v ∈ l)) := by
  unfold slices_Contains_int64_int64.f
  rw [index_f v hl (by omega), Option.bind_some]
  congr 1
  rw [decide_eq_decide]
  exact ixR_mem v l 0
end Go.Proofs.Ytdepnieanfjhjaa.X
