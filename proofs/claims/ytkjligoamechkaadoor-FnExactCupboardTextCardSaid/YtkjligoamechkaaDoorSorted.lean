import Derived.Lib.SlicesCompact
import Derived.Lib.SlKeysI
import Derived.Shelf.SortM.Plain
import Derived.Shelf.SortM.SortNone
import Derived.Shelf.SlicesG.CompactI
import Derived.Ground.SlgmProg
import Derived.Ground.SlgnProg
import Derived.Test.YtkjligoamechkaaDoorCollect
import Derived.Deep.Draws
import Derived.WalkKit
set_option linter.unusedVariables false
set_option linter.unusedSimpArgs false
namespace Go.Proofs
open Go.RowKit Go.Maps Go.Sort Go.Shelf

shelf_lay_g SlLaysM.n5 Slgm 5 at Tryd 36 as Tryd.sortA
shelf_lay_g SlLaysN.n43 Slgn 43 at Tryd 28 as Tryd.compactA
theorem Tryd.sort_int (blk off cap : Nat) (zs : List Int) (w : World) (hH : Holds (Value.int .i64) w blk off zs.toArray) (hblk : blk < w.heap.size) (hsz : zs.length < 4611686018427387904) :
    Calls Tryd.prog 36 #[.slice (some ⟨blk, off, none⟩) zs.length cap] w fun e w' => e = .returned (.tuple #[]) ∧ ∃ n os, w' = grow (putRow (Value.int .i64) (Sort.ahead w n) blk off (zs.mergeSort fun x y => decide (x ≤ y)).toArray) os := AnyM.slices_Sort_int Tryd.sortA blk off cap zs w hH hblk hsz
theorem Tryd.sort_none (p : Option Addr) (cap : Nat) (w : World) : Calls Tryd.prog 36 #[.slice p 0 cap] w fun e w' => e = .returned (.tuple #[]) ∧ w' = w := AnyM.slices_Sort_int_none Tryd.sortA p cap w
theorem Tryd.compact_int (blk off cap : Nat) (zs : List Int) (w : World) (hH : Holds (Value.int .i64) w blk off zs.toArray) (hsz : zs.length ≤ 9223372036854775807) (hcap : zs.length ≤ cap) :
    Calls Tryd.prog 28 #[.slice (some ⟨blk, off, none⟩) zs.length cap] w fun e w' => e = .returned (.slice (some ⟨blk, off, none⟩) (Lib.compact zs).length cap) ∧ ∃ q, w' = putRow (Value.int .i64) (Sort.ahead w q) blk off (Lib.compact zs ++ List.replicate (zs.length - (Lib.compact zs).length) 0).toArray := AnyG.slices_Compact_int Tryd.compactA blk off cap zs w hH hsz hcap
theorem Tryd.compact_none (p : Option Addr) (cap : Nat) (w : World) : Calls Tryd.prog 28 #[.slice p 0 cap] w fun e w' => e = .returned (.slice p 0 cap) ∧ w' = w := AnyG.slices_Compact_int_empty Tryd.compactA p cap w
-- CUT HERE
set_option maxHeartbeats 1000000 in
theorem Tryd.sorted_values (Bs : Nat) (sv : Value) (zs : List Int) (hreach : zs.length * 8 ≤ 140737488351232) (w : World) (hBs : Bs < w.heap.size) (hc : w.cell? ⟨Bs, 0, none⟩ = some sv) (hI : Tryd.IntsAt w sv zs) :
    Calls Tryd.prog 20 #[.func (.func 37) #[] #[.pointer (some ⟨Bs, 0, none⟩)]] w fun e w' => ∃ v, e = .returned v ∧
      w'.ownsRow w.heap.size 2 1 v zs.length ((zs.mergeSort (fun x y => decide (x ≤ y))).map (Value.int .i64)) ∧ Below w.heap.size w w' := by
  have hseq := Tryd.values_gives Bs sv zs hreach w hBs hc hI
  have hcol := (callsIn_wide (n := 4)).1 (Tryd.collect_in Fence.wide 4 trivial trivial rfl (by omega) 37 #[.pointer (some ⟨Bs, 0, none⟩)] trivial (enters_of Tryd.func37 (by kernel_rfl) rfl) _ zs.length (by unfold maxLen; omega) (by omega) w hseq)
  clear hseq hI hc hBs
  go_enter Tryd.func20, Tryd.ntmps20
  go_wp2_with fail
  refine hcol.mono ?_
  rintro e W ⟨v, ss, rfl, rfl, hrow, hnil, hb⟩
  rcases hrow.2 with ⟨rfl, hz⟩ | ⟨gb, cap, cur, rfl, hbase, hgb, r1, r2, r3, r4⟩
  · have hss : ss = [] := List.eq_nil_of_length_eq_zero hz
    subst hss
    go_wp2_with fail
    refine (Tryd.sort_none none 0 W).mono ?_
    rintro e w' ⟨rfl, rfl⟩
    go_wp2
    go_ret
    exact ⟨_, rfl, by simpa using hrow, hb⟩
  · have hH : Holds (Value.int .i64) W gb 0 ss.toArray := holds_of_block_i hgb (by simpa using r4)
    have hgl : gb < W.heap.size := (Array.getElem?_eq_some_iff.1 hgb).1
    have cS := Tryd.sort_int gb 0 cap ss W hH hgl (by omega)
    have hrs := fun (n : Nat) (os : Array Obj) => ownsRow_sorted_i (w := W) (n := n) (os := os) (ts := ss.mergeSort fun x y => decide (x ≤ y)) (List.length_mergeSort _) hbase hgb r1 r2 r3
    have hbs := fun (n : Nat) (os : Array Obj) => hb.grown (grownBy_sorted_i (w := W) (g := gb) (n := n) (os := os) (ss.mergeSort fun x y => decide (x ≤ y)).toArray) hb.size (fun j hj => by cases hj; exact hbase)
    clear hH hrow hgb r4 r3 hcol hnil
    go_wp2_with fail
    refine cS.mono ?_
    rintro e w' ⟨rfl, nn, os, rfl⟩
    have h1 := hrs nn os
    have h2 := hbs nn os
    generalize grow (putRow (Value.int .i64) (Sort.ahead W nn) gb 0 (ss.mergeSort fun x y => decide (x ≤ y)).toArray) os = W2 at *
    go_wp2
    go_ret
    exact ⟨_, rfl, h1, h2⟩
theorem Tryd.grow_nothing (W : World) : grow W #[] = W := by cases W; simp [grow]
theorem Tryd.compact_own (v : Value) (zs : List Int) (w0 w : World) (hb : Below w0.heap.size w0 w) (ho : w.ownsRow w0.heap.size 2 1 v zs.length (zs.map (Value.int .i64))) (hl : zs.length ≤ 9223372036854775807) :
    Calls Tryd.prog 28 #[v] w fun e w' => ∃ A c, e = .returned (.slice A (Go.Lib.compact zs).length c) ∧ Below w0.heap.size w0 w' := by
  rcases ho.2 with ⟨rfl, hz⟩ | ⟨gb, cap, cur, rfl, hbase, hgb, r1, r2, r3, r4⟩
  · have hss : zs = [] := List.eq_nil_of_length_eq_zero hz
    subst hss
    refine (Tryd.compact_none none 0 w).mono ?_
    rintro e w' ⟨rfl, rfl⟩
    exact ⟨_, _, rfl, hb⟩
  · have hH : Holds (Value.int .i64) w gb 0 zs.toArray := holds_of_block_i hgb (by simpa using r4)
    refine (Tryd.compact_int gb 0 cap zs w hH hl r1).mono ?_
    rintro e w' ⟨rfl, q, rfl⟩
    have h2 := grownBy_sorted_i (w := w) (g := gb) (n := q) (os := #[]) (Lib.compact zs ++ List.replicate (zs.length - (Lib.compact zs).length) 0).toArray
    have h3 : grow (putRow (Value.int .i64) (Sort.ahead w q) gb 0 (Lib.compact zs ++ List.replicate (zs.length - (Lib.compact zs).length) 0).toArray) #[] = putRow (Value.int .i64) (Sort.ahead w q) gb 0 (Lib.compact zs ++ List.replicate (zs.length - (Lib.compact zs).length) 0).toArray := Tryd.grow_nothing _
    rw [h3] at h2
    exact ⟨_, _, rfl, hb.grown h2 hb.size (fun j hj => by cases hj; exact hbase)⟩
end Go.Proofs

