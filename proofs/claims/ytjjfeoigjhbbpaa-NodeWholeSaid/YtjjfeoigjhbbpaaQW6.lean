/- Texts of this claim: contracts of the functions that the statement reaches, and plain laws of what they compute. -/
import Derived.Test.YtjjfeoigjhbbpaaQW5
set_option linter.unusedVariables false
set_option linter.unusedSimpArgs false
namespace Go.Proofs.Ytjjfeoigjhbbpaa.PA
section

open Go.RowKit Go.Proofs.YtjjfeoigjhbbpaaW.PrintWords Go.Proofs.YtjjfeoigjhbbpaaW.PrintLast Go.Proofs.YtjjfeoigjhbbpaaW.PrintMore
attribute [local go_sem] pr_leq pr_geq pr_gtr max2_int min2_int max_two min_two max_three min_three max_four min_four
set_option linter.unusedVariables false
set_option linter.unusedSimpArgs false
attribute [local go_sem high] eqA48
mutual
def cisternref11_Same.j0 : Nat → Bool → Bool → List (S48) → List ByteArray → List Int → Bool → List (S48) → List ByteArray → List Int → Option (Bool)
  | 0, _, _, _, _, _, _, _, _, _ => none
  | k + 1, x39, x326000, x326001, x326002, x326003, x327000, x327001, x327002, x327003 => if x39 = true then (some false) else (cisternref11_Same.l0 k 0 x326000 x326001 x326002 x326003 x327000 x327001 x327002 x327003)
def cisternref11_Same.l0 : Nat → Int → Bool → List (S48) → List ByteArray → List Int → Bool → List (S48) → List ByteArray → List Int → Option (Bool)
  | 0, _, _, _, _, _, _, _, _, _ => none
  | k + 1, x5, x326000, x326001, x326002, x326003, x327000, x327001, x327002, x327003 => if x5 < (x326001.length : Int) then (if 0 ≤ x5 then (if x5 < (x327001.length : Int) then (if (!((((rd_T48 x326001 x5).f0).toList) == (((rd_T48 x327001 x5).f0).toList)) || (!((((rd_T48 x326001 x5).f1).toList) == (((rd_T48 x327001 x5).f1).toList)))) = true then (some false) else (cisternref11_Same.l0 k (wrap64 (x5 + 1)) x326000 x326001 x326002 x326003 x327000 x327001 x327002 x327003)) else (none)) else (none)) else (cisternref11_Same.l1 k 0 x326000 x326001 x326002 x326003 x327000 x327001 x327002 x327003)
def cisternref11_Same.l1 : Nat → Int → Bool → List (S48) → List ByteArray → List Int → Bool → List (S48) → List ByteArray → List Int → Option (Bool)
  | 0, _, _, _, _, _, _, _, _, _ => none
  | k + 1, x6, x326000, x326001, x326002, x326003, x327000, x327001, x327002, x327003 => if x6 < (x326002.length : Int) then (if 0 ≤ x6 then (if x6 < (x327002.length : Int) then (if (rdOf ByteArray.empty x326002 x6).toList = (rdOf ByteArray.empty x327002 x6).toList then (cisternref11_Same.l1 k (wrap64 (x6 + 1)) x326000 x326001 x326002 x326003 x327000 x327001 x327002 x327003) else (some false)) else (none)) else (none)) else (cisternref11_Same.l2 k 0 x326000 x326001 x326002 x326003 x327000 x327001 x327002 x327003)
def cisternref11_Same.l2 : Nat → Int → Bool → List (S48) → List ByteArray → List Int → Bool → List (S48) → List ByteArray → List Int → Option (Bool)
  | 0, _, _, _, _, _, _, _, _, _ => none
  | k + 1, x7, x326000, x326001, x326002, x326003, x327000, x327001, x327002, x327003 => if x7 < (x326003.length : Int) then (if 0 ≤ x7 then (if x7 < (x327003.length : Int) then (if (rd x326003 x7) = (rd x327003 x7) then (cisternref11_Same.l2 k (wrap64 (x7 + 1)) x326000 x326001 x326002 x326003 x327000 x327001 x327002 x327003) else (some false)) else (none)) else (none)) else (some true)
end
def cisternref11_Same.f (k : Nat) (a0_0 : Bool) (l0_1 : List (S48)) (l0_2 : List ByteArray) (l0_3 : List Int) (a1_0 : Bool) (l1_1 : List (S48)) (l1_2 : List ByteArray) (l1_3 : List Int) : Option (Bool) := if (a0_0 != a1_0) = true then (cisternref11_Same.j0 k true a0_0 l0_1 l0_2 l0_3 a1_0 l1_1 l1_2 l1_3) else (if (l0_1.length : Int) = (l1_1.length : Int) then (if (l0_2.length : Int) = (l1_2.length : Int) then (cisternref11_Same.j0 k ((l0_3.length : Int) != (l1_3.length : Int)) a0_0 l0_1 l0_2 l0_3 a1_0 l1_1 l1_2 l1_3) else (cisternref11_Same.j0 k true a0_0 l0_1 l0_2 l0_3 a1_0 l1_1 l1_2 l1_3)) else (cisternref11_Same.j0 k true a0_0 l0_1 l0_2 l0_3 a1_0 l1_1 l1_2 l1_3))
set_option maxHeartbeats 8000000 in
set_option maxRecDepth 100000 in
theorem cisternref11_Same.calls (k : Nat) (a0_0 : Bool) (A0_1 : Option Addr) (c0_1 : Nat) (l0_1 : List (S48)) (A0_2 : Option Addr) (c0_2 : Nat) (l0_2 : List ByteArray) (A0_3 : Option Addr) (c0_3 : Nat) (l0_3 : List Int) (a1_0 : Bool) (A1_1 : Option Addr) (c1_1 : Nat) (l1_1 : List (S48)) (A1_2 : Option Addr) (c1_2 : Nat) (l1_2 : List ByteArray) (A1_3 : Option Addr) (c1_3 : Nat) (l1_3 : List Int) (r : Bool) (w : World) (hr0_1 : Kd.C k48 w A0_1 l0_1.length l0_1) (hc0_1 : l0_1.length ≤ c0_1) (hr0_2 : Kd.C Kd.string w A0_2 l0_2.length l0_2) (hc0_2 : l0_2.length ≤ c0_2) (hr0_3 : Kd.C (Kd.int .i64) w A0_3 l0_3.length l0_3) (hc0_3 : l0_3.length ≤ c0_3) (hr1_1 : Kd.C k48 w A1_1 l1_1.length l1_1) (hc1_1 : l1_1.length ≤ c1_1) (hr1_2 : Kd.C Kd.string w A1_2 l1_2.length l1_2) (hc1_2 : l1_2.length ≤ c1_2) (hr1_3 : Kd.C (Kd.int .i64) w A1_3 l1_3.length l1_3) (hc1_3 : l1_3.length ≤ c1_3) (h : cisternref11_Same.f k a0_0 l0_1 l0_2 l0_3 a1_0 l1_1 l1_2 l1_3 = some r) :
    Calls Try.prog 19 #[.agg #[.bool a0_0, .slice A0_1 l0_1.length c0_1, .slice A0_2 l0_2.length c0_2, .slice A0_3 l0_3.length c0_3], .agg #[.bool a1_0, .slice A1_1 l1_1.length c1_1, .slice A1_2 l1_2.length c1_2, .slice A1_3 l1_3.length c1_3]] w fun e w' => e = .returned (.bool r) ∧ Below w.heap.size w w' := by
  have hu26 := Try.underlying26
  have hu48 := Try.underlying48
  have HR0_1 := Aside0.mk hr0_1
  have HC0_1 := Aside0.mk hc0_1
  clear hr0_1 hc0_1
  have HR0_2 := Aside0.mk hr0_2
  have HC0_2 := Aside0.mk hc0_2
  clear hr0_2 hc0_2
  have HR0_3 := Aside0.mk hr0_3
  have HC0_3 := Aside0.mk hc0_3
  clear hr0_3 hc0_3
  have HR1_1 := Aside0.mk hr1_1
  have HC1_1 := Aside0.mk hc1_1
  clear hr1_1 hc1_1
  have HR1_2 := Aside0.mk hr1_2
  have HC1_2 := Aside0.mk hc1_2
  clear hr1_2 hc1_2
  have HR1_3 := Aside0.mk hr1_3
  have HC1_3 := Aside0.mk hc1_3
  clear hr1_3 hc1_3
  have HB := Aside0.mk (Below.refl w.heap.size w)
  have H : (if (a0_0 != a1_0) = true then (cisternref11_Same.j0 k true a0_0 l0_1 l0_2 l0_3 a1_0 l1_1 l1_2 l1_3) else (if (l0_1.length : Int) = (l1_1.length : Int) then (if (l0_2.length : Int) = (l1_2.length : Int) then (cisternref11_Same.j0 k ((l0_3.length : Int) != (l1_3.length : Int)) a0_0 l0_1 l0_2 l0_3 a1_0 l1_1 l1_2 l1_3) else (cisternref11_Same.j0 k true a0_0 l0_1 l0_2 l0_3 a1_0 l1_1 l1_2 l1_3)) else (cisternref11_Same.j0 k true a0_0 l0_1 l0_2 l0_3 a1_0 l1_1 l1_2 l1_3))) = some r := h
  clear h
  have HC3 := Aside0.mk H
  clear H
  go_enter Try.func19, Try.ntmps19
  go_upto_region 1 with (first | ((with_reducible refine gate_dst (N := 2) rfl ?_); (try (refine gate_guard (by rfl) ?_; dsimp only)); refine box_event ?hg (N := 2) ?hd (cs := #[.bool a0_0, .slice A0_1 l0_1.length c0_1, .slice A0_2 l0_2.length c0_2, .slice A0_3 l0_3.length c0_3]) (t := 26) ?hr ?_; (case hd => rfl); (case hg => rfl); (case hr => first | (go_simp; done) | (go_simp; rfl)); intro gb325 hg w4 hbox hb; have n0_ := Aside0.mk (below_step (by repeat (first | (with_reducible first | exact HB.out | apply below_alloc | apply pw_below_drewN | apply below_drew1) | exact HB.out)) hb); have n1_ := Aside0.mk (hbox); have n2_ := Aside0.mk ((by rw [hg]; exact (below_size (by repeat (first | (with_reducible first | exact HB.out | apply below_alloc | apply pw_below_drewN | apply below_drew1) | exact HB.out))) : w.heap.size ≤ gb325)); have n3_ := Aside0.mk ((by rw [hg]; exact (below_size (by repeat (first | (with_reducible first | exact HB.out | apply below_alloc | apply pw_below_drewN | apply below_drew1) | exact HB.out))) : w.heap.size ≤ gb325)); clear HB; have HB := n0_; have BK325 := n1_; have GW325 := n2_; have GE325 := n3_; clear n0_ n1_ n2_ n3_; clear hb hbox hg) | ((with_reducible refine gate_dst (N := 3) rfl ?_); (try (refine gate_guard (by rfl) ?_; dsimp only)); refine box_event ?hg (N := 3) ?hd (cs := #[.bool a1_0, .slice A1_1 l1_1.length c1_1, .slice A1_2 l1_2.length c1_2, .slice A1_3 l1_3.length c1_3]) (t := 26) ?hr ?_; (case hd => rfl); (case hg => rfl); (case hr => first | (go_simp; done) | (go_simp; rfl)); intro gb326 hg w5 hbox hb; have n0_ := Aside0.mk (blk_below (g := gb325) (o := .cells #[.bool a0_0, .slice A0_1 l0_1.length c0_1, .slice A0_2 l0_2.length c0_2, .slice A0_3 l0_3.length c0_3] 26 (0, 0)) (by (with_reducible repeat (first | refine blk_drewN ?_ _ | refine blk_drew ?_ | refine blk_alloc ?_ _)); exact BK325.out) hb); have n1_ := Aside0.mk (below_step (by repeat (first | (with_reducible first | exact HB.out | apply below_alloc | apply pw_below_drewN | apply below_drew1 | refine below_set ?_ GE325.out) | exact HB.out)) hb); have n2_ := Aside0.mk (hbox); have n3_ := Aside0.mk ((by rw [hg]; exact (below_size (by repeat (first | (with_reducible first | exact HB.out | apply below_alloc | apply pw_below_drewN | apply below_drew1 | refine below_set ?_ GE325.out) | exact HB.out))) : w.heap.size ≤ gb326)); have n4_ := Aside0.mk ((by rw [hg]; exact (below_size (by repeat (first | (with_reducible first | exact HB.out | apply below_alloc | apply pw_below_drewN | apply below_drew1 | refine below_set ?_ GE325.out) | exact HB.out))) : w.heap.size ≤ gb326)); have n5_ := Aside0.mk ((by rw [hg]; exact Nat.ne_of_lt (blk_lt (g := gb325) (o := .cells #[.bool a0_0, .slice A0_1 l0_1.length c0_1, .slice A0_2 l0_2.length c0_2, .slice A0_3 l0_3.length c0_3] 26 (0, 0)) (by (with_reducible repeat (first | refine blk_drewN ?_ _ | refine blk_drew ?_ | refine blk_alloc ?_ _)); exact BK325.out)) : gb325 ≠ gb326)); have n6_ := Aside0.mk ((by rw [hg]; exact Nat.ne_of_gt (blk_lt (g := gb325) (o := .cells #[.bool a0_0, .slice A0_1 l0_1.length c0_1, .slice A0_2 l0_2.length c0_2, .slice A0_3 l0_3.length c0_3] 26 (0, 0)) (by (with_reducible repeat (first | refine blk_drewN ?_ _ | refine blk_drew ?_ | refine blk_alloc ?_ _)); exact BK325.out)) : gb326 ≠ gb325)); clear BK325; clear HB; have BK325 := n0_; have HB := n1_; have BK326 := n2_; have GW326 := n3_; have GE326 := n4_; have NB325_326 := n5_; have NB326_325 := n6_; clear n0_ n1_ n2_ n3_ n4_ n5_ n6_; clear hb hbox hg))
  repeat (go_quiet (first | ((with_reducible refine gate_dst (N := 2) rfl ?_); (try (refine gate_guard (by rfl) ?_; dsimp only)); refine box_event ?hg (N := 2) ?hd (cs := #[.bool a0_0, .slice A0_1 l0_1.length c0_1, .slice A0_2 l0_2.length c0_2, .slice A0_3 l0_3.length c0_3]) (t := 26) ?hr ?_; (case hd => rfl); (case hg => rfl); (case hr => first | (go_simp; done) | (go_simp; rfl)); intro gb325 hg w4 hbox hb; have n0_ := Aside0.mk (below_step (by repeat (first | (with_reducible first | exact HB.out | apply below_alloc | apply pw_below_drewN | apply below_drew1) | exact HB.out)) hb); have n1_ := Aside0.mk (hbox); have n2_ := Aside0.mk ((by rw [hg]; exact (below_size (by repeat (first | (with_reducible first | exact HB.out | apply below_alloc | apply pw_below_drewN | apply below_drew1) | exact HB.out))) : w.heap.size ≤ gb325)); have n3_ := Aside0.mk ((by rw [hg]; exact (below_size (by repeat (first | (with_reducible first | exact HB.out | apply below_alloc | apply pw_below_drewN | apply below_drew1) | exact HB.out))) : w.heap.size ≤ gb325)); clear HB; have HB := n0_; have BK325 := n1_; have GW325 := n2_; have GE325 := n3_; clear n0_ n1_ n2_ n3_; clear hb hbox hg) | ((with_reducible refine gate_dst (N := 3) rfl ?_); (try (refine gate_guard (by rfl) ?_; dsimp only)); refine box_event ?hg (N := 3) ?hd (cs := #[.bool a1_0, .slice A1_1 l1_1.length c1_1, .slice A1_2 l1_2.length c1_2, .slice A1_3 l1_3.length c1_3]) (t := 26) ?hr ?_; (case hd => rfl); (case hg => rfl); (case hr => first | (go_simp; done) | (go_simp; rfl)); intro gb326 hg w5 hbox hb; have n0_ := Aside0.mk (blk_below (g := gb325) (o := .cells #[.bool a0_0, .slice A0_1 l0_1.length c0_1, .slice A0_2 l0_2.length c0_2, .slice A0_3 l0_3.length c0_3] 26 (0, 0)) (by (with_reducible repeat (first | refine blk_drewN ?_ _ | refine blk_drew ?_ | refine blk_alloc ?_ _)); exact BK325.out) hb); have n1_ := Aside0.mk (below_step (by repeat (first | (with_reducible first | exact HB.out | apply below_alloc | apply pw_below_drewN | apply below_drew1 | refine below_set ?_ GE325.out) | exact HB.out)) hb); have n2_ := Aside0.mk (hbox); have n3_ := Aside0.mk ((by rw [hg]; exact (below_size (by repeat (first | (with_reducible first | exact HB.out | apply below_alloc | apply pw_below_drewN | apply below_drew1 | refine below_set ?_ GE325.out) | exact HB.out))) : w.heap.size ≤ gb326)); have n4_ := Aside0.mk ((by rw [hg]; exact (below_size (by repeat (first | (with_reducible first | exact HB.out | apply below_alloc | apply pw_below_drewN | apply below_drew1 | refine below_set ?_ GE325.out) | exact HB.out))) : w.heap.size ≤ gb326)); have n5_ := Aside0.mk ((by rw [hg]; exact Nat.ne_of_lt (blk_lt (g := gb325) (o := .cells #[.bool a0_0, .slice A0_1 l0_1.length c0_1, .slice A0_2 l0_2.length c0_2, .slice A0_3 l0_3.length c0_3] 26 (0, 0)) (by (with_reducible repeat (first | refine blk_drewN ?_ _ | refine blk_drew ?_ | refine blk_alloc ?_ _)); exact BK325.out)) : gb325 ≠ gb326)); have n6_ := Aside0.mk ((by rw [hg]; exact Nat.ne_of_gt (blk_lt (g := gb325) (o := .cells #[.bool a0_0, .slice A0_1 l0_1.length c0_1, .slice A0_2 l0_2.length c0_2, .slice A0_3 l0_3.length c0_3] 26 (0, 0)) (by (with_reducible repeat (first | refine blk_drewN ?_ _ | refine blk_drew ?_ | refine blk_alloc ?_ _)); exact BK325.out)) : gb326 ≠ gb325)); clear BK325; clear HB; have BK325 := n0_; have HB := n1_; have BK326 := n2_; have GW326 := n3_; have GE326 := n4_; have NB325_326 := n5_; have NB326_325 := n6_; clear n0_ n1_ n2_ n3_ n4_ n5_ n6_; clear hb hbox hg)); go_upto_region 1 with (first | ((with_reducible refine gate_dst (N := 2) rfl ?_); (try (refine gate_guard (by rfl) ?_; dsimp only)); refine box_event ?hg (N := 2) ?hd (cs := #[.bool a0_0, .slice A0_1 l0_1.length c0_1, .slice A0_2 l0_2.length c0_2, .slice A0_3 l0_3.length c0_3]) (t := 26) ?hr ?_; (case hd => rfl); (case hg => rfl); (case hr => first | (go_simp; done) | (go_simp; rfl)); intro gb325 hg w4 hbox hb; have n0_ := Aside0.mk (below_step (by repeat (first | (with_reducible first | exact HB.out | apply below_alloc | apply pw_below_drewN | apply below_drew1) | exact HB.out)) hb); have n1_ := Aside0.mk (hbox); have n2_ := Aside0.mk ((by rw [hg]; exact (below_size (by repeat (first | (with_reducible first | exact HB.out | apply below_alloc | apply pw_below_drewN | apply below_drew1) | exact HB.out))) : w.heap.size ≤ gb325)); have n3_ := Aside0.mk ((by rw [hg]; exact (below_size (by repeat (first | (with_reducible first | exact HB.out | apply below_alloc | apply pw_below_drewN | apply below_drew1) | exact HB.out))) : w.heap.size ≤ gb325)); clear HB; have HB := n0_; have BK325 := n1_; have GW325 := n2_; have GE325 := n3_; clear n0_ n1_ n2_ n3_; clear hb hbox hg) | ((with_reducible refine gate_dst (N := 3) rfl ?_); (try (refine gate_guard (by rfl) ?_; dsimp only)); refine box_event ?hg (N := 3) ?hd (cs := #[.bool a1_0, .slice A1_1 l1_1.length c1_1, .slice A1_2 l1_2.length c1_2, .slice A1_3 l1_3.length c1_3]) (t := 26) ?hr ?_; (case hd => rfl); (case hg => rfl); (case hr => first | (go_simp; done) | (go_simp; rfl)); intro gb326 hg w5 hbox hb; have n0_ := Aside0.mk (blk_below (g := gb325) (o := .cells #[.bool a0_0, .slice A0_1 l0_1.length c0_1, .slice A0_2 l0_2.length c0_2, .slice A0_3 l0_3.length c0_3] 26 (0, 0)) (by (with_reducible repeat (first | refine blk_drewN ?_ _ | refine blk_drew ?_ | refine blk_alloc ?_ _)); exact BK325.out) hb); have n1_ := Aside0.mk (below_step (by repeat (first | (with_reducible first | exact HB.out | apply below_alloc | apply pw_below_drewN | apply below_drew1 | refine below_set ?_ GE325.out) | exact HB.out)) hb); have n2_ := Aside0.mk (hbox); have n3_ := Aside0.mk ((by rw [hg]; exact (below_size (by repeat (first | (with_reducible first | exact HB.out | apply below_alloc | apply pw_below_drewN | apply below_drew1 | refine below_set ?_ GE325.out) | exact HB.out))) : w.heap.size ≤ gb326)); have n4_ := Aside0.mk ((by rw [hg]; exact (below_size (by repeat (first | (with_reducible first | exact HB.out | apply below_alloc | apply pw_below_drewN | apply below_drew1 | refine below_set ?_ GE325.out) | exact HB.out))) : w.heap.size ≤ gb326)); have n5_ := Aside0.mk ((by rw [hg]; exact Nat.ne_of_lt (blk_lt (g := gb325) (o := .cells #[.bool a0_0, .slice A0_1 l0_1.length c0_1, .slice A0_2 l0_2.length c0_2, .slice A0_3 l0_3.length c0_3] 26 (0, 0)) (by (with_reducible repeat (first | refine blk_drewN ?_ _ | refine blk_drew ?_ | refine blk_alloc ?_ _)); exact BK325.out)) : gb325 ≠ gb326)); have n6_ := Aside0.mk ((by rw [hg]; exact Nat.ne_of_gt (blk_lt (g := gb325) (o := .cells #[.bool a0_0, .slice A0_1 l0_1.length c0_1, .slice A0_2 l0_2.length c0_2, .slice A0_3 l0_3.length c0_3] 26 (0, 0)) (by (with_reducible repeat (first | refine blk_drewN ?_ _ | refine blk_drew ?_ | refine blk_alloc ?_ _)); exact BK325.out)) : gb326 ≠ gb325)); clear BK325; clear HB; have BK325 := n0_; have HB := n1_; have BK326 := n2_; have GW326 := n3_; have GE326 := n4_; have NB325_326 := n5_; have NB326_325 := n6_; clear n0_ n1_ n2_ n3_ n4_ n5_ n6_; clear hb hbox hg)))
  (try simp only [Act.put, List.setIfInBounds_toArray, List.set_cons_zero, List.set_cons_succ])
  go_cut [39] (fun v39 wc => ∃ (kq : Nat) (x39_2 : Bool), v39 = .bool x39_2 ∧ Aside0 (cisternref11_Same.j0 kq x39_2 a0_0 l0_1 l0_2 l0_3 a1_0 l1_1 l1_2 l1_3 = some r) ∧ Aside0 (kq ≤ k) ∧ Aside0 (wc.heap[gb325]? = some (.cells #[.bool a0_0, (.slice A0_1 l0_1.length c0_1), (.slice A0_2 l0_2.length c0_2), (.slice A0_3 l0_3.length c0_3)] 26 (0, 0))) ∧ Aside0 (wc.heap[gb326]? = some (.cells #[.bool a1_0, (.slice A1_1 l1_1.length c1_1), (.slice A1_2 l1_2.length c1_2), (.slice A1_3 l1_3.length c1_3)] 26 (0, 0))) ∧ Aside0 (Below w.heap.size w wc))
  case first =>
    have H := HC3.out
    clear HC3
    by_cases c6 : (a0_0 != a1_0) = true
    · rw [if_pos c6] at H
      have c6b0 : (a0_0 != a1_0) = true := c6
      (try (have c6b1 : decide (a0_0 = a1_0) = false := by simpa using c6))
      (try (have c6b2 : (a0_0 == a1_0) = false := by simpa using c6))
      (try (have c6b3 : ¬ (a0_0 = a1_0) := by simpa using c6))
      clear c6
      (first | rw [c6b0] | (simp only [i64_w, i32_w]; rw [c6b0]) | skip)
      have H' := Aside0.mk H
      clear H
      have hnb7 := NB325_326.out
      have hnc7 := NB326_325.out
      have hcz8_0 : w5.cell? ⟨gb325, 0, none⟩ = some (.bool a0_0) := (blk_cell BK325.out 0).trans rfl
      have hcz8_1 : w5.cell? ⟨gb325, 1, none⟩ = some (.slice A0_1 l0_1.length c0_1) := (blk_cell BK325.out 1).trans rfl
      have hcz8_2 : w5.cell? ⟨gb325, 2, none⟩ = some (.slice A0_2 l0_2.length c0_2) := (blk_cell BK325.out 2).trans rfl
      have hcz8_3 : w5.cell? ⟨gb325, 3, none⟩ = some (.slice A0_3 l0_3.length c0_3) := (blk_cell BK325.out 3).trans rfl
      have hfz8_0 := blk_frozen BK325.out 0
      have hfz8_1 := blk_frozen BK325.out 1
      have hfz8_2 := blk_frozen BK325.out 2
      have hfz8_3 := blk_frozen BK325.out 3
      have hcz9_0 : w5.cell? ⟨gb326, 0, none⟩ = some (.bool a1_0) := (blk_cell BK326.out 0).trans rfl
      have hcz9_1 : w5.cell? ⟨gb326, 1, none⟩ = some (.slice A1_1 l1_1.length c1_1) := (blk_cell BK326.out 1).trans rfl
      have hcz9_2 : w5.cell? ⟨gb326, 2, none⟩ = some (.slice A1_2 l1_2.length c1_2) := (blk_cell BK326.out 2).trans rfl
      have hcz9_3 : w5.cell? ⟨gb326, 3, none⟩ = some (.slice A1_3 l1_3.length c1_3) := (blk_cell BK326.out 3).trans rfl
      have hfz9_0 := blk_frozen BK326.out 0
      have hfz9_1 := blk_frozen BK326.out 1
      have hfz9_2 := blk_frozen BK326.out 2
      have hfz9_3 := blk_frozen BK326.out 3
      go_wp2
      repeat (go_quiet (fail); try go_wp2)
      go_meet
      case rel => exact ⟨_, (true), (by first | rfl | (simp; done) | (simp [*]; done)), H', ⟨by first | omega | exact Nat.le_refl _⟩, ⟨by (with_reducible repeat (first | refine blk_drewN ?_ _ | refine blk_drew ?_ | refine blk_alloc ?_ _)); exact BK325.out⟩, ⟨by (with_reducible repeat (first | refine blk_drewN ?_ _ | refine blk_drew ?_ | refine blk_alloc ?_ _)); exact BK326.out⟩, ⟨by repeat (first | (with_reducible first | exact HB.out | apply below_alloc | apply pw_below_drewN | apply below_drew1 | refine below_set ?_ GE325.out | refine below_set ?_ GE326.out) | exact HB.out)⟩⟩
    · rw [if_neg c6] at H
      have c6b0 : (a0_0 != a1_0) = false := by simpa using c6
      (try (have c6b1 : decide (a0_0 = a1_0) = true := by simpa using c6))
      (try (have c6b2 : (a0_0 == a1_0) = true := by simpa using c6))
      clear c6
      (first | rw [c6b0] | (simp only [i64_w, i32_w]; rw [c6b0]) | skip)
      by_cases c10 : (l0_1.length : Int) = (l1_1.length : Int)
      · rw [if_pos c10] at H
        have c10b0 : ((l0_1.length : Int) == (l1_1.length : Int)) = true := beq_iff_eq.mpr c10
        have c10b1 : ((l0_1.length : Int) != (l1_1.length : Int)) = false := bne_eq_false_iff_eq.mpr c10
        have c10b2 : (l0_1.length == l1_1.length) = true := by first | simpa using c10 | (simp at c10 ⊢; omega)
        clear c10
        by_cases c11 : (l0_2.length : Int) = (l1_2.length : Int)
        · rw [if_pos c11] at H
          have c11b0 : ((l0_2.length : Int) == (l1_2.length : Int)) = true := beq_iff_eq.mpr c11
          have c11b1 : ((l0_2.length : Int) != (l1_2.length : Int)) = false := bne_eq_false_iff_eq.mpr c11
          have c11b2 : (l0_2.length == l1_2.length) = true := by first | simpa using c11 | (simp at c11 ⊢; omega)
          clear c11
          have H' := Aside0.mk H
          clear H
          have hnb12 := NB325_326.out
          have hnc12 := NB326_325.out
          have hcz13_0 : w5.cell? ⟨gb325, 0, none⟩ = some (.bool a0_0) := (blk_cell BK325.out 0).trans rfl
          have hcz13_1 : w5.cell? ⟨gb325, 1, none⟩ = some (.slice A0_1 l0_1.length c0_1) := (blk_cell BK325.out 1).trans rfl
          have hcz13_2 : w5.cell? ⟨gb325, 2, none⟩ = some (.slice A0_2 l0_2.length c0_2) := (blk_cell BK325.out 2).trans rfl
          have hcz13_3 : w5.cell? ⟨gb325, 3, none⟩ = some (.slice A0_3 l0_3.length c0_3) := (blk_cell BK325.out 3).trans rfl
          have hfz13_0 := blk_frozen BK325.out 0
          have hfz13_1 := blk_frozen BK325.out 1
          have hfz13_2 := blk_frozen BK325.out 2
          have hfz13_3 := blk_frozen BK325.out 3
          have hcz14_0 : w5.cell? ⟨gb326, 0, none⟩ = some (.bool a1_0) := (blk_cell BK326.out 0).trans rfl
          have hcz14_1 : w5.cell? ⟨gb326, 1, none⟩ = some (.slice A1_1 l1_1.length c1_1) := (blk_cell BK326.out 1).trans rfl
          have hcz14_2 : w5.cell? ⟨gb326, 2, none⟩ = some (.slice A1_2 l1_2.length c1_2) := (blk_cell BK326.out 2).trans rfl
          have hcz14_3 : w5.cell? ⟨gb326, 3, none⟩ = some (.slice A1_3 l1_3.length c1_3) := (blk_cell BK326.out 3).trans rfl
          have hfz14_0 := blk_frozen BK326.out 0
          have hfz14_1 := blk_frozen BK326.out 1
          have hfz14_2 := blk_frozen BK326.out 2
          have hfz14_3 := blk_frozen BK326.out 3
          go_wp2
          repeat (go_quiet (fail); try go_wp2)
          go_meet
          case rel => exact ⟨_, (((l0_3.length : Int) != (l1_3.length : Int))), (by first | rfl | (simp; done) | (simp [*]; done)), H', ⟨by first | omega | exact Nat.le_refl _⟩, ⟨by (with_reducible repeat (first | refine blk_drewN ?_ _ | refine blk_drew ?_ | refine blk_alloc ?_ _)); exact BK325.out⟩, ⟨by (with_reducible repeat (first | refine blk_drewN ?_ _ | refine blk_drew ?_ | refine blk_alloc ?_ _)); exact BK326.out⟩, ⟨by repeat (first | (with_reducible first | exact HB.out | apply below_alloc | apply pw_below_drewN | apply below_drew1 | refine below_set ?_ GE325.out | refine below_set ?_ GE326.out) | exact HB.out)⟩⟩
        · rw [if_neg c11] at H
          have c11b0 : ((l0_2.length : Int) == (l1_2.length : Int)) = false := beq_eq_false_iff_ne.mpr c11
          have c11b1 : ((l0_2.length : Int) != (l1_2.length : Int)) = true := bne_iff_ne.mpr c11
          have c11b2 : (l0_2.length == l1_2.length) = false := by first | simpa using c11 | (simp at c11 ⊢; omega)
          have H' := Aside0.mk H
          clear H
          have hnb15 := NB325_326.out
          have hnc15 := NB326_325.out
          have hcz16_0 : w5.cell? ⟨gb325, 0, none⟩ = some (.bool a0_0) := (blk_cell BK325.out 0).trans rfl
          have hcz16_1 : w5.cell? ⟨gb325, 1, none⟩ = some (.slice A0_1 l0_1.length c0_1) := (blk_cell BK325.out 1).trans rfl
          have hcz16_2 : w5.cell? ⟨gb325, 2, none⟩ = some (.slice A0_2 l0_2.length c0_2) := (blk_cell BK325.out 2).trans rfl
          have hcz16_3 : w5.cell? ⟨gb325, 3, none⟩ = some (.slice A0_3 l0_3.length c0_3) := (blk_cell BK325.out 3).trans rfl
          have hfz16_0 := blk_frozen BK325.out 0
          have hfz16_1 := blk_frozen BK325.out 1
          have hfz16_2 := blk_frozen BK325.out 2
          have hfz16_3 := blk_frozen BK325.out 3
          have hcz17_0 : w5.cell? ⟨gb326, 0, none⟩ = some (.bool a1_0) := (blk_cell BK326.out 0).trans rfl
          have hcz17_1 : w5.cell? ⟨gb326, 1, none⟩ = some (.slice A1_1 l1_1.length c1_1) := (blk_cell BK326.out 1).trans rfl
          have hcz17_2 : w5.cell? ⟨gb326, 2, none⟩ = some (.slice A1_2 l1_2.length c1_2) := (blk_cell BK326.out 2).trans rfl
          have hcz17_3 : w5.cell? ⟨gb326, 3, none⟩ = some (.slice A1_3 l1_3.length c1_3) := (blk_cell BK326.out 3).trans rfl
          have hfz17_0 := blk_frozen BK326.out 0
          have hfz17_1 := blk_frozen BK326.out 1
          have hfz17_2 := blk_frozen BK326.out 2
          have hfz17_3 := blk_frozen BK326.out 3
          go_wp2
          repeat (go_quiet (fail); try go_wp2)
          go_meet
          case rel => exact ⟨_, (true), (by first | rfl | (simp; done) | (simp [*]; done)), H', ⟨by first | omega | exact Nat.le_refl _⟩, ⟨by (with_reducible repeat (first | refine blk_drewN ?_ _ | refine blk_drew ?_ | refine blk_alloc ?_ _)); exact BK325.out⟩, ⟨by (with_reducible repeat (first | refine blk_drewN ?_ _ | refine blk_drew ?_ | refine blk_alloc ?_ _)); exact BK326.out⟩, ⟨by repeat (first | (with_reducible first | exact HB.out | apply below_alloc | apply pw_below_drewN | apply below_drew1 | refine below_set ?_ GE325.out | refine below_set ?_ GE326.out) | exact HB.out)⟩⟩
      · rw [if_neg c10] at H
        have c10b0 : ((l0_1.length : Int) == (l1_1.length : Int)) = false := beq_eq_false_iff_ne.mpr c10
        have c10b1 : ((l0_1.length : Int) != (l1_1.length : Int)) = true := bne_iff_ne.mpr c10
        have c10b2 : (l0_1.length == l1_1.length) = false := by first | simpa using c10 | (simp at c10 ⊢; omega)
        have H' := Aside0.mk H
        clear H
        have hnb18 := NB325_326.out
        have hnc18 := NB326_325.out
        have hcz19_0 : w5.cell? ⟨gb325, 0, none⟩ = some (.bool a0_0) := (blk_cell BK325.out 0).trans rfl
        have hcz19_1 : w5.cell? ⟨gb325, 1, none⟩ = some (.slice A0_1 l0_1.length c0_1) := (blk_cell BK325.out 1).trans rfl
        have hcz19_2 : w5.cell? ⟨gb325, 2, none⟩ = some (.slice A0_2 l0_2.length c0_2) := (blk_cell BK325.out 2).trans rfl
        have hcz19_3 : w5.cell? ⟨gb325, 3, none⟩ = some (.slice A0_3 l0_3.length c0_3) := (blk_cell BK325.out 3).trans rfl
        have hfz19_0 := blk_frozen BK325.out 0
        have hfz19_1 := blk_frozen BK325.out 1
        have hfz19_2 := blk_frozen BK325.out 2
        have hfz19_3 := blk_frozen BK325.out 3
        have hcz20_0 : w5.cell? ⟨gb326, 0, none⟩ = some (.bool a1_0) := (blk_cell BK326.out 0).trans rfl
        have hcz20_1 : w5.cell? ⟨gb326, 1, none⟩ = some (.slice A1_1 l1_1.length c1_1) := (blk_cell BK326.out 1).trans rfl
        have hcz20_2 : w5.cell? ⟨gb326, 2, none⟩ = some (.slice A1_2 l1_2.length c1_2) := (blk_cell BK326.out 2).trans rfl
        have hcz20_3 : w5.cell? ⟨gb326, 3, none⟩ = some (.slice A1_3 l1_3.length c1_3) := (blk_cell BK326.out 3).trans rfl
        have hfz20_0 := blk_frozen BK326.out 0
        have hfz20_1 := blk_frozen BK326.out 1
        have hfz20_2 := blk_frozen BK326.out 2
        have hfz20_3 := blk_frozen BK326.out 3
        go_wp2
        repeat (go_quiet (fail); try go_wp2)
        go_meet
        case rel => exact ⟨_, (true), (by first | rfl | (simp; done) | (simp [*]; done)), H', ⟨by first | omega | exact Nat.le_refl _⟩, ⟨by (with_reducible repeat (first | refine blk_drewN ?_ _ | refine blk_drew ?_ | refine blk_alloc ?_ _)); exact BK325.out⟩, ⟨by (with_reducible repeat (first | refine blk_drewN ?_ _ | refine blk_drew ?_ | refine blk_alloc ?_ _)); exact BK326.out⟩, ⟨by repeat (first | (with_reducible first | exact HB.out | apply below_alloc | apply pw_below_drewN | apply below_drew1 | refine below_set ?_ GE325.out | refine below_set ?_ GE326.out) | exact HB.out)⟩⟩
  case rest =>
    clear HC3
    try clear c1
    try clear p2
    try clear c6
    try clear c6b0
    try clear c6b1
    try clear c6b2
    try clear c7
    try clear c10
    try clear c10b0
    try clear c10b1
    try clear c10b2
    try clear c11
    try clear c11b0
    try clear c11b1
    try clear c11b2
    try clear c12
    try clear c15
    try clear c18
    try clear c19
    try clear hcz13_0
    try clear hcz13_1
    try clear hcz13_2
    try clear hcz13_3
    try clear hcz14_0
    try clear hcz14_1
    try clear hcz14_2
    try clear hcz14_3
    try clear hcz16_0
    try clear hcz16_1
    try clear hcz16_2
    try clear hcz16_3
    try clear hcz17_0
    try clear hcz17_1
    try clear hcz17_2
    try clear hcz17_3
    try clear hcz19_0
    try clear hcz19_1
    try clear hcz19_2
    try clear hcz19_3
    try clear hcz20_0
    try clear hcz20_1
    try clear hcz20_2
    try clear hcz20_3
    try clear hcz8_0
    try clear hcz8_1
    try clear hcz8_2
    try clear hcz8_3
    try clear hcz9_0
    try clear hcz9_1
    try clear hcz9_2
    try clear hcz9_3
    try clear hfz13_0
    try clear hfz13_1
    try clear hfz13_2
    try clear hfz13_3
    try clear hfz14_0
    try clear hfz14_1
    try clear hfz14_2
    try clear hfz14_3
    try clear hfz16_0
    try clear hfz16_1
    try clear hfz16_2
    try clear hfz16_3
    try clear hfz17_0
    try clear hfz17_1
    try clear hfz17_2
    try clear hfz17_3
    try clear hfz19_0
    try clear hfz19_1
    try clear hfz19_2
    try clear hfz19_3
    try clear hfz20_0
    try clear hfz20_1
    try clear hfz20_2
    try clear hfz20_3
    try clear hfz8_0
    try clear hfz8_1
    try clear hfz8_2
    try clear hfz8_3
    try clear hfz9_0
    try clear hfz9_1
    try clear hfz9_2
    try clear hfz9_3
    obtain ⟨kq, x39_2, rfl, HA, HJ2, BK325, BK326, HB⟩ := hcut
    cases kq with
    | zero => exact absurd HA.out (by simp [cisternref11_Same.j0])
    | succ kj2 =>
      have H := HA.out
      clear HA
      simp only [cisternref11_Same.j0] at H
      by_cases c21 : x39_2 = true
      · subst c21
        have H1 : (some false) = some r := by rw [if_pos rfl] at H; exact H
        clear H
        have H := H1
        clear H1
        obtain rfl := Option.some.inj H
        go_wp2
        repeat (go_quiet (fail); try go_wp2)
        go_ret
        exact ⟨by first | rfl | (simp [errW_none, errW_some] <;> rfl) | (simp [*, errW_none, errW_some] <;> rfl), by repeat (first | (with_reducible first | exact HB.out | apply below_alloc | apply pw_below_drewN | apply below_drew1 | refine below_set ?_ GE325.out | refine below_set ?_ GE326.out) | exact HB.out)⟩
      · replace c21 := Bool.eq_false_iff.mpr c21
        subst c21
        have H1 : (cisternref11_Same.l0 kj2 0 a0_0 l0_1 l0_2 l0_3 a1_0 l1_1 l1_2 l1_3) = some r := by rw [if_neg (show ¬ (false = true) by decide)] at H; exact H
        clear H
        have H := H1
        clear H1
        have H' := Aside0.mk H
        clear H
        go_wp2
        repeat (go_quiet (fail); try go_wp2)
        go_loopg [5] kj2 (fun kq v5 w' => ∃ (x5_2 : Int), v5 = .int .i64 x5_2 ∧ Aside0 (cisternref11_Same.l0 kq x5_2 a0_0 l0_1 l0_2 l0_3 a1_0 l1_1 l1_2 l1_3 = some r) ∧ Aside0 (kq ≤ kj2) ∧ Aside0 (w'.heap[gb325]? = some (.cells #[.bool a0_0, (.slice A0_1 l0_1.length c0_1), (.slice A0_2 l0_2.length c0_2), (.slice A0_3 l0_3.length c0_3)] 26 (0, 0))) ∧ Aside0 (w'.heap[gb326]? = some (.cells #[.bool a1_0, (.slice A1_1 l1_1.length c1_1), (.slice A1_2 l1_2.length c1_2), (.slice A1_3 l1_3.length c1_3)] 26 (0, 0))) ∧ Aside0 (Below w.heap.size w w'))
        case atStart => exact ⟨(0), (by first | rfl | (simp; done) | (simp [*]; done)), H', ⟨Nat.le_refl _⟩, ⟨by (with_reducible repeat (first | refine blk_drewN ?_ _ | refine blk_drew ?_ | refine blk_alloc ?_ _)); exact BK325.out⟩, ⟨by (with_reducible repeat (first | refine blk_drewN ?_ _ | refine blk_drew ?_ | refine blk_alloc ?_ _)); exact BK326.out⟩, ⟨by repeat (first | (with_reducible first | exact HB.out | apply below_alloc | apply pw_below_drewN | apply below_drew1 | refine below_set ?_ GE325.out | refine below_set ?_ GE326.out) | exact HB.out)⟩⟩
        case round =>
          clear H'
          try clear c1
          try clear c2
          try clear p2
          try clear c6
          try clear c6b0
          try clear c6b1
          try clear c6b2
          try clear c7
          try clear c10
          try clear c10b0
          try clear c10b1
          try clear c10b2
          try clear c11
          try clear c11b0
          try clear c11b1
          try clear c11b2
          try clear c12
          try clear c15
          try clear c18
          try clear c19
          try clear c21
          try clear hcz13_0
          try clear hcz13_1
          try clear hcz13_2
          try clear hcz13_3
          try clear hcz14_0
          try clear hcz14_1
          try clear hcz14_2
          try clear hcz14_3
          try clear hcz16_0
          try clear hcz16_1
          try clear hcz16_2
          try clear hcz16_3
          try clear hcz17_0
          try clear hcz17_1
          try clear hcz17_2
          try clear hcz17_3
          try clear hcz19_0
          try clear hcz19_1
          try clear hcz19_2
          try clear hcz19_3
          try clear hcz20_0
          try clear hcz20_1
          try clear hcz20_2
          try clear hcz20_3
          try clear hcz8_0
          try clear hcz8_1
          try clear hcz8_2
          try clear hcz8_3
          try clear hcz9_0
          try clear hcz9_1
          try clear hcz9_2
          try clear hcz9_3
          try clear hfz13_0
          try clear hfz13_1
          try clear hfz13_2
          try clear hfz13_3
          try clear hfz14_0
          try clear hfz14_1
          try clear hfz14_2
          try clear hfz14_3
          try clear hfz16_0
          try clear hfz16_1
          try clear hfz16_2
          try clear hfz16_3
          try clear hfz17_0
          try clear hfz17_1
          try clear hfz17_2
          try clear hfz17_3
          try clear hfz19_0
          try clear hfz19_1
          try clear hfz19_2
          try clear hfz19_3
          try clear hfz20_0
          try clear hfz20_1
          try clear hfz20_2
          try clear hfz20_3
          try clear hfz8_0
          try clear hfz8_1
          try clear hfz8_2
          try clear hfz8_3
          try clear hfz9_0
          try clear hfz9_1
          try clear hfz9_2
          try clear hfz9_3
          try clear p2
          obtain ⟨x5_2, rfl, HA, HK2, BK325, BK326, HB⟩ := hrel
          cases gk with
          | zero => exact absurd HA.out (by simp [cisternref11_Same.l0])
          | succ k2 =>
            have H := HA.out
            clear HA
            simp only [cisternref11_Same.l0] at H
            by_cases c22 : x5_2 < (l0_1.length : Int)
            · rw [if_pos c22] at H
              have c22b0 : decide (x5_2 < (l0_1.length : Int)) = true := decide_eq_true c22
              clear c22
              by_cases c23 : 0 ≤ x5_2
              · rw [if_pos c23] at H
                have c23b0 : decide (0 ≤ x5_2) = true := decide_eq_true c23
                clear c23
                by_cases c24 : x5_2 < (l1_1.length : Int)
                · rw [if_pos c24] at H
                  have c24b0 : decide (x5_2 < (l1_1.length : Int)) = true := decide_eq_true c24
                  clear c24
                  by_cases c25 : (!((((rd_T48 l0_1 x5_2).f0).toList) == (((rd_T48 l1_1 x5_2).f0).toList)) || (!((((rd_T48 l0_1 x5_2).f1).toList) == (((rd_T48 l1_1 x5_2).f1).toList)))) = true
                  · rw [if_pos c25] at H
                    have c25b0 : (!((((rd_T48 l0_1 x5_2).f0).toList) == (((rd_T48 l1_1 x5_2).f0).toList)) || (!((((rd_T48 l0_1 x5_2).f1).toList) == (((rd_T48 l1_1 x5_2).f1).toList)))) = true := c25
                    clear c25
                    obtain rfl := Option.some.inj H
                    have hnb26 := NB325_326.out
                    have hnc26 := NB326_325.out
                    have hcz27_0 : wr.cell? ⟨gb325, 0, none⟩ = some (.bool a0_0) := (blk_cell BK325.out 0).trans rfl
                    have hcz27_1 : wr.cell? ⟨gb325, 1, none⟩ = some (.slice A0_1 l0_1.length c0_1) := (blk_cell BK325.out 1).trans rfl
                    have hcz27_2 : wr.cell? ⟨gb325, 2, none⟩ = some (.slice A0_2 l0_2.length c0_2) := (blk_cell BK325.out 2).trans rfl
                    have hcz27_3 : wr.cell? ⟨gb325, 3, none⟩ = some (.slice A0_3 l0_3.length c0_3) := (blk_cell BK325.out 3).trans rfl
                    have hfz27_0 := blk_frozen BK325.out 0
                    have hfz27_1 := blk_frozen BK325.out 1
                    have hfz27_2 := blk_frozen BK325.out 2
                    have hfz27_3 := blk_frozen BK325.out 3
                    have p327 : 0 ≤ (x5_2 : Int) := of_decide_eq_true (by first | (with_reducible assumption) | assumption)
                    have q327 : x5_2 < (l0_1.length : Int) := of_decide_eq_true (by first | (with_reducible assumption) | assumption)
                    obtain ⟨ad327, e327, hx327_0, hx327_1⟩ := at_T48 HR0_1.out x5_2 p327 q327
                    cases e327
                    replace hx327_0 := (HB.out.cell (World.block_lt_of_cell? w _ hx327_0)).trans hx327_0
                    replace hx327_1 := (HB.out.cell (World.block_lt_of_cell? w _ hx327_1)).trans hx327_1
                    replace p327 := eq_true p327
                    replace q327 := eq_true q327
                    have hcz28_0 : wr.cell? ⟨gb326, 0, none⟩ = some (.bool a1_0) := (blk_cell BK326.out 0).trans rfl
                    have hcz28_1 : wr.cell? ⟨gb326, 1, none⟩ = some (.slice A1_1 l1_1.length c1_1) := (blk_cell BK326.out 1).trans rfl
                    have hcz28_2 : wr.cell? ⟨gb326, 2, none⟩ = some (.slice A1_2 l1_2.length c1_2) := (blk_cell BK326.out 2).trans rfl
                    have hcz28_3 : wr.cell? ⟨gb326, 3, none⟩ = some (.slice A1_3 l1_3.length c1_3) := (blk_cell BK326.out 3).trans rfl
                    have hfz28_0 := blk_frozen BK326.out 0
                    have hfz28_1 := blk_frozen BK326.out 1
                    have hfz28_2 := blk_frozen BK326.out 2
                    have hfz28_3 := blk_frozen BK326.out 3
                    have p328 : 0 ≤ (x5_2 : Int) := of_decide_eq_true (by first | (with_reducible assumption) | assumption)
                    have q328 : x5_2 < (l1_1.length : Int) := of_decide_eq_true (by first | (with_reducible assumption) | assumption)
                    obtain ⟨ad328, e328, hx328_0, hx328_1⟩ := at_T48 HR1_1.out x5_2 p328 q328
                    cases e328
                    replace hx328_0 := (HB.out.cell (World.block_lt_of_cell? w _ hx328_0)).trans hx328_0
                    replace hx328_1 := (HB.out.cell (World.block_lt_of_cell? w _ hx328_1)).trans hx328_1
                    replace p328 := eq_true p328
                    replace q328 := eq_true q328
                    go_wp2
                    repeat (go_quiet (fail); try go_wp2)
                    go_ret
                    exact ⟨by first | rfl | (simp [errW_none, errW_some] <;> rfl) | (simp [*, errW_none, errW_some] <;> rfl), by repeat (first | (with_reducible first | exact HB.out | apply below_alloc | apply pw_below_drewN | apply below_drew1 | refine below_set ?_ GE325.out | refine below_set ?_ GE326.out) | exact HB.out)⟩
                  · rw [if_neg c25] at H
                    have c25b0 : (!((((rd_T48 l0_1 x5_2).f0).toList) == (((rd_T48 l1_1 x5_2).f0).toList)) || (!((((rd_T48 l0_1 x5_2).f1).toList) == (((rd_T48 l1_1 x5_2).f1).toList)))) = false := by simpa using c25
                    clear c25
                    have H' := Aside0.mk H
                    clear H
                    have hnb29 := NB325_326.out
                    have hnc29 := NB326_325.out
                    have hcz30_0 : wr.cell? ⟨gb325, 0, none⟩ = some (.bool a0_0) := (blk_cell BK325.out 0).trans rfl
                    have hcz30_1 : wr.cell? ⟨gb325, 1, none⟩ = some (.slice A0_1 l0_1.length c0_1) := (blk_cell BK325.out 1).trans rfl
                    have hcz30_2 : wr.cell? ⟨gb325, 2, none⟩ = some (.slice A0_2 l0_2.length c0_2) := (blk_cell BK325.out 2).trans rfl
                    have hcz30_3 : wr.cell? ⟨gb325, 3, none⟩ = some (.slice A0_3 l0_3.length c0_3) := (blk_cell BK325.out 3).trans rfl
                    have hfz30_0 := blk_frozen BK325.out 0
                    have hfz30_1 := blk_frozen BK325.out 1
                    have hfz30_2 := blk_frozen BK325.out 2
                    have hfz30_3 := blk_frozen BK325.out 3
                    have p327 : 0 ≤ (x5_2 : Int) := of_decide_eq_true (by first | (with_reducible assumption) | assumption)
                    have q327 : x5_2 < (l0_1.length : Int) := of_decide_eq_true (by first | (with_reducible assumption) | assumption)
                    obtain ⟨ad327, e327, hx327_0, hx327_1⟩ := at_T48 HR0_1.out x5_2 p327 q327
                    cases e327
                    replace hx327_0 := (HB.out.cell (World.block_lt_of_cell? w _ hx327_0)).trans hx327_0
                    replace hx327_1 := (HB.out.cell (World.block_lt_of_cell? w _ hx327_1)).trans hx327_1
                    replace p327 := eq_true p327
                    replace q327 := eq_true q327
                    have hcz31_0 : wr.cell? ⟨gb326, 0, none⟩ = some (.bool a1_0) := (blk_cell BK326.out 0).trans rfl
                    have hcz31_1 : wr.cell? ⟨gb326, 1, none⟩ = some (.slice A1_1 l1_1.length c1_1) := (blk_cell BK326.out 1).trans rfl
                    have hcz31_2 : wr.cell? ⟨gb326, 2, none⟩ = some (.slice A1_2 l1_2.length c1_2) := (blk_cell BK326.out 2).trans rfl
                    have hcz31_3 : wr.cell? ⟨gb326, 3, none⟩ = some (.slice A1_3 l1_3.length c1_3) := (blk_cell BK326.out 3).trans rfl
                    have hfz31_0 := blk_frozen BK326.out 0
                    have hfz31_1 := blk_frozen BK326.out 1
                    have hfz31_2 := blk_frozen BK326.out 2
                    have hfz31_3 := blk_frozen BK326.out 3
                    have p328 : 0 ≤ (x5_2 : Int) := of_decide_eq_true (by first | (with_reducible assumption) | assumption)
                    have q328 : x5_2 < (l1_1.length : Int) := of_decide_eq_true (by first | (with_reducible assumption) | assumption)
                    obtain ⟨ad328, e328, hx328_0, hx328_1⟩ := at_T48 HR1_1.out x5_2 p328 q328
                    cases e328
                    replace hx328_0 := (HB.out.cell (World.block_lt_of_cell? w _ hx328_0)).trans hx328_0
                    replace hx328_1 := (HB.out.cell (World.block_lt_of_cell? w _ hx328_1)).trans hx328_1
                    replace p328 := eq_true p328
                    replace q328 := eq_true q328
                    go_wp2
                    repeat (go_quiet (fail); try go_wp2)
                    go_roundg k2
                    case measure => have := HJ2.out; have := HK2.out; omega
                    case rel => exact ⟨(wrap64 (x5_2 + 1)), (by first | rfl | (simp; done) | (simp [*]; done)), H', ⟨by have := HJ2.out; have := HK2.out; omega⟩, ⟨by (with_reducible repeat (first | refine blk_drewN ?_ _ | refine blk_drew ?_ | refine blk_alloc ?_ _)); exact BK325.out⟩, ⟨by (with_reducible repeat (first | refine blk_drewN ?_ _ | refine blk_drew ?_ | refine blk_alloc ?_ _)); exact BK326.out⟩, ⟨by repeat (first | (with_reducible first | exact HB.out | apply below_alloc | apply pw_below_drewN | apply below_drew1 | refine below_set ?_ GE325.out | refine below_set ?_ GE326.out) | exact HB.out)⟩⟩
                · rw [if_neg c24] at H
                  exact absurd H (by simp)
              · rw [if_neg c23] at H
                exact absurd H (by simp)
            · rw [if_neg c22] at H
              have c22b0 : decide (x5_2 < (l0_1.length : Int)) = false := decide_eq_false c22
              clear c22
              have H' := Aside0.mk H
              clear H
              have hnb32 := NB325_326.out
              have hnc32 := NB326_325.out
              have hcz33_0 : wr.cell? ⟨gb325, 0, none⟩ = some (.bool a0_0) := (blk_cell BK325.out 0).trans rfl
              have hcz33_1 : wr.cell? ⟨gb325, 1, none⟩ = some (.slice A0_1 l0_1.length c0_1) := (blk_cell BK325.out 1).trans rfl
              have hcz33_2 : wr.cell? ⟨gb325, 2, none⟩ = some (.slice A0_2 l0_2.length c0_2) := (blk_cell BK325.out 2).trans rfl
              have hcz33_3 : wr.cell? ⟨gb325, 3, none⟩ = some (.slice A0_3 l0_3.length c0_3) := (blk_cell BK325.out 3).trans rfl
              have hfz33_0 := blk_frozen BK325.out 0
              have hfz33_1 := blk_frozen BK325.out 1
              have hfz33_2 := blk_frozen BK325.out 2
              have hfz33_3 := blk_frozen BK325.out 3
              go_wp2
              repeat (go_quiet (fail); try go_wp2)
              go_loopg [6] k2 (fun kq v6 w' => ∃ (x6_3 : Int), v6 = .int .i64 x6_3 ∧ Aside0 (cisternref11_Same.l1 kq x6_3 a0_0 l0_1 l0_2 l0_3 a1_0 l1_1 l1_2 l1_3 = some r) ∧ Aside0 (kq ≤ k2) ∧ Aside0 (w'.heap[gb325]? = some (.cells #[.bool a0_0, (.slice A0_1 l0_1.length c0_1), (.slice A0_2 l0_2.length c0_2), (.slice A0_3 l0_3.length c0_3)] 26 (0, 0))) ∧ Aside0 (w'.heap[gb326]? = some (.cells #[.bool a1_0, (.slice A1_1 l1_1.length c1_1), (.slice A1_2 l1_2.length c1_2), (.slice A1_3 l1_3.length c1_3)] 26 (0, 0))) ∧ Aside0 (Below w.heap.size w w'))
              case atStart => exact ⟨(0), (by first | rfl | (simp; done) | (simp [*]; done)), H', ⟨Nat.le_refl _⟩, ⟨by (with_reducible repeat (first | refine blk_drewN ?_ _ | refine blk_drew ?_ | refine blk_alloc ?_ _)); exact BK325.out⟩, ⟨by (with_reducible repeat (first | refine blk_drewN ?_ _ | refine blk_drew ?_ | refine blk_alloc ?_ _)); exact BK326.out⟩, ⟨by repeat (first | (with_reducible first | exact HB.out | apply below_alloc | apply pw_below_drewN | apply below_drew1 | refine below_set ?_ GE325.out | refine below_set ?_ GE326.out) | exact HB.out)⟩⟩
              case round =>
                clear H'
                try clear c1
                try clear c2
                try clear p2
                try clear c3
                try clear p3
                try clear q3
                try clear hx3
                try clear c6
                try clear c6b0
                try clear c6b1
                try clear c6b2
                try clear p6
                try clear c7
                try clear c10
                try clear c10b0
                try clear c10b1
                try clear c10b2
                try clear c11
                try clear c11b0
                try clear c11b1
                try clear c11b2
                try clear c12
                try clear c15
                try clear c18
                try clear c19
                try clear c21
                try clear c22
                try clear c22b0
                try clear c23
                try clear c23b0
                try clear c24
                try clear c24b0
                try clear c25
                try clear c25b0
                try clear c26
                try clear c29
                try clear c32
                try clear p32
                try clear q32
                try clear hx32
                try clear hcz13_0
                try clear hcz13_1
                try clear hcz13_2
                try clear hcz13_3
                try clear hcz14_0
                try clear hcz14_1
                try clear hcz14_2
                try clear hcz14_3
                try clear hcz16_0
                try clear hcz16_1
                try clear hcz16_2
                try clear hcz16_3
                try clear hcz17_0
                try clear hcz17_1
                try clear hcz17_2
                try clear hcz17_3
                try clear hcz19_0
                try clear hcz19_1
                try clear hcz19_2
                try clear hcz19_3
                try clear hcz20_0
                try clear hcz20_1
                try clear hcz20_2
                try clear hcz20_3
                try clear hcz27_0
                try clear hcz27_1
                try clear hcz27_2
                try clear hcz27_3
                try clear hcz28_0
                try clear hcz28_1
                try clear hcz28_2
                try clear hcz28_3
                try clear hcz30_0
                try clear hcz30_1
                try clear hcz30_2
                try clear hcz30_3
                try clear hcz31_0
                try clear hcz31_1
                try clear hcz31_2
                try clear hcz31_3
                try clear hcz33_0
                try clear hcz33_1
                try clear hcz33_2
                try clear hcz33_3
                try clear hcz8_0
                try clear hcz8_1
                try clear hcz8_2
                try clear hcz8_3
                try clear hcz9_0
                try clear hcz9_1
                try clear hcz9_2
                try clear hcz9_3
                try clear hfz13_0
                try clear hfz13_1
                try clear hfz13_2
                try clear hfz13_3
                try clear hfz14_0
                try clear hfz14_1
                try clear hfz14_2
                try clear hfz14_3
                try clear hfz16_0
                try clear hfz16_1
                try clear hfz16_2
                try clear hfz16_3
                try clear hfz17_0
                try clear hfz17_1
                try clear hfz17_2
                try clear hfz17_3
                try clear hfz19_0
                try clear hfz19_1
                try clear hfz19_2
                try clear hfz19_3
                try clear hfz20_0
                try clear hfz20_1
                try clear hfz20_2
                try clear hfz20_3
                try clear hfz27_0
                try clear hfz27_1
                try clear hfz27_2
                try clear hfz27_3
                try clear hfz28_0
                try clear hfz28_1
                try clear hfz28_2
                try clear hfz28_3
                try clear hfz30_0
                try clear hfz30_1
                try clear hfz30_2
                try clear hfz30_3
                try clear hfz31_0
                try clear hfz31_1
                try clear hfz31_2
                try clear hfz31_3
                try clear hfz33_0
                try clear hfz33_1
                try clear hfz33_2
                try clear hfz33_3
                try clear hfz8_0
                try clear hfz8_1
                try clear hfz8_2
                try clear hfz8_3
                try clear hfz9_0
                try clear hfz9_1
                try clear hfz9_2
                try clear hfz9_3
                try clear hx327_0
                try clear hx327_1
                try clear hx328_0
                try clear hx328_1
                try clear p2
                try clear p327
                try clear p328
                try clear q327
                try clear q328
                obtain ⟨x6_3, rfl, HA, HK3, BK325, BK326, HB⟩ := hrel
                cases gk with
                | zero => exact absurd HA.out (by simp [cisternref11_Same.l1])
                | succ k3 =>
                  have H := HA.out
                  clear HA
                  simp only [cisternref11_Same.l1] at H
                  by_cases c34 : x6_3 < (l0_2.length : Int)
                  · rw [if_pos c34] at H
                    have c34b0 : decide (x6_3 < (l0_2.length : Int)) = true := decide_eq_true c34
                    clear c34
                    by_cases c35 : 0 ≤ x6_3
                    · rw [if_pos c35] at H
                      have c35b0 : decide (0 ≤ x6_3) = true := decide_eq_true c35
                      clear c35
                      by_cases c36 : x6_3 < (l1_2.length : Int)
                      · rw [if_pos c36] at H
                        have c36b0 : decide (x6_3 < (l1_2.length : Int)) = true := decide_eq_true c36
                        clear c36
                        by_cases c37 : (rdOf ByteArray.empty l0_2 x6_3).toList = (rdOf ByteArray.empty l1_2 x6_3).toList
                        · rw [if_pos c37] at H
                          have c37b0 : ((rdOf ByteArray.empty l0_2 x6_3).toList == (rdOf ByteArray.empty l1_2 x6_3).toList) = true := beq_iff_eq.mpr c37
                          have c37b1 : ((rdOf ByteArray.empty l0_2 x6_3).toList != (rdOf ByteArray.empty l1_2 x6_3).toList) = false := bne_eq_false_iff_eq.mpr c37
                          clear c37
                          have H' := Aside0.mk H
                          clear H
                          have hnb38 := NB325_326.out
                          have hnc38 := NB326_325.out
                          have hcz39_0 : wr.cell? ⟨gb325, 0, none⟩ = some (.bool a0_0) := (blk_cell BK325.out 0).trans rfl
                          have hcz39_1 : wr.cell? ⟨gb325, 1, none⟩ = some (.slice A0_1 l0_1.length c0_1) := (blk_cell BK325.out 1).trans rfl
                          have hcz39_2 : wr.cell? ⟨gb325, 2, none⟩ = some (.slice A0_2 l0_2.length c0_2) := (blk_cell BK325.out 2).trans rfl
                          have hcz39_3 : wr.cell? ⟨gb325, 3, none⟩ = some (.slice A0_3 l0_3.length c0_3) := (blk_cell BK325.out 3).trans rfl
                          have hfz39_0 := blk_frozen BK325.out 0
                          have hfz39_1 := blk_frozen BK325.out 1
                          have hfz39_2 := blk_frozen BK325.out 2
                          have hfz39_3 := blk_frozen BK325.out 3
                          have p329 : 0 ≤ (x6_3 : Int) := of_decide_eq_true (by first | (with_reducible assumption) | assumption)
                          have q329 : x6_3 < (l0_2.length : Int) := of_decide_eq_true (by first | (with_reducible assumption) | assumption)
                          obtain ⟨ad329, e329, hx329_0⟩ := Kd.at_string HR0_2.out x6_3 p329 q329
                          cases e329
                          replace hx329_0 := (HB.out.cell (World.block_lt_of_cell? w _ hx329_0)).trans hx329_0
                          replace p329 := eq_true p329
                          replace q329 := eq_true q329
                          have hcz40_0 : wr.cell? ⟨gb326, 0, none⟩ = some (.bool a1_0) := (blk_cell BK326.out 0).trans rfl
                          have hcz40_1 : wr.cell? ⟨gb326, 1, none⟩ = some (.slice A1_1 l1_1.length c1_1) := (blk_cell BK326.out 1).trans rfl
                          have hcz40_2 : wr.cell? ⟨gb326, 2, none⟩ = some (.slice A1_2 l1_2.length c1_2) := (blk_cell BK326.out 2).trans rfl
                          have hcz40_3 : wr.cell? ⟨gb326, 3, none⟩ = some (.slice A1_3 l1_3.length c1_3) := (blk_cell BK326.out 3).trans rfl
                          have hfz40_0 := blk_frozen BK326.out 0
                          have hfz40_1 := blk_frozen BK326.out 1
                          have hfz40_2 := blk_frozen BK326.out 2
                          have hfz40_3 := blk_frozen BK326.out 3
                          have p330 : 0 ≤ (x6_3 : Int) := of_decide_eq_true (by first | (with_reducible assumption) | assumption)
                          have q330 : x6_3 < (l1_2.length : Int) := of_decide_eq_true (by first | (with_reducible assumption) | assumption)
                          obtain ⟨ad330, e330, hx330_0⟩ := Kd.at_string HR1_2.out x6_3 p330 q330
                          cases e330
                          replace hx330_0 := (HB.out.cell (World.block_lt_of_cell? w _ hx330_0)).trans hx330_0
                          replace p330 := eq_true p330
                          replace q330 := eq_true q330
                          go_wp2
                          repeat (go_quiet (fail); try go_wp2)
                          go_roundg k3
                          case measure => have := HJ2.out; have := HK2.out; have := HK3.out; omega
                          case rel => exact ⟨(wrap64 (x6_3 + 1)), (by first | rfl | (simp; done) | (simp [*]; done)), H', ⟨by have := HJ2.out; have := HK2.out; have := HK3.out; omega⟩, ⟨by (with_reducible repeat (first | refine blk_drewN ?_ _ | refine blk_drew ?_ | refine blk_alloc ?_ _)); exact BK325.out⟩, ⟨by (with_reducible repeat (first | refine blk_drewN ?_ _ | refine blk_drew ?_ | refine blk_alloc ?_ _)); exact BK326.out⟩, ⟨by repeat (first | (with_reducible first | exact HB.out | apply below_alloc | apply pw_below_drewN | apply below_drew1 | refine below_set ?_ GE325.out | refine below_set ?_ GE326.out) | exact HB.out)⟩⟩
                        · rw [if_neg c37] at H
                          have c37b0 : ((rdOf ByteArray.empty l0_2 x6_3).toList == (rdOf ByteArray.empty l1_2 x6_3).toList) = false := beq_eq_false_iff_ne.mpr c37
                          have c37b1 : ((rdOf ByteArray.empty l0_2 x6_3).toList != (rdOf ByteArray.empty l1_2 x6_3).toList) = true := bne_iff_ne.mpr c37
                          obtain rfl := Option.some.inj H
                          have hnb41 := NB325_326.out
                          have hnc41 := NB326_325.out
                          have hcz42_0 : wr.cell? ⟨gb325, 0, none⟩ = some (.bool a0_0) := (blk_cell BK325.out 0).trans rfl
                          have hcz42_1 : wr.cell? ⟨gb325, 1, none⟩ = some (.slice A0_1 l0_1.length c0_1) := (blk_cell BK325.out 1).trans rfl
                          have hcz42_2 : wr.cell? ⟨gb325, 2, none⟩ = some (.slice A0_2 l0_2.length c0_2) := (blk_cell BK325.out 2).trans rfl
                          have hcz42_3 : wr.cell? ⟨gb325, 3, none⟩ = some (.slice A0_3 l0_3.length c0_3) := (blk_cell BK325.out 3).trans rfl
                          have hfz42_0 := blk_frozen BK325.out 0
                          have hfz42_1 := blk_frozen BK325.out 1
                          have hfz42_2 := blk_frozen BK325.out 2
                          have hfz42_3 := blk_frozen BK325.out 3
                          have p329 : 0 ≤ (x6_3 : Int) := of_decide_eq_true (by first | (with_reducible assumption) | assumption)
                          have q329 : x6_3 < (l0_2.length : Int) := of_decide_eq_true (by first | (with_reducible assumption) | assumption)
                          obtain ⟨ad329, e329, hx329_0⟩ := Kd.at_string HR0_2.out x6_3 p329 q329
                          cases e329
                          replace hx329_0 := (HB.out.cell (World.block_lt_of_cell? w _ hx329_0)).trans hx329_0
                          replace p329 := eq_true p329
                          replace q329 := eq_true q329
                          have hcz43_0 : wr.cell? ⟨gb326, 0, none⟩ = some (.bool a1_0) := (blk_cell BK326.out 0).trans rfl
                          have hcz43_1 : wr.cell? ⟨gb326, 1, none⟩ = some (.slice A1_1 l1_1.length c1_1) := (blk_cell BK326.out 1).trans rfl
                          have hcz43_2 : wr.cell? ⟨gb326, 2, none⟩ = some (.slice A1_2 l1_2.length c1_2) := (blk_cell BK326.out 2).trans rfl
                          have hcz43_3 : wr.cell? ⟨gb326, 3, none⟩ = some (.slice A1_3 l1_3.length c1_3) := (blk_cell BK326.out 3).trans rfl
                          have hfz43_0 := blk_frozen BK326.out 0
                          have hfz43_1 := blk_frozen BK326.out 1
                          have hfz43_2 := blk_frozen BK326.out 2
                          have hfz43_3 := blk_frozen BK326.out 3
                          have p330 : 0 ≤ (x6_3 : Int) := of_decide_eq_true (by first | (with_reducible assumption) | assumption)
                          have q330 : x6_3 < (l1_2.length : Int) := of_decide_eq_true (by first | (with_reducible assumption) | assumption)
                          obtain ⟨ad330, e330, hx330_0⟩ := Kd.at_string HR1_2.out x6_3 p330 q330
                          cases e330
                          replace hx330_0 := (HB.out.cell (World.block_lt_of_cell? w _ hx330_0)).trans hx330_0
                          replace p330 := eq_true p330
                          replace q330 := eq_true q330
                          go_wp2
                          repeat (go_quiet (fail); try go_wp2)
                          go_ret
                          exact ⟨by first | rfl | (simp [errW_none, errW_some] <;> rfl) | (simp [*, errW_none, errW_some] <;> rfl), by repeat (first | (with_reducible first | exact HB.out | apply below_alloc | apply pw_below_drewN | apply below_drew1 | refine below_set ?_ GE325.out | refine below_set ?_ GE326.out) | exact HB.out)⟩
                      · rw [if_neg c36] at H
                        exact absurd H (by simp)
                    · rw [if_neg c35] at H
                      exact absurd H (by simp)
                  · rw [if_neg c34] at H
                    have c34b0 : decide (x6_3 < (l0_2.length : Int)) = false := decide_eq_false c34
                    clear c34
                    have H' := Aside0.mk H
                    clear H
                    have hnb44 := NB325_326.out
                    have hnc44 := NB326_325.out
                    have hcz45_0 : wr.cell? ⟨gb325, 0, none⟩ = some (.bool a0_0) := (blk_cell BK325.out 0).trans rfl
                    have hcz45_1 : wr.cell? ⟨gb325, 1, none⟩ = some (.slice A0_1 l0_1.length c0_1) := (blk_cell BK325.out 1).trans rfl
                    have hcz45_2 : wr.cell? ⟨gb325, 2, none⟩ = some (.slice A0_2 l0_2.length c0_2) := (blk_cell BK325.out 2).trans rfl
                    have hcz45_3 : wr.cell? ⟨gb325, 3, none⟩ = some (.slice A0_3 l0_3.length c0_3) := (blk_cell BK325.out 3).trans rfl
                    have hfz45_0 := blk_frozen BK325.out 0
                    have hfz45_1 := blk_frozen BK325.out 1
                    have hfz45_2 := blk_frozen BK325.out 2
                    have hfz45_3 := blk_frozen BK325.out 3
                    go_wp2
                    repeat (go_quiet (fail); try go_wp2)
                    go_loopg [7] k3 (fun kq v7 w' => ∃ (x7_4 : Int), v7 = .int .i64 x7_4 ∧ Aside0 (cisternref11_Same.l2 kq x7_4 a0_0 l0_1 l0_2 l0_3 a1_0 l1_1 l1_2 l1_3 = some r) ∧ Aside0 (kq ≤ k3) ∧ Aside0 (w'.heap[gb325]? = some (.cells #[.bool a0_0, (.slice A0_1 l0_1.length c0_1), (.slice A0_2 l0_2.length c0_2), (.slice A0_3 l0_3.length c0_3)] 26 (0, 0))) ∧ Aside0 (w'.heap[gb326]? = some (.cells #[.bool a1_0, (.slice A1_1 l1_1.length c1_1), (.slice A1_2 l1_2.length c1_2), (.slice A1_3 l1_3.length c1_3)] 26 (0, 0))) ∧ Aside0 (Below w.heap.size w w'))
                    case atStart => exact ⟨(0), (by first | rfl | (simp; done) | (simp [*]; done)), H', ⟨Nat.le_refl _⟩, ⟨by (with_reducible repeat (first | refine blk_drewN ?_ _ | refine blk_drew ?_ | refine blk_alloc ?_ _)); exact BK325.out⟩, ⟨by (with_reducible repeat (first | refine blk_drewN ?_ _ | refine blk_drew ?_ | refine blk_alloc ?_ _)); exact BK326.out⟩, ⟨by repeat (first | (with_reducible first | exact HB.out | apply below_alloc | apply pw_below_drewN | apply below_drew1 | refine below_set ?_ GE325.out | refine below_set ?_ GE326.out) | exact HB.out)⟩⟩
                    case round =>
                      clear H'
                      try clear c1
                      try clear c2
                      try clear p2
                      try clear c3
                      try clear p3
                      try clear q3
                      try clear hx3
                      try clear c4
                      try clear c6
                      try clear c6b0
                      try clear c6b1
                      try clear c6b2
                      try clear p6
                      try clear c7
                      try clear c10
                      try clear c10b0
                      try clear c10b1
                      try clear c10b2
                      try clear c11
                      try clear c11b0
                      try clear c11b1
                      try clear c11b2
                      try clear c12
                      try clear c15
                      try clear c18
                      try clear c19
                      try clear c21
                      try clear c22
                      try clear c22b0
                      try clear c23
                      try clear c23b0
                      try clear c24
                      try clear c24b0
                      try clear c25
                      try clear c25b0
                      try clear c26
                      try clear c29
                      try clear c32
                      try clear p32
                      try clear q32
                      try clear hx32
                      try clear p33
                      try clear q33
                      try clear hx33
                      try clear c34
                      try clear c34b0
                      try clear c35
                      try clear c35b0
                      try clear c36
                      try clear c36b0
                      try clear c37
                      try clear c37b0
                      try clear c37b1
                      try clear c38
                      try clear c41
                      try clear c44
                      try clear hcz13_0
                      try clear hcz13_1
                      try clear hcz13_2
                      try clear hcz13_3
                      try clear hcz14_0
                      try clear hcz14_1
                      try clear hcz14_2
                      try clear hcz14_3
                      try clear hcz16_0
                      try clear hcz16_1
                      try clear hcz16_2
                      try clear hcz16_3
                      try clear hcz17_0
                      try clear hcz17_1
                      try clear hcz17_2
                      try clear hcz17_3
                      try clear hcz19_0
                      try clear hcz19_1
                      try clear hcz19_2
                      try clear hcz19_3
                      try clear hcz20_0
                      try clear hcz20_1
                      try clear hcz20_2
                      try clear hcz20_3
                      try clear hcz27_0
                      try clear hcz27_1
                      try clear hcz27_2
                      try clear hcz27_3
                      try clear hcz28_0
                      try clear hcz28_1
                      try clear hcz28_2
                      try clear hcz28_3
                      try clear hcz30_0
                      try clear hcz30_1
                      try clear hcz30_2
                      try clear hcz30_3
                      try clear hcz31_0
                      try clear hcz31_1
                      try clear hcz31_2
                      try clear hcz31_3
                      try clear hcz33_0
                      try clear hcz33_1
                      try clear hcz33_2
                      try clear hcz33_3
                      try clear hcz39_0
                      try clear hcz39_1
                      try clear hcz39_2
                      try clear hcz39_3
                      try clear hcz40_0
                      try clear hcz40_1
                      try clear hcz40_2
                      try clear hcz40_3
                      try clear hcz42_0
                      try clear hcz42_1
                      try clear hcz42_2
                      try clear hcz42_3
                      try clear hcz43_0
                      try clear hcz43_1
                      try clear hcz43_2
                      try clear hcz43_3
                      try clear hcz45_0
                      try clear hcz45_1
                      try clear hcz45_2
                      try clear hcz45_3
                      try clear hcz8_0
                      try clear hcz8_1
                      try clear hcz8_2
                      try clear hcz8_3
                      try clear hcz9_0
                      try clear hcz9_1
                      try clear hcz9_2
                      try clear hcz9_3
                      try clear hfz13_0
                      try clear hfz13_1
                      try clear hfz13_2
                      try clear hfz13_3
                      try clear hfz14_0
                      try clear hfz14_1
                      try clear hfz14_2
                      try clear hfz14_3
                      try clear hfz16_0
                      try clear hfz16_1
                      try clear hfz16_2
                      try clear hfz16_3
                      try clear hfz17_0
                      try clear hfz17_1
                      try clear hfz17_2
                      try clear hfz17_3
                      try clear hfz19_0
                      try clear hfz19_1
                      try clear hfz19_2
                      try clear hfz19_3
                      try clear hfz20_0
                      try clear hfz20_1
                      try clear hfz20_2
                      try clear hfz20_3
                      try clear hfz27_0
                      try clear hfz27_1
                      try clear hfz27_2
                      try clear hfz27_3
                      try clear hfz28_0
                      try clear hfz28_1
                      try clear hfz28_2
                      try clear hfz28_3
                      try clear hfz30_0
                      try clear hfz30_1
                      try clear hfz30_2
                      try clear hfz30_3
                      try clear hfz31_0
                      try clear hfz31_1
                      try clear hfz31_2
                      try clear hfz31_3
                      try clear hfz33_0
                      try clear hfz33_1
                      try clear hfz33_2
                      try clear hfz33_3
                      try clear hfz39_0
                      try clear hfz39_1
                      try clear hfz39_2
                      try clear hfz39_3
                      try clear hfz40_0
                      try clear hfz40_1
                      try clear hfz40_2
                      try clear hfz40_3
                      try clear hfz42_0
                      try clear hfz42_1
                      try clear hfz42_2
                      try clear hfz42_3
                      try clear hfz43_0
                      try clear hfz43_1
                      try clear hfz43_2
                      try clear hfz43_3
                      try clear hfz45_0
                      try clear hfz45_1
                      try clear hfz45_2
                      try clear hfz45_3
                      try clear hfz8_0
                      try clear hfz8_1
                      try clear hfz8_2
                      try clear hfz8_3
                      try clear hfz9_0
                      try clear hfz9_1
                      try clear hfz9_2
                      try clear hfz9_3
                      try clear hx327_0
                      try clear hx327_1
                      try clear hx328_0
                      try clear hx328_1
                      try clear hx329_0
                      try clear hx330_0
                      try clear p2
                      try clear p3
                      try clear p32
                      try clear p327
                      try clear p328
                      try clear p329
                      try clear p330
                      try clear p6
                      try clear q3
                      try clear q32
                      try clear q327
                      try clear q328
                      try clear q329
                      try clear q330
                      obtain ⟨x7_4, rfl, HA, HK4, BK325, BK326, HB⟩ := hrel
                      cases gk with
                      | zero => exact absurd HA.out (by simp [cisternref11_Same.l2])
                      | succ k4 =>
                        have H := HA.out
                        clear HA
                        simp only [cisternref11_Same.l2] at H
                        by_cases c46 : x7_4 < (l0_3.length : Int)
                        · rw [if_pos c46] at H
                          have c46b0 : decide (x7_4 < (l0_3.length : Int)) = true := decide_eq_true c46
                          clear c46
                          by_cases c47 : 0 ≤ x7_4
                          · rw [if_pos c47] at H
                            have c47b0 : decide (0 ≤ x7_4) = true := decide_eq_true c47
                            clear c47
                            by_cases c48 : x7_4 < (l1_3.length : Int)
                            · rw [if_pos c48] at H
                              have c48b0 : decide (x7_4 < (l1_3.length : Int)) = true := decide_eq_true c48
                              clear c48
                              by_cases c49 : (rd l0_3 x7_4) = (rd l1_3 x7_4)
                              · rw [if_pos c49] at H
                                have c49b0 : ((rd l0_3 x7_4) == (rd l1_3 x7_4)) = true := beq_iff_eq.mpr c49
                                have c49b1 : ((rd l0_3 x7_4) != (rd l1_3 x7_4)) = false := bne_eq_false_iff_eq.mpr c49
                                clear c49
                                have H' := Aside0.mk H
                                clear H
                                have hnb50 := NB325_326.out
                                have hnc50 := NB326_325.out
                                have hcz51_0 : wr.cell? ⟨gb325, 0, none⟩ = some (.bool a0_0) := (blk_cell BK325.out 0).trans rfl
                                have hcz51_1 : wr.cell? ⟨gb325, 1, none⟩ = some (.slice A0_1 l0_1.length c0_1) := (blk_cell BK325.out 1).trans rfl
                                have hcz51_2 : wr.cell? ⟨gb325, 2, none⟩ = some (.slice A0_2 l0_2.length c0_2) := (blk_cell BK325.out 2).trans rfl
                                have hcz51_3 : wr.cell? ⟨gb325, 3, none⟩ = some (.slice A0_3 l0_3.length c0_3) := (blk_cell BK325.out 3).trans rfl
                                have hfz51_0 := blk_frozen BK325.out 0
                                have hfz51_1 := blk_frozen BK325.out 1
                                have hfz51_2 := blk_frozen BK325.out 2
                                have hfz51_3 := blk_frozen BK325.out 3
                                have p331 : 0 ≤ (x7_4 : Int) := of_decide_eq_true (by first | (with_reducible assumption) | assumption)
                                have q331 : x7_4 < (l0_3.length : Int) := of_decide_eq_true (by first | (with_reducible assumption) | assumption)
                                obtain ⟨ad331, e331, hx331_0⟩ := Kd.at_int HR0_3.out x7_4 p331 q331
                                cases e331
                                replace hx331_0 := (HB.out.cell (World.block_lt_of_cell? w _ hx331_0)).trans hx331_0
                                replace p331 := eq_true p331
                                replace q331 := eq_true q331
                                have hcz52_0 : wr.cell? ⟨gb326, 0, none⟩ = some (.bool a1_0) := (blk_cell BK326.out 0).trans rfl
                                have hcz52_1 : wr.cell? ⟨gb326, 1, none⟩ = some (.slice A1_1 l1_1.length c1_1) := (blk_cell BK326.out 1).trans rfl
                                have hcz52_2 : wr.cell? ⟨gb326, 2, none⟩ = some (.slice A1_2 l1_2.length c1_2) := (blk_cell BK326.out 2).trans rfl
                                have hcz52_3 : wr.cell? ⟨gb326, 3, none⟩ = some (.slice A1_3 l1_3.length c1_3) := (blk_cell BK326.out 3).trans rfl
                                have hfz52_0 := blk_frozen BK326.out 0
                                have hfz52_1 := blk_frozen BK326.out 1
                                have hfz52_2 := blk_frozen BK326.out 2
                                have hfz52_3 := blk_frozen BK326.out 3
                                have p332 : 0 ≤ (x7_4 : Int) := of_decide_eq_true (by first | (with_reducible assumption) | assumption)
                                have q332 : x7_4 < (l1_3.length : Int) := of_decide_eq_true (by first | (with_reducible assumption) | assumption)
                                obtain ⟨ad332, e332, hx332_0⟩ := Kd.at_int HR1_3.out x7_4 p332 q332
                                cases e332
                                replace hx332_0 := (HB.out.cell (World.block_lt_of_cell? w _ hx332_0)).trans hx332_0
                                replace p332 := eq_true p332
                                replace q332 := eq_true q332
                                go_wp2
                                repeat (go_quiet (fail); try go_wp2)
                                go_roundg k4
                                case measure => have := HJ2.out; have := HK2.out; have := HK3.out; have := HK4.out; omega
                                case rel => exact ⟨(wrap64 (x7_4 + 1)), (by first | rfl | (simp; done) | (simp [*]; done)), H', ⟨by have := HJ2.out; have := HK2.out; have := HK3.out; have := HK4.out; omega⟩, ⟨by (with_reducible repeat (first | refine blk_drewN ?_ _ | refine blk_drew ?_ | refine blk_alloc ?_ _)); exact BK325.out⟩, ⟨by (with_reducible repeat (first | refine blk_drewN ?_ _ | refine blk_drew ?_ | refine blk_alloc ?_ _)); exact BK326.out⟩, ⟨by repeat (first | (with_reducible first | exact HB.out | apply below_alloc | apply pw_below_drewN | apply below_drew1 | refine below_set ?_ GE325.out | refine below_set ?_ GE326.out) | exact HB.out)⟩⟩
                              · rw [if_neg c49] at H
                                have c49b0 : ((rd l0_3 x7_4) == (rd l1_3 x7_4)) = false := beq_eq_false_iff_ne.mpr c49
                                have c49b1 : ((rd l0_3 x7_4) != (rd l1_3 x7_4)) = true := bne_iff_ne.mpr c49
                                obtain rfl := Option.some.inj H
                                have hnb53 := NB325_326.out
                                have hnc53 := NB326_325.out
                                have hcz54_0 : wr.cell? ⟨gb325, 0, none⟩ = some (.bool a0_0) := (blk_cell BK325.out 0).trans rfl
                                have hcz54_1 : wr.cell? ⟨gb325, 1, none⟩ = some (.slice A0_1 l0_1.length c0_1) := (blk_cell BK325.out 1).trans rfl
                                have hcz54_2 : wr.cell? ⟨gb325, 2, none⟩ = some (.slice A0_2 l0_2.length c0_2) := (blk_cell BK325.out 2).trans rfl
                                have hcz54_3 : wr.cell? ⟨gb325, 3, none⟩ = some (.slice A0_3 l0_3.length c0_3) := (blk_cell BK325.out 3).trans rfl
                                have hfz54_0 := blk_frozen BK325.out 0
                                have hfz54_1 := blk_frozen BK325.out 1
                                have hfz54_2 := blk_frozen BK325.out 2
                                have hfz54_3 := blk_frozen BK325.out 3
                                have p331 : 0 ≤ (x7_4 : Int) := of_decide_eq_true (by first | (with_reducible assumption) | assumption)
                                have q331 : x7_4 < (l0_3.length : Int) := of_decide_eq_true (by first | (with_reducible assumption) | assumption)
                                obtain ⟨ad331, e331, hx331_0⟩ := Kd.at_int HR0_3.out x7_4 p331 q331
                                cases e331
                                replace hx331_0 := (HB.out.cell (World.block_lt_of_cell? w _ hx331_0)).trans hx331_0
                                replace p331 := eq_true p331
                                replace q331 := eq_true q331
                                have hcz55_0 : wr.cell? ⟨gb326, 0, none⟩ = some (.bool a1_0) := (blk_cell BK326.out 0).trans rfl
                                have hcz55_1 : wr.cell? ⟨gb326, 1, none⟩ = some (.slice A1_1 l1_1.length c1_1) := (blk_cell BK326.out 1).trans rfl
                                have hcz55_2 : wr.cell? ⟨gb326, 2, none⟩ = some (.slice A1_2 l1_2.length c1_2) := (blk_cell BK326.out 2).trans rfl
                                have hcz55_3 : wr.cell? ⟨gb326, 3, none⟩ = some (.slice A1_3 l1_3.length c1_3) := (blk_cell BK326.out 3).trans rfl
                                have hfz55_0 := blk_frozen BK326.out 0
                                have hfz55_1 := blk_frozen BK326.out 1
                                have hfz55_2 := blk_frozen BK326.out 2
                                have hfz55_3 := blk_frozen BK326.out 3
                                have p332 : 0 ≤ (x7_4 : Int) := of_decide_eq_true (by first | (with_reducible assumption) | assumption)
                                have q332 : x7_4 < (l1_3.length : Int) := of_decide_eq_true (by first | (with_reducible assumption) | assumption)
                                obtain ⟨ad332, e332, hx332_0⟩ := Kd.at_int HR1_3.out x7_4 p332 q332
                                cases e332
                                replace hx332_0 := (HB.out.cell (World.block_lt_of_cell? w _ hx332_0)).trans hx332_0
                                replace p332 := eq_true p332
                                replace q332 := eq_true q332
                                go_wp2
                                repeat (go_quiet (fail); try go_wp2)
                                go_ret
                                exact ⟨by first | rfl | (simp [errW_none, errW_some] <;> rfl) | (simp [*, errW_none, errW_some] <;> rfl), by repeat (first | (with_reducible first | exact HB.out | apply below_alloc | apply pw_below_drewN | apply below_drew1 | refine below_set ?_ GE325.out | refine below_set ?_ GE326.out) | exact HB.out)⟩
                            · rw [if_neg c48] at H
                              exact absurd H (by simp)
                          · rw [if_neg c47] at H
                            exact absurd H (by simp)
                        · rw [if_neg c46] at H
                          have c46b0 : decide (x7_4 < (l0_3.length : Int)) = false := decide_eq_false c46
                          clear c46
                          obtain rfl := Option.some.inj H
                          have hnb56 := NB325_326.out
                          have hnc56 := NB326_325.out
                          have hcz57_0 : wr.cell? ⟨gb325, 0, none⟩ = some (.bool a0_0) := (blk_cell BK325.out 0).trans rfl
                          have hcz57_1 : wr.cell? ⟨gb325, 1, none⟩ = some (.slice A0_1 l0_1.length c0_1) := (blk_cell BK325.out 1).trans rfl
                          have hcz57_2 : wr.cell? ⟨gb325, 2, none⟩ = some (.slice A0_2 l0_2.length c0_2) := (blk_cell BK325.out 2).trans rfl
                          have hcz57_3 : wr.cell? ⟨gb325, 3, none⟩ = some (.slice A0_3 l0_3.length c0_3) := (blk_cell BK325.out 3).trans rfl
                          have hfz57_0 := blk_frozen BK325.out 0
                          have hfz57_1 := blk_frozen BK325.out 1
                          have hfz57_2 := blk_frozen BK325.out 2
                          have hfz57_3 := blk_frozen BK325.out 3
                          go_wp2
                          repeat (go_quiet (fail); try go_wp2)
                          go_ret
                          exact ⟨by first | rfl | (simp [errW_none, errW_some] <;> rfl) | (simp [*, errW_none, errW_some] <;> rfl), by repeat (first | (with_reducible first | exact HB.out | apply below_alloc | apply pw_below_drewN | apply below_drew1 | refine below_set ?_ GE325.out | refine below_set ?_ GE326.out) | exact HB.out)⟩
end
end Go.Proofs.Ytjjfeoigjhbbpaa.PA
namespace Go.Proofs.Ytjjfeoigjhbbpaa.PA
section

open Go.RowKit Go.Proofs.YtjjfeoigjhbbpaaW.PrintWords Go.Proofs.YtjjfeoigjhbbpaaW.PrintLast Go.Proofs.YtjjfeoigjhbbpaaW.PrintMore
attribute [local go_sem] pr_leq pr_geq pr_gtr max2_int min2_int max_two min_two max_three min_three max_four min_four
set_option linter.unusedVariables false
set_option linter.unusedSimpArgs false
theorem wsuc {i : Nat} (h : i < 9223372036854775807) : wrap64 ((i : Int) + 1) = ((i + 1 : Nat) : Int) := by unfold wrap64; omega
theorem same_l2 (a b : Bool) (P Q : List S48) (K L : List ByteArray) (D : List Int) (hD : D.length ≤ 9223372036854775807) : ∀ (n i k : Nat), i + n = D.length → n < k → cisternref11_Same.l2 k (i : Int) a P K D b Q L D = some true
  | 0, i, k + 1, hi, _ => by
    unfold cisternref11_Same.l2
    rw [if_neg (by omega)]
  | n + 1, i, k + 1, hi, hk => by
    unfold cisternref11_Same.l2
    rw [if_pos (by omega), if_pos (by omega), if_pos (by omega), if_pos rfl, wsuc (by omega)]
    exact same_l2 a b P Q K L D hD n (i + 1) k (by omega) (by omega)
theorem same_l1 (a b : Bool) (P Q : List S48) (K : List ByteArray) (D : List Int) (hK : K.length ≤ 9223372036854775807) (hD : D.length ≤ 9223372036854775807) : ∀ (n i k : Nat), i + n = K.length → n + D.length + 1 < k → cisternref11_Same.l1 k (i : Int) a P K D b Q K D = some true
  | 0, i, k + 1, hi, hk => by
    unfold cisternref11_Same.l1
    rw [if_neg (by omega)]
    exact same_l2 a b P Q K K D hD D.length 0 k (by omega) (by omega)
  | n + 1, i, k + 1, hi, hk => by
    unfold cisternref11_Same.l1
    rw [if_pos (by omega), if_pos (by omega), if_pos (by omega), if_pos rfl, wsuc (by omega)]
    exact same_l1 a b P Q K D hK hD n (i + 1) k (by omega) (by omega)
theorem same_l0 (a b : Bool) (P : List S48) (K : List ByteArray) (D : List Int) (hP : P.length ≤ 9223372036854775807) (hK : K.length ≤ 9223372036854775807) (hD : D.length ≤ 9223372036854775807) : ∀ (n i k : Nat), i + n = P.length → n + K.length + D.length + 2 < k → cisternref11_Same.l0 k (i : Int) a P K D b P K D = some true
  | 0, i, k + 1, hi, hk => by
    unfold cisternref11_Same.l0
    rw [if_neg (by omega)]
    exact same_l1 a b P P K D hK hD K.length 0 k (by omega) (by omega)
  | n + 1, i, k + 1, hi, hk => by
    unfold cisternref11_Same.l0
    rw [if_pos (by omega), if_pos (by omega), if_pos (by omega), beq_self_eq_true, beq_self_eq_true, if_neg (by decide), wsuc (by omega)]
    exact same_l0 a b P K D hP hK hD n (i + 1) k (by omega) (by omega)
theorem same_self (a : Bool) (P : List S48) (K : List ByteArray) (D : List Int) (hP : P.length ≤ 9223372036854775807) (hK : K.length ≤ 9223372036854775807) (hD : D.length ≤ 9223372036854775807) (k : Nat) (hk : P.length + K.length + D.length + 3 < k) : cisternref11_Same.f k a P K D a P K D = some true := by
  obtain ⟨k, rfl⟩ : ∃ m, k = m + 1 := ⟨k - 1, by omega⟩
  unfold cisternref11_Same.f
  rw [if_neg (by simp), if_pos rfl, if_pos rfl]
  have : ((D.length : Int) != (D.length : Int)) = false := by simp
  rw [this, cisternref11_Same.j0, if_neg (by decide)]
  exact same_l0 a a P K D hP hK hD P.length 0 k (by omega) (by omega)
end
end Go.Proofs.Ytjjfeoigjhbbpaa.PA
namespace Go.Proofs.Ytjjfeoigjhbbpaa.PA
section

open Go.RowKit Go.Proofs.YtjjfeoigjhbbpaaW.PrintWords Go.Proofs.YtjjfeoigjhbbpaaW.PrintLast Go.Proofs.YtjjfeoigjhbbpaaW.PrintMore
attribute [local go_sem] pr_leq pr_geq pr_gtr max2_int min2_int max_two min_two max_three min_three max_four min_four
set_option linter.unusedVariables false
set_option linter.unusedSimpArgs false
set_option maxHeartbeats 4000000 in
set_option maxRecDepth 100000 in
theorem backW (a : Bool) (A1 : Option Addr) (n1 c1 : Nat) (A2 : Option Addr) (n2 c2 : Nat) (A3 : Option Addr) (n3 c3 : Nat) (w : World) : Calls Try.prog 20 #[.agg #[.bool a, .slice A1 n1 c1, .slice A2 n2 c2, .slice A3 n3 c3]] w fun e w' => e = .returned (.agg #[.bool a, .slice A1 n1 c1, .slice A2 n2 c2, .slice A3 n3 c3]) ∧ Below w.heap.size w w' := by
  obtain ⟨wy, hwy⟩ : ∃ wy, wy = w.alloc (.cells #[.bool a, .slice A1 n1 c1, .slice A2 n2 c2, .slice A3 n3 c3] 31) := ⟨_, rfl⟩
  obtain ⟨wx, hwx⟩ : ∃ wx, wx = wy.alloc (.cells #[.bool false, .slice none 0 0, .slice none 0 0, .slice none 0 0] 26) := ⟨_, rfl⟩
  have ny : wy.heap.size = w.heap.size + 1 := by rw [hwy]; simp
  have b0y := heap_alloc_new w (.cells #[.bool a, .slice A1 n1 c1, .slice A2 n2 c2, .slice A3 n3 c3] 31)
  have bel := below_alloc (Below.refl w.heap.size w) (.cells #[.bool a, .slice A1 n1 c1, .slice A2 n2 c2, .slice A3 n3 c3] 31)
  rw [← hwy] at b0y bel
  have bx := (Lib.alloc_old wy (.cells #[.bool false, .slice none 0 0, .slice none 0 0, .slice none 0 0] 26) w.heap.size (blk_lt b0y)).trans b0y
  have tx := heap_alloc_new wy (.cells #[.bool false, .slice none 0 0, .slice none 0 0, .slice none 0 0] 26)
  rw [← hwx] at bx tx
  rw [ny] at tx
  have BXX : Aside0 (Below w.heap.size w wx) := ⟨by rw [hwx]; exact below_alloc bel _⟩
  have HWX : Aside0 (wx = (w.alloc (.cells #[.bool a, .slice A1 n1 c1, .slice A2 n2 c2, .slice A3 n3 c3] 31)).alloc (.cells #[.bool false, .slice none 0 0, .slice none 0 0, .slice none 0 0] 26)) := ⟨by rw [hwx, hwy]⟩
  have b0 : wx.cell? ⟨w.heap.size, 0, none⟩ = some (.bool a) := blk_cell bx 0
  have b1 : wx.cell? ⟨w.heap.size, 1, none⟩ = some (.slice A1 n1 c1) := blk_cell bx 1
  have b2 : wx.cell? ⟨w.heap.size, 2, none⟩ = some (.slice A2 n2 c2) := blk_cell bx 2
  have b3 : wx.cell? ⟨w.heap.size, 3, none⟩ = some (.slice A3 n3 c3) := blk_cell bx 3
  have c0' : wx.cell? ⟨w.heap.size + 1, 0, none⟩ = some (.bool false) := blk_cell tx 0
  have c1' : wx.cell? ⟨w.heap.size + 1, 1, none⟩ = some (.slice none 0 0) := blk_cell tx 1
  have c2' : wx.cell? ⟨w.heap.size + 1, 2, none⟩ = some (.slice none 0 0) := blk_cell tx 2
  have c3' : wx.cell? ⟨w.heap.size + 1, 3, none⟩ = some (.slice none 0 0) := blk_cell tx 3
  have f0 : wx.frozen? ⟨w.heap.size + 1, 0, none⟩ = false := blk_frozen tx 0
  have f1 : wx.frozen? ⟨w.heap.size + 1, 1, none⟩ = false := blk_frozen tx 1
  have f2 : wx.frozen? ⟨w.heap.size + 1, 2, none⟩ = false := blk_frozen tx 2
  have f3 : wx.frozen? ⟨w.heap.size + 1, 3, none⟩ = false := blk_frozen tx 3
  have t7 := nd_put4 wx (w.heap.size + 1) 26 _ _ _ _ (.bool a) (.slice A1 n1 c1) (.slice A2 n2 c2) (.slice A3 n3 c3) tx
  have hg4 := nd_grown4 wx (w.heap.size + 1) (.bool a) (.slice A1 n1 c1) (.slice A2 n2 c2) (.slice A3 n3 c3)
  have T7 := Aside0.mk t7
  have B7 := Aside0.mk (nd_grown_below hg4 BXX.out BXX.out.size (by omega))
  clear hwx hwy ny b0y bel bx tx t7 hg4
  rw [HWX.out] at b0 b1 b2 b3 c0' c1' c2' c3' f0 f1 f2 f3
  go_enter Try.func20, Try.ntmps20
  go_wp2
  refine bodyPost_ret (results_cell_row rfl _ _ (w.heap.size + 1) 26 #[.bool a, .slice A1 n1 c1, .slice A2 n2 c2, .slice A3 n3 c3] (0, 0) _ rfl (by have h := heap_alloc_new (w.alloc (.cells #[.bool a, .slice A1 n1 c1, .slice A2 n2 c2, .slice A3 n3 c3] 31)) (.cells #[.bool a, .slice A1 n1 c1, .slice A2 n2 c2, .slice A3 n3 c3] 26); rw [show (w.alloc (.cells #[.bool a, .slice A1 n1 c1, .slice A2 n2 c2, .slice A3 n3 c3] 31)).heap.size = w.heap.size + 1 by simp] at h; exact h) Try.underlying26 rfl (by kernel_rfl)) rfl ?_
  exact ⟨rfl, below_alloc (below_alloc (Below.refl w.heap.size w) _) _⟩
end
end Go.Proofs.Ytjjfeoigjhbbpaa.PA
namespace Go.Proofs.Ytjjfeoigjhbbpaa.PA
section

open Go.RowKit Go.Proofs.YtjjfeoigjhbbpaaW.PrintWords Go.Proofs.YtjjfeoigjhbbpaaW.PrintLast Go.Proofs.YtjjfeoigjhbbpaaW.PrintMore
attribute [local go_sem] pr_leq pr_geq pr_gtr max2_int min2_int max_two min_two max_three min_three max_four min_four
set_option linter.unusedVariables false
set_option linter.unusedSimpArgs false
section
open Go.ChangeShapes Go.WideShapes Go.Deep
variable {H : Type} {enc : TypeId × Value → H} {P : Program} {w : World} {base : Nat} {spare : Nat → Bool} {held : Bool}
theorem ra_addr (a : Addr) (m i : Nat) : (a.add m).add i = a.add (m + i) := Go.Deep.add_add a m i
theorem open_rows {α : Type} [Inhabited α] (k : Kd α) (Wf : α → Prop) {t e : TypeId} {fuel : Nat} {A : Option Addr} {len cap : Nat} {x : DataW H × List MemPlace} (ht : P.underlying t = some (.slice e)) (hce : P.cellsOf e = k.sz)
    (He : ∀ n cs y, DataW.trod enc P w base spare held n e cs = some y → ∃ v, k.K w v cs ∧ Wf v)
    (h : DataW.trod enc P w base spare held fuel t [.slice A len cap] = some x) : ∃ l : List α, l.length = len ∧ k.C w A len l ∧ len ≤ cap ∧ ∀ v ∈ l, Wf v := by
  rcases open_slice ht h with ⟨hcs, _⟩ | ⟨a, l, c, m, n, D, Pl, hcs, _, hl, hm, hmm, _, hx⟩
  · simp at hcs
    obtain ⟨rfl, rfl, rfl⟩ := hcs
    exact ⟨[], rfl, ⟨rfl, by omega, fun h0 => absurd h0 (by omega)⟩, Nat.le_refl _, by simp⟩
  · simp at hcs
    obtain ⟨rfl, rfl, rfl⟩ := hcs
    have hlm : len ≤ m := by rw [hmm]; split <;> omega
    obtain ⟨f, hf⟩ := choose_lt (α := α) (n := len) (p := fun i v => ∃ cs, w.cells? base (a.add (i * k.sz)) k.sz = some cs ∧ k.K w v cs ∧ Wf v) (fun i hi => by
      obtain ⟨cs', h1, h2⟩ := hx i (by omega)
      rw [hce] at h1
      obtain ⟨v, h3, h4⟩ := He _ _ _ h2
      exact ⟨v, cs', h1, h3, h4⟩)
    refine ⟨(List.range len).map f, by simp, ⟨by simp, by simp only [maxLen] at hm; omega, fun _ => ⟨a, rfl, fun j p hj => ?_⟩⟩, hl, fun v hv => ?_⟩
    · have hjl : j < len := by
        rcases Nat.lt_or_ge j len with h' | h'
        · exact h'
        · rw [List.getElem?_eq_none (by simpa using h')] at hj; cases hj
      simp [hjl] at hj
      subst hj
      obtain ⟨cs, h1, h2, _⟩ := hf j hjl
      obtain ⟨_, h3, h4⟩ := World.cells?_some h1
      refine ⟨cs, h3, h2, fun i u hu => ?_⟩
      have hi : i < k.sz := by rw [← h3]; exact (List.getElem?_eq_some_iff.1 hu).1
      rw [← ra_addr, h4 i hi, hu]
    · simp only [List.mem_map, List.mem_range] at hv
      obtain ⟨j, hj, rfl⟩ := hv
      exact (hf j hj).choose_spec.2.2
end
section
open Go.ChangeShapes Go.WideShapes Go.Deep
variable {H : Type} {enc : TypeId × Value → H} {P : Program} {w : World} {base : Nat} {spare : Nat → Bool} {held : Bool}
theorem struct_rows_sized {ts : List TypeId} {ds : List (DataW H)} {ps : List MemPlace} {d : DataW H} {j i off : Nat} {t ft e : TypeId} {fs : Array Field} {f : Field} {cs : List Value} {v : Value} {A : Option Addr} {len cap : Nat}
    (hsz : (DataW.weightsEach P ts ds).all (· ≤ reachBytes) = true) (htj : ts[j]? = some t) (hdj : ds[j]? = some d) (ht : P.underlying t = some (.struct fs)) (hf : fs[i]? = some f) (hft : f.type = ft) (ho : f.offset = off) (hfe : P.underlying ft = some (.slice e)) (hco : P.cellsOf ft = 1) {B : Nat} (hB : P.bytesOf e = B)
    (h : DataW.Trod enc P w base spare held t v d ps) (hv : v.cells.toList = cs) (hc : cs[off]? = some (.slice A len cap)) : len * B ≤ 140737488351232 := by
  subst hv; subst hft; subst ho
  obtain ⟨fuel, hx⟩ := h
  obtain ⟨xs, n, _, he, _, hl, hh⟩ := DataW.trod_struct ht hx
  have hi := hh i f hf
  have hlt : i < xs.length := by rw [hl]; exact (Array.getElem?_eq_some_iff.1 hf).1
  rw [List.getElem?_eq_getElem hlt, hco] at hi
  have h1 : (v.cells.toList.drop f.offset).take 1 = [.slice A len cap] := by
    obtain ⟨hlo, hco'⟩ := List.getElem?_eq_some_iff.1 hc
    rw [List.drop_eq_getElem_cons hlo, hco']
    rfl
  rw [h1] at hi
  rcases open_slice hfe hi with ⟨hcs, _⟩ | ⟨a, l, c, m, n, D, Pl, hcs, _, hl', hm, hmm, hx', _⟩
  · simp at hcs
    obtain ⟨rfl, rfl, rfl⟩ := hcs
    simp
  · simp at hcs
    obtain ⟨rfl, rfl, rfl⟩ := hcs
    have hd : d = .agg (xs.map (·.1)) := by injection he
    have hmem : (len + (m - len)) * P.bytesOf e ∈ DataW.weightsEach P ts ds := by
      refine DataW.weights_mem_each htj hdj _ ?_
      rw [hd]
      simp only [DataW.weights, ht]
      refine DataW.weights_mem_each (j := i) (t := f.type) (d := xs[i].1) ?_ ?_ _ ?_
      · rw [List.getElem?_map, Array.getElem?_toList, hf]
        rfl
      · rw [List.getElem?_map, List.getElem?_eq_getElem hlt]
        rfl
      · rw [hx']
        simp [DataW.weights, hfe]
    have z := List.all_eq_true.1 hsz _ hmem
    rw [hB] at z
    have z' : (len + (m - len)) * B ≤ reachBytes := by simpa using z
    have h3 : len ≤ len + (m - len) := by omega
    exact Nat.le_trans (Nat.mul_le_mul_right _ h3) z'
end
end
end Go.Proofs.Ytjjfeoigjhbbpaa.PA
namespace Go.Proofs.Ytjjfeoigjhbbpaa.PA
section

open Go.RowKit Go.Proofs.YtjjfeoigjhbbpaaW.PrintWords Go.Proofs.YtjjfeoigjhbbpaaW.PrintLast Go.Proofs.YtjjfeoigjhbbpaaW.PrintMore
attribute [local go_sem] pr_leq pr_geq pr_gtr max2_int min2_int max_two min_two max_three min_three max_four min_four
set_option linter.unusedVariables false
set_option linter.unusedSimpArgs false
theorem of_val (a : Bool) (P : List S48) (K : List ByteArray) (D : List Int) (h1 : P.length * 32 ≤ 140737488351232) (h2 : K.length * 16 ≤ 140737488351232) (h3 : D.length * 8 ≤ 140737488351232) : cisternlaw11_of.f a P K D = some (a, P, K, D) := by
  unfold cisternlaw11_of.f
  rw [if_pos ⟨by omega, by omega, by omega⟩]
theorem known_enc : node_Encode.f true [(⟨⟨#[97]⟩, ⟨#[49]⟩⟩ : S48)] [] [] = some (⟨#[1, 1, 1, 97, 1, 49]⟩, 0) := by
  have e0 : keyB ⟨#[97]⟩ = true := by
    unfold keyB
    rw [nd_toList]
    rfl
  have e1 : leafV true [(⟨⟨#[97]⟩, ⟨#[49]⟩⟩ : S48)] [] [] = true := by
    unfold leafV badP
    simp only [List.any_cons, List.any_nil, e0]
    rfl
  unfold node_Encode.f
  rw [e1]
  rfl
theorem known_val : cisternlaw11_known.f = some true := by
  unfold cisternlaw11_known.f
  rw [known_enc, Option.bind_some, if_pos rfl, nd_toList]
  rfl
end
end Go.Proofs.Ytjjfeoigjhbbpaa.PA
namespace Go.Proofs.Ytjjfeoigjhbbpaa.PA
section

open Go.RowKit Go.Proofs.YtjjfeoigjhbbpaaW.PrintWords Go.Proofs.YtjjfeoigjhbbpaaW.PrintLast Go.Proofs.YtjjfeoigjhbbpaaW.PrintMore
attribute [local go_sem] pr_leq pr_geq pr_gtr max2_int min2_int max_two min_two max_three min_three max_four min_four
set_option linter.unusedVariables false
set_option linter.unusedSimpArgs false
theorem form_len {lf : Bool} {P : List S48} {K : List ByteArray} {D : List Int} (h : (leafV lf P K D || innerV lf P K D) = true) : P.length ≤ 255 ∧ K.length ≤ 255 ∧ D.length ≤ 255 := by
  rcases Bool.or_eq_true_iff.1 h with hl | hi
  · obtain ⟨_, rfl, rfl, h1, _, _⟩ := leafV_true hl
    exact ⟨h1, by decide, by decide⟩
  · obtain ⟨_, rfl, h1, h2, h3, _, _, _⟩ := innerV_true hi
    exact ⟨by decide, by omega, h2⟩
end
end Go.Proofs.Ytjjfeoigjhbbpaa.PA
namespace Go.Proofs.Ytjjfeoigjhbbpaa.PA
section

open Go.RowKit Go.Proofs.YtjjfeoigjhbbpaaW.PrintWords Go.Proofs.YtjjfeoigjhbbpaaW.PrintLast Go.Proofs.YtjjfeoigjhbbpaaW.PrintMore
attribute [local go_sem] pr_leq pr_geq pr_gtr max2_int min2_int max_two min_two max_three min_three max_four min_four
set_option linter.unusedVariables false
set_option linter.unusedSimpArgs false
structure WholeF (a : Bool) (l1 : List S48) (l2 : List ByteArray) (l3 : List Int) (b1 : Bool) (P1 : List S48) (K1 : List ByteArray) (D1 : List Int) (k : ByteArray) (b2 : Bool) (P2 : List S48) (K2 : List ByteArray) (D2 : List Int) : Prop where
  ok1 : (leafV b1 P1 K1 D1 || innerV b1 P1 K1 D1) = true
  ok2 : (leafV b2 P2 K2 D2 || innerV b2 P2 K2 D2) = true
  mg : mergeV b1 P1 K1 D1 k b2 P2 K2 D2 = (a, l1, l2, l3, 0)
  s1 : sizeN b1 P1 K1 D1 < sizeN a l1 l2 l3
  s2 : sizeN b2 P2 K2 D2 < sizeN a l1 l2 l3
  p1 : ∀ i, i < P1.length → Op.bytesLess (P1.getD i z48).f0.toList k.toList = true
  p2 : ∀ i, i < P2.length → Op.bytesLess (P2.getD i z48).f0.toList k.toList = false
  k1 : ∀ i, i < K1.length → Op.bytesLess (K1.getD i ⟨#[]⟩).toList k.toList = true
  k2 : ∀ i, i < K2.length → Op.bytesLess k.toList (K2.getD i ⟨#[]⟩).toList = true
theorem any_sub {α : Type} {f : α → Bool} {l l' : List α} (h : l.any f = false) (hs : ∀ x ∈ l', x ∈ l) : l'.any f = false := by
  rw [List.any_eq_false] at h ⊢
  exact fun x hx => h x (hs x hx)
theorem rises_sub {l l' : List ByteArray} (h : risesB l = true) (hs : l'.Sublist l) : risesB l' = true := (rises_iff _).2 (((rises_iff _).1 h).sublist hs)
theorem cutN_ge (P : List S48) : ∀ n i, i ≤ cutN P n i
  | 0, i => Nat.le_refl i
  | n + 1, i => by
    unfold cutN
    split
    · exact Nat.le_trans (Nat.le_succ i) (cutN_ge P n (i + 1))
    · exact Nat.le_refl i
theorem cutP_pos (P : List S48) (h : 2 ≤ P.length) : 1 ≤ cutP P := by
  unfold cutP
  obtain ⟨n, hn⟩ : ∃ n, P.length = n + 1 := ⟨P.length - 1, by omega⟩
  rw [hn, cutN, if_pos ⟨by omega, .inl rfl⟩]
  exact cutN_ge P n 1
def sumK (K : List ByteArray) : Nat := (K.map fun k => 1 + k.size).sum
theorem sumK_app (K L : List ByteArray) : sumK (K ++ L) = sumK K + sumK L := by unfold sumK; rw [List.map_append, List.sum_append]
theorem sumK_take (K : List ByteArray) (i : Nat) : sumK (K.take i) ≤ sumK K := by
  have := sumK_app (K.take i) (K.drop i)
  rw [List.take_append_drop] at this
  omega
theorem sumK_drop (K : List ByteArray) (i : Nat) : sumK (K.drop i) ≤ sumK K := by
  have := sumK_app (K.take i) (K.drop i)
  rw [List.take_append_drop] at this
  omega
theorem wN_pos {P : List S48} (h : 0 < P.length) : 0 < weightN P := by
  cases P with
  | nil => cases h
  | cons x xs => unfold weightN; rw [List.map_cons, List.sum_cons]; omega
theorem getD_of {α : Type} {l : List α} {i : Nat} (h : i < l.length) (z : α) : l.getD i z = l[i] := by simp [h]
theorem whole_leaf {l1 : List S48} (h : leafV true l1 [] [] = true) (h2 : 2 ≤ l1.length) :
    WholeF true l1 [] [] true (l1.take (cutP l1)) [] [] (l1.getD (cutP l1) ⟨⟨#[]⟩, ⟨#[]⟩⟩).f0 true (l1.drop (cutP l1)) [] [] := by
  obtain ⟨_, _, _, hl, hb, hr⟩ := leafV_true h
  have c1 := cutP_pos l1 h2
  have c2 := cutP_lt l1 (by omega)
  obtain ⟨c, hc⟩ : ∃ c, cutP l1 = c := ⟨_, rfl⟩
  rw [hc] at c1 c2 ⊢
  have hp := (srt_iff l1).1 hr
  unfold Srt at hp
  rw [List.pairwise_iff_getElem] at hp
  have hk : (l1.getD c ⟨⟨#[]⟩, ⟨#[]⟩⟩).f0 = l1[c].f0 := by rw [getD_of c2]
  rw [hk]
  have lv : ∀ Q : List S48, Q.Sublist l1 → leafV true Q [] [] = true := by
    intro Q hQ
    have e1 : decide (Q.length ≤ 255) = true := decide_eq_true (Nat.le_trans hQ.length_le hl)
    have e2 : Q.any badP = false := any_sub hb (fun x hx => hQ.subset hx)
    have e3 : risesB (Q.map (·.f0)) = true := rises_sub hr (hQ.map _)
    unfold leafV
    rw [e1, e2, e3]
    rfl
  have kx : keyB l1[c].f0 = true := by
    have := List.any_eq_false.1 hb l1[c] (List.getElem_mem _)
    unfold badP at this
    simp only [Bool.or_eq_true, not_or, Bool.not_eq_true, Bool.not_eq_false'] at this
    exact this.1
  have hw := wN_app (l1.take c) (l1.drop c)
  rw [List.take_append_drop] at hw
  have w1 : 0 < weightN (l1.take c) := wN_pos (by rw [List.length_take]; omega)
  have w2 : 0 < weightN (l1.drop c) := wN_pos (by rw [List.length_drop]; omega)
  have v1 : (leafV true (l1.take c) [] [] || innerV true (l1.take c) [] []) = true := by rw [lv _ (List.take_sublist _ _)]; rfl
  have v2 : (leafV true (l1.drop c) [] [] || innerV true (l1.drop c) [] []) = true := by rw [lv _ (List.drop_sublist _ _)]; rfl
  refine ⟨v1, v2, ?_, ?_, ?_, ?_, ?_, fun i hi => absurd hi (Nat.not_lt_zero _), fun i hi => absurd hi (Nat.not_lt_zero _)⟩
  · unfold mergeV
    have e : mergeN true [] l1[c].f0 [] = [] := rfl
    rw [e, List.take_append_drop, List.append_nil, if_pos ⟨v1, v2, rfl, kx, by rw [h]; rfl⟩]
  · show 2 + weightN _ < 2 + weightN _
    omega
  · show 2 + weightN _ < 2 + weightN _
    omega
  · intro i hi
    rw [getD_of hi]
    rw [List.length_take] at hi
    rw [List.getElem_take]
    exact hp i c (by omega) c2 (by omega)
  · intro i hi
    rw [getD_of hi]
    rw [List.length_drop] at hi
    rw [List.getElem_drop]
    rcases Nat.eq_zero_or_pos i with h0 | h0
    · subst h0
      simp only [Nat.add_zero]
      exact bl_irrefl _
    · have := kl_asymm (hp c (c + i) c2 (by omega) (by omega))
      unfold kl at this
      simpa using this
theorem whole_inner {l2 : List ByteArray} {l3 : List Int} (h : innerV false [] l2 l3 = true) (h4 : 4 ≤ l3.length) :
    WholeF false [] l2 l3 false [] (l2.take (l3.length / 2 - 1)) (l3.take (l3.length / 2)) (l2.getD (l3.length / 2 - 1) ⟨#[]⟩) false [] (l2.drop (l3.length / 2)) (l3.drop (l3.length / 2)) := by
  obtain ⟨_, _, h1, hl, hkd, hb, hbi, hr⟩ := innerV_true h
  obtain ⟨i, hi⟩ : ∃ i, l3.length / 2 = i := ⟨_, rfl⟩
  obtain ⟨j, hj⟩ : ∃ j, i - 1 = j := ⟨_, rfl⟩
  rw [hi, hj]
  have hij : i = j + 1 := by omega
  have hjl : j < l2.length := by omega
  have hp := (rises_iff l2).1 hr
  rw [List.pairwise_iff_getElem] at hp
  rw [getD_of hjl]
  have iv : ∀ (Q : List ByteArray) (E : List Int), Q.Sublist l2 → E.Sublist l3 → Q.length + 1 = E.length → innerV false [] Q E = true := by
    intro Q E hQ hE hQE
    have e1 : decide (E.length ≤ 255) = true := decide_eq_true (Nat.le_trans hE.length_le hl)
    have e2 : Q.any badS = false := any_sub hb (fun x hx => hQ.subset hx)
    have e3 : E.any badI = false := any_sub hbi (fun x hx => hE.subset hx)
    have e4 : risesB Q = true := rises_sub hr hQ
    have e5 : decide (1 ≤ E.length) = true := decide_eq_true (by omega)
    have e6 : decide (Q.length + 1 = E.length) = true := decide_eq_true hQE
    unfold innerV
    rw [e1, e2, e3, e4, e5, e6]
    rfl
  have kx : keyB l2[j] = true := by
    have := List.any_eq_false.1 hb l2[j] (List.getElem_mem _)
    unfold badS at this
    simpa using this
  have i1 : innerV false [] (l2.take j) (l3.take i) = true := iv _ _ (List.take_sublist _ _) (List.take_sublist _ _) (by rw [List.length_take, List.length_take]; omega)
  have i2 : innerV false [] (l2.drop i) (l3.drop i) = true := iv _ _ (List.drop_sublist _ _) (List.drop_sublist _ _) (by rw [List.length_drop, List.length_drop]; omega)
  have v1 : (leafV false [] (l2.take j) (l3.take i) || innerV false [] (l2.take j) (l3.take i)) = true := by rw [i1]; simp
  have v2 : (leafV false [] (l2.drop i) (l3.drop i) || innerV false [] (l2.drop i) (l3.drop i)) = true := by rw [i2]; simp
  have hs1 := sumK_take l2 j
  have hs2 := sumK_drop l2 i
  have el1 : (l3.take i).length = i := by rw [List.length_take]; omega
  have el2 : (l3.drop i).length = l3.length - i := List.length_drop
  refine ⟨v1, v2, ?_, ?_, ?_, fun i hi => absurd hi (Nat.not_lt_zero _), fun i hi => absurd hi (Nat.not_lt_zero _), ?_, ?_⟩
  · unfold mergeV
    have e : mergeN false (l2.take j) l2[j] (l2.drop i) = l2 := by
      show l2.take j ++ ([l2[j]] ++ l2.drop i) = l2
      rw [hij, List.singleton_append, ← List.drop_eq_getElem_cons hjl, List.take_append_drop]
    rw [e, List.take_append_drop, List.append_nil, if_pos ⟨v1, v2, rfl, kx, by rw [h]; simp⟩]
  · show 2 + 2 * (l3.take i).length + sumK (l2.take j) < 2 + 2 * l3.length + sumK l2
    omega
  · show 2 + 2 * (l3.drop i).length + sumK (l2.drop i) < 2 + 2 * l3.length + sumK l2
    omega
  · intro x hx
    rw [getD_of hx]
    rw [List.length_take] at hx
    rw [List.getElem_take]
    exact hp x j (by omega) hjl (by omega)
  · intro x hx
    rw [getD_of hx]
    rw [List.length_drop] at hx
    rw [List.getElem_drop]
    exact hp j (i + x) hjl (by omega) (by omega)
theorem whole_split (a : Bool) (l1 : List S48) (l2 : List ByteArray) (l3 : List Int) :
    (∃ e : Int, splitV a l1 l2 l3 = (false, [], [], [], ⟨#[]⟩, false, [], [], [], e) ∧ (e = 2 ∨ e = 7)) ∨
    ∃ b1 P1 K1 D1 k b2 P2 K2 D2, splitV a l1 l2 l3 = (b1, P1, K1, D1, k, b2, P2, K2, D2, 0) ∧ WholeF a l1 l2 l3 b1 P1 K1 D1 k b2 P2 K2 D2 := by
  by_cases hf : (leafV a l1 l2 l3 || innerV a l1 l2 l3) = true
  · by_cases hm : (if a then l1.length < 2 else l3.length < 4)
    · exact .inl ⟨7, by unfold splitV; rw [if_pos hf, if_pos hm], .inr rfl⟩
    · cases a
      · have hi : innerV false l1 l2 l3 = true := by simpa [leafV] using hf
        obtain ⟨_, rfl, _⟩ := innerV_true hi
        have h4 : ¬ l3.length < 4 := hm
        exact .inr ⟨_, _, _, _, _, _, _, _, _, by unfold splitV; rw [if_pos hf, if_neg hm, if_neg (by decide)], whole_inner hi (by omega)⟩
      · have hi : leafV true l1 l2 l3 = true := by simpa [innerV] using hf
        obtain ⟨_, rfl, rfl, _⟩ := leafV_true hi
        have h4 : ¬ l1.length < 2 := hm
        exact .inr ⟨_, _, _, _, _, _, _, _, _, by unfold splitV; rw [if_pos hf, if_neg hm, if_pos rfl], whole_leaf hi (by omega)⟩
  · exact .inl ⟨2, by unfold splitV; rw [if_neg hf], .inl rfl⟩
theorem at_pr {w : World} {A : Option Addr} {n : Nat} {xs : List S48} (h : Kd.C k48 w A n xs) (i : Nat) (hi : i < n) : ∃ ad, A = some ad ∧ w.cell? (ad.add (i * 2)) = some (.string (xs.getD i z48).f0) := by
  obtain ⟨ad, e, hc, _⟩ := at_T48 h (i : Int) (by omega) (by omega)
  exact ⟨ad, e, hc⟩
theorem at_st {w : World} {A : Option Addr} {n : Nat} {xs : List ByteArray} (h : Kd.C Kd.string w A n xs) (i : Nat) (hi : i < n) : ∃ ad, A = some ad ∧ w.cell? (ad.add i) = some (.string (xs.getD i ⟨#[]⟩)) := by
  obtain ⟨ad, c, e, _, hK, hc0⟩ := Kd.C_get h ⟨#[]⟩ (i : Int) (by omega) (by omega)
  have hc : ∀ j u, c[j]? = some u → w.cell? (ad.add ((i : Int).toNat * 1 + j)) = some u := hc0
  obtain rfl : c = [.string _] := hK
  have hq := hc 0 _ rfl
  rw [Nat.mul_one, Nat.add_zero, Int.toNat_natCast] at hq
  exact ⟨ad, e, hq⟩
theorem size_small {a : Bool} {P : List S48} {K : List ByteArray} {D : List Int} (h : (leafV a P K D || innerV a P K D) = true) : sizeN a P K D ≤ 20912 := by
  rcases Bool.or_eq_true_iff.1 h with h | h
  · obtain ⟨rfl, _, _, h1, h2, _⟩ := leafV_true h
    have := weight_le P h2
    show 2 + weightN P ≤ _
    omega
  · obtain ⟨rfl, _, _, h1, h2, h3, _⟩ := innerV_true h
    have e : ∀ L : List ByteArray, L.any badS = false → (L.map fun k => 1 + k.size).sum ≤ 33 * L.length := by
      intro L
      induction L with
      | nil => intro _; simp
      | cons x xs ih =>
        intro hx
        rw [List.any_cons, Bool.or_eq_false_iff] at hx
        have := ih hx.2
        have hk : keyB x = true := by have := hx.1; unfold badS at this; simpa using this
        have hs : x.size ≤ 32 := by
          unfold keyB at hk
          split at hk
          · cases hk
          · have := of_decide_eq_true hk; omega
        rw [List.map_cons, List.sum_cons, List.length_cons]
        omega
    have := e K h3
    show 2 + 2 * D.length + _ ≤ _
    omega
set_option maxHeartbeats 4000000 in
set_option maxRecDepth 100000 in
theorem cisternlaw11_NodeWhole.walk (a : Bool) (A1 : Option Addr) (c1 : Nat) (l1 : List S48) (A2 : Option Addr) (c2 : Nat) (l2 : List ByteArray) (A3 : Option Addr) (c3 : Nat) (l3 : List Int) (w : World)
    (_wa0 : True ∧ (∀ x_ ∈ l1, (x_.f0.size ≤ maxLen) ∧ (x_.f1.size ≤ maxLen)) ∧ (∀ x_ ∈ l2, x_.size ≤ maxLen) ∧ (∀ x_ ∈ l3, (Lit.int .i64 x_).wf = true)) (hr1 : Kd.C k48 w A1 l1.length l1) (hc1 : l1.length ≤ c1) (y1 : l1.length * 32 ≤ 140737488351232) (hr2 : Kd.C Kd.string w A2 l2.length l2) (hc2 : l2.length ≤ c2) (y2 : l2.length * 16 ≤ 140737488351232) (hr3 : Kd.C (Kd.int .i64) w A3 l3.length l3) (hc3 : l3.length ≤ c3) (y3 : l3.length * 8 ≤ 140737488351232) :
    Calls Try.prog 5 #[.agg #[.bool a, .slice A1 l1.length c1, .slice A2 l2.length c2, .slice A3 l3.length c3]] w fun e w' => e = .returned (.bool true) ∧ Below w.heap.size w w' := by
  obtain ⟨KK, hK⟩ : ∃ K : Nat, K = 2000 := ⟨_, rfl⟩
  have OF : Aside0 (cisternlaw11_of.f a l1 l2 l3 = some (a, l1, l2, l3)) := ⟨of_val a l1 l2 l3 y1 y2 y3⟩
  have HR1 := Aside0.mk hr1
  have HR2 := Aside0.mk hr2
  have HR3 := Aside0.mk hr3
  rcases whole_split a l1 l2 l3 with ⟨ev, hs, he⟩ | ⟨b1, P1, K1, D1, k, b2, P2, K2, D2, hs, F⟩
  · clear hr1 hr2 hr3 y1 y2 y3 _wa0 hK
    have SP : Aside0 (node_Split.f a l1 l2 l3 = some (false, [], [], [], ⟨#[]⟩, false, [], [], [], ev)) := ⟨congrArg some hs⟩
    clear hs
    rcases he with rfl | rfl
    · have BB0 := Below.refl w.heap.size w
      obtain ⟨wp0, hwp0⟩ : ∃ x, x = w.alloc (.cells #[.bool a, .slice A1 l1.length c1, .slice A2 l2.length c2, .slice A3 l3.length c3] 26) := ⟨_, rfl⟩
      have t_n := heap_alloc_new w (.cells #[.bool a, .slice A1 l1.length c1, .slice A2 l2.length c2, .slice A3 l3.length c3] 26)
      rw [← hwp0] at t_n
      have BB1 : Below w.heap.size w wp0 := by rw [hwp0]; exact below_alloc BB0 _
      have sz0 : wp0.heap.size = w.heap.size + 1 := by rw [hwp0]; simp
      have HW0 : Aside0 (wp0 = (w.alloc (.cells #[.bool a, .slice A1 l1.length c1, .slice A2 l2.length c2, .slice A3 l3.length c3] 26))) := ⟨by rw [hwp0]⟩
      have T_n := Aside0.mk t_n
      have BB := Aside0.mk BB1
      have SZ0 := Aside0.mk sz0
      clear t_n BB0 BB1 sz0 hwp0
      go_enter Try.func5, Try.ntmps5
      go_wp2_with fail
      rw [← HW0.out]
      refine (cisternlaw11_known.calls true _ known_val).mono ?_
      rintro e w101 ⟨rfl, hB⟩
      replace T_n := Aside0.mk ((hB.block _ (blk_lt T_n.out)).trans T_n.out)
      replace BB := Aside0.mk (BB.out.trans (hB.mono BB.out.size))
      clear hB
      have c_n0 : w101.cell? ⟨w.heap.size, 0, none⟩ = some (.bool a) := blk_cell T_n.out 0
      have c_n1 : w101.cell? ⟨w.heap.size, 1, none⟩ = some (.slice A1 l1.length c1) := blk_cell T_n.out 1
      have c_n2 : w101.cell? ⟨w.heap.size, 2, none⟩ = some (.slice A2 l2.length c2) := blk_cell T_n.out 2
      have c_n3 : w101.cell? ⟨w.heap.size, 3, none⟩ = some (.slice A3 l3.length c3) := blk_cell T_n.out 3
      go_wp2_with fail
      have BBo := BB
      refine (cisternlaw11_of.calls a A1 c1 l1 A2 c2 l2 A3 c3 l3 a l1 l2 l3 _ (Kd.C_below HR1.out BB.out) hc1 (Kd.C_below HR2.out BB.out) hc2 (Kd.C_below HR3.out BB.out) hc3 OF.out).mono ?_
      rintro e w102 ⟨v1, v2, v3, rfl, h1, h2, h3, hB⟩
      replace T_n := Aside0.mk ((hB.block _ (blk_lt T_n.out)).trans T_n.out)
      replace BB := Aside0.mk (BB.out.trans (hB.mono BB.out.size))
      clear hB
      clear c_n0 c_n1 c_n2 c_n3
      obtain ⟨A103, c104, rfl⟩ := Kd.R_slice h1
      have R_o1 := Aside0.mk (Kd.R_lower h1 BBo.out.size)
      obtain ⟨A105, c106, rfl⟩ := Kd.R_slice h2
      have R_o2 := Aside0.mk (Kd.R_lower h2 BBo.out.size)
      obtain ⟨A107, c108, rfl⟩ := Kd.R_slice h3
      have R_o3 := Aside0.mk (Kd.R_lower h3 BBo.out.size)
      clear BBo h1 h2 h3
      go_wp2_with fail
      have BBo := BB
      refine (node_Split.calls a A103 c104 l1 A105 c106 l2 A107 c108 l3 false ([] : List S48) ([] : List ByteArray) ([] : List Int) ⟨#[]⟩ false ([] : List S48) ([] : List ByteArray) ([] : List Int) 2 _ (Kd.R_reads' R_o1.out).2.2 (Kd.R_reads' R_o1.out).2.1 (Kd.R_reads' R_o2.out).2.2 (Kd.R_reads' R_o2.out).2.1 (Kd.R_reads' R_o3.out).2.2 (Kd.R_reads' R_o3.out).2.1 SP.out).mono ?_
      rintro e w109 ⟨v1, v2, v3, u1, u2, u3, rfl, h1, h2, h3, h4, h5, h6, hB⟩
      replace T_n := Aside0.mk ((hB.block _ (blk_lt T_n.out)).trans T_n.out)
      replace R_o1 := Aside0.mk (Kd.R_below R_o1.out hB)
      replace R_o2 := Aside0.mk (Kd.R_below R_o2.out hB)
      replace R_o3 := Aside0.mk (Kd.R_below R_o3.out hB)
      replace BB := Aside0.mk (BB.out.trans (hB.mono BB.out.size))
      clear hB
      clear R_o1 R_o2 R_o3
      obtain ⟨A110, c111, rfl⟩ := Kd.R_slice h1
      have R_p1 := Aside0.mk (Kd.R_lower h1 BBo.out.size)
      obtain ⟨A112, c113, rfl⟩ := Kd.R_slice h2
      have R_p2 := Aside0.mk (Kd.R_lower h2 BBo.out.size)
      obtain ⟨A114, c115, rfl⟩ := Kd.R_slice h3
      have R_p3 := Aside0.mk (Kd.R_lower h3 BBo.out.size)
      obtain ⟨A116, c117, rfl⟩ := Kd.R_slice h4
      have R_q1 := Aside0.mk (Kd.R_lower h4 BBo.out.size)
      obtain ⟨A118, c119, rfl⟩ := Kd.R_slice h5
      have R_q2 := Aside0.mk (Kd.R_lower h5 BBo.out.size)
      obtain ⟨A120, c121, rfl⟩ := Kd.R_slice h6
      have R_q3 := Aside0.mk (Kd.R_lower h6 BBo.out.size)
      clear BBo h1 h2 h3 h4 h5 h6
      go_upto_region 4 with fail
      obtain ⟨g124, hg124⟩ : ∃ n, n = w109.heap.size := ⟨_, rfl⟩
      obtain ⟨w122, hw122⟩ : ∃ x, x = w109.alloc (.cells #[.bool false, .slice A110 0 c111, .slice A112 0 c113, .slice A114 0 c115] 31) := ⟨_, rfl⟩
      have tn1 := heap_alloc_new w109 (.cells #[.bool false, .slice A110 0 c111, .slice A112 0 c113, .slice A114 0 c115] 31)
      have hB1 := below_alloc (Below.refl w109.heap.size w109) (.cells #[.bool false, .slice A110 0 c111, .slice A112 0 c113, .slice A114 0 c115] 31)
      have sz1 : w122.heap.size = w109.heap.size + 1 := by rw [hw122]; simp
      rw [← hw122] at tn1 hB1
      obtain ⟨w123, hw123⟩ : ∃ x, x = w122.alloc (.cells #[.bool false, .slice A116 0 c117, .slice A118 0 c119, .slice A120 0 c121] 31) := ⟨_, rfl⟩
      have tn2 := heap_alloc_new w122 (.cells #[.bool false, .slice A116 0 c117, .slice A118 0 c119, .slice A120 0 c121] 31)
      rw [sz1] at tn2
      have hB2 := below_alloc (Below.refl w122.heap.size w122) (.cells #[.bool false, .slice A116 0 c117, .slice A118 0 c119, .slice A120 0 c121] 31)
      rw [← hw123] at tn2 hB2
      have hB : Below w109.heap.size w109 w123 := hB1.trans (hB2.mono hB1.size)
      have tn1' := (hB2.block _ (blk_lt tn1)).trans tn1
      rw [← hw122, ← hw123, ← hg124]
      rw [← hg124] at tn1' tn2
      replace T_n := Aside0.mk ((hB.block _ (blk_lt T_n.out)).trans T_n.out)
      replace R_p1 := Aside0.mk (Kd.R_below R_p1.out hB)
      replace R_p2 := Aside0.mk (Kd.R_below R_p2.out hB)
      replace R_p3 := Aside0.mk (Kd.R_below R_p3.out hB)
      replace R_q1 := Aside0.mk (Kd.R_below R_q1.out hB)
      replace R_q2 := Aside0.mk (Kd.R_below R_q2.out hB)
      replace R_q3 := Aside0.mk (Kd.R_below R_q3.out hB)
      replace BB := Aside0.mk (BB.out.trans (hB.mono BB.out.size))
      have T_a := Aside0.mk tn1'
      have T_b := Aside0.mk tn2
      clear tn1 tn1' tn2 hB1 hB2 hB sz1 hw122 hw123 hg124
      go_wp2_with fail
      go_ret
      exact ⟨rfl, BB.out⟩
    · have BB0 := Below.refl w.heap.size w
      obtain ⟨wp0, hwp0⟩ : ∃ x, x = w.alloc (.cells #[.bool a, .slice A1 l1.length c1, .slice A2 l2.length c2, .slice A3 l3.length c3] 26) := ⟨_, rfl⟩
      have t_n := heap_alloc_new w (.cells #[.bool a, .slice A1 l1.length c1, .slice A2 l2.length c2, .slice A3 l3.length c3] 26)
      rw [← hwp0] at t_n
      have BB1 : Below w.heap.size w wp0 := by rw [hwp0]; exact below_alloc BB0 _
      have sz0 : wp0.heap.size = w.heap.size + 1 := by rw [hwp0]; simp
      have HW0 : Aside0 (wp0 = (w.alloc (.cells #[.bool a, .slice A1 l1.length c1, .slice A2 l2.length c2, .slice A3 l3.length c3] 26))) := ⟨by rw [hwp0]⟩
      have T_n := Aside0.mk t_n
      have BB := Aside0.mk BB1
      have SZ0 := Aside0.mk sz0
      clear t_n BB0 BB1 sz0 hwp0
      go_enter Try.func5, Try.ntmps5
      go_wp2_with fail
      rw [← HW0.out]
      refine (cisternlaw11_known.calls true _ known_val).mono ?_
      rintro e w125 ⟨rfl, hB⟩
      replace T_n := Aside0.mk ((hB.block _ (blk_lt T_n.out)).trans T_n.out)
      replace BB := Aside0.mk (BB.out.trans (hB.mono BB.out.size))
      clear hB
      have c_n0 : w125.cell? ⟨w.heap.size, 0, none⟩ = some (.bool a) := blk_cell T_n.out 0
      have c_n1 : w125.cell? ⟨w.heap.size, 1, none⟩ = some (.slice A1 l1.length c1) := blk_cell T_n.out 1
      have c_n2 : w125.cell? ⟨w.heap.size, 2, none⟩ = some (.slice A2 l2.length c2) := blk_cell T_n.out 2
      have c_n3 : w125.cell? ⟨w.heap.size, 3, none⟩ = some (.slice A3 l3.length c3) := blk_cell T_n.out 3
      go_wp2_with fail
      have BBo := BB
      refine (cisternlaw11_of.calls a A1 c1 l1 A2 c2 l2 A3 c3 l3 a l1 l2 l3 _ (Kd.C_below HR1.out BB.out) hc1 (Kd.C_below HR2.out BB.out) hc2 (Kd.C_below HR3.out BB.out) hc3 OF.out).mono ?_
      rintro e w126 ⟨v1, v2, v3, rfl, h1, h2, h3, hB⟩
      replace T_n := Aside0.mk ((hB.block _ (blk_lt T_n.out)).trans T_n.out)
      replace BB := Aside0.mk (BB.out.trans (hB.mono BB.out.size))
      clear hB
      clear c_n0 c_n1 c_n2 c_n3
      obtain ⟨A127, c128, rfl⟩ := Kd.R_slice h1
      have R_o1 := Aside0.mk (Kd.R_lower h1 BBo.out.size)
      obtain ⟨A129, c130, rfl⟩ := Kd.R_slice h2
      have R_o2 := Aside0.mk (Kd.R_lower h2 BBo.out.size)
      obtain ⟨A131, c132, rfl⟩ := Kd.R_slice h3
      have R_o3 := Aside0.mk (Kd.R_lower h3 BBo.out.size)
      clear BBo h1 h2 h3
      go_wp2_with fail
      have BBo := BB
      refine (node_Split.calls a A127 c128 l1 A129 c130 l2 A131 c132 l3 false ([] : List S48) ([] : List ByteArray) ([] : List Int) ⟨#[]⟩ false ([] : List S48) ([] : List ByteArray) ([] : List Int) 7 _ (Kd.R_reads' R_o1.out).2.2 (Kd.R_reads' R_o1.out).2.1 (Kd.R_reads' R_o2.out).2.2 (Kd.R_reads' R_o2.out).2.1 (Kd.R_reads' R_o3.out).2.2 (Kd.R_reads' R_o3.out).2.1 SP.out).mono ?_
      rintro e w133 ⟨v1, v2, v3, u1, u2, u3, rfl, h1, h2, h3, h4, h5, h6, hB⟩
      replace T_n := Aside0.mk ((hB.block _ (blk_lt T_n.out)).trans T_n.out)
      replace R_o1 := Aside0.mk (Kd.R_below R_o1.out hB)
      replace R_o2 := Aside0.mk (Kd.R_below R_o2.out hB)
      replace R_o3 := Aside0.mk (Kd.R_below R_o3.out hB)
      replace BB := Aside0.mk (BB.out.trans (hB.mono BB.out.size))
      clear hB
      clear R_o1 R_o2 R_o3
      obtain ⟨A134, c135, rfl⟩ := Kd.R_slice h1
      have R_p1 := Aside0.mk (Kd.R_lower h1 BBo.out.size)
      obtain ⟨A136, c137, rfl⟩ := Kd.R_slice h2
      have R_p2 := Aside0.mk (Kd.R_lower h2 BBo.out.size)
      obtain ⟨A138, c139, rfl⟩ := Kd.R_slice h3
      have R_p3 := Aside0.mk (Kd.R_lower h3 BBo.out.size)
      obtain ⟨A140, c141, rfl⟩ := Kd.R_slice h4
      have R_q1 := Aside0.mk (Kd.R_lower h4 BBo.out.size)
      obtain ⟨A142, c143, rfl⟩ := Kd.R_slice h5
      have R_q2 := Aside0.mk (Kd.R_lower h5 BBo.out.size)
      obtain ⟨A144, c145, rfl⟩ := Kd.R_slice h6
      have R_q3 := Aside0.mk (Kd.R_lower h6 BBo.out.size)
      clear BBo h1 h2 h3 h4 h5 h6
      go_upto_region 4 with fail
      obtain ⟨g148, hg148⟩ : ∃ n, n = w133.heap.size := ⟨_, rfl⟩
      obtain ⟨w146, hw146⟩ : ∃ x, x = w133.alloc (.cells #[.bool false, .slice A134 0 c135, .slice A136 0 c137, .slice A138 0 c139] 31) := ⟨_, rfl⟩
      have tn1 := heap_alloc_new w133 (.cells #[.bool false, .slice A134 0 c135, .slice A136 0 c137, .slice A138 0 c139] 31)
      have hB1 := below_alloc (Below.refl w133.heap.size w133) (.cells #[.bool false, .slice A134 0 c135, .slice A136 0 c137, .slice A138 0 c139] 31)
      have sz1 : w146.heap.size = w133.heap.size + 1 := by rw [hw146]; simp
      rw [← hw146] at tn1 hB1
      obtain ⟨w147, hw147⟩ : ∃ x, x = w146.alloc (.cells #[.bool false, .slice A140 0 c141, .slice A142 0 c143, .slice A144 0 c145] 31) := ⟨_, rfl⟩
      have tn2 := heap_alloc_new w146 (.cells #[.bool false, .slice A140 0 c141, .slice A142 0 c143, .slice A144 0 c145] 31)
      rw [sz1] at tn2
      have hB2 := below_alloc (Below.refl w146.heap.size w146) (.cells #[.bool false, .slice A140 0 c141, .slice A142 0 c143, .slice A144 0 c145] 31)
      rw [← hw147] at tn2 hB2
      have hB : Below w133.heap.size w133 w147 := hB1.trans (hB2.mono hB1.size)
      have tn1' := (hB2.block _ (blk_lt tn1)).trans tn1
      rw [← hw146, ← hw147, ← hg148]
      rw [← hg148] at tn1' tn2
      replace T_n := Aside0.mk ((hB.block _ (blk_lt T_n.out)).trans T_n.out)
      replace R_p1 := Aside0.mk (Kd.R_below R_p1.out hB)
      replace R_p2 := Aside0.mk (Kd.R_below R_p2.out hB)
      replace R_p3 := Aside0.mk (Kd.R_below R_p3.out hB)
      replace R_q1 := Aside0.mk (Kd.R_below R_q1.out hB)
      replace R_q2 := Aside0.mk (Kd.R_below R_q2.out hB)
      replace R_q3 := Aside0.mk (Kd.R_below R_q3.out hB)
      replace BB := Aside0.mk (BB.out.trans (hB.mono BB.out.size))
      have T_a := Aside0.mk tn1'
      have T_b := Aside0.mk tn2
      clear tn1 tn1' tn2 hB1 hB2 hB sz1 hw146 hw147 hg148
      go_wp2_with fail
      go_ret
      exact ⟨rfl, BB.out⟩
  · have SP : Aside0 (node_Split.f a l1 l2 l3 = some (b1, P1, K1, D1, k, b2, P2, K2, D2, 0)) := ⟨congrArg some hs⟩
    have SS : Aside0 (cisternref11_Same.f KK a l1 l2 l3 a l1 l2 l3 = some true) := ⟨by
      have hv : (leafV a l1 l2 l3 || innerV a l1 l2 l3) = true := by
        have := F.mg
        unfold mergeV at this
        split at this
        · rename_i hh
          injection this with e1 e2; injection e2 with e2 e3; injection e3 with e3 e4; injection e4 with e4 e5
          rw [← e1, ← e2, ← e3, ← e4]
          exact hh.2.2.2.2
        · injection this with e1 e2; injection e2 with e2 e3; injection e3 with e3 e4; injection e4 with e4 e5
          cases e5
      obtain ⟨z1, z2, z3⟩ := form_len hv
      exact same_self a l1 l2 l3 (by omega) (by omega) (by omega) KK (by omega)⟩
    have MG : Aside0 (node_Merge.f b1 P1 K1 D1 k b2 P2 K2 D2 = some (a, l1, l2, l3, 0)) := ⟨congrArg some F.mg⟩
    have CK1 : Aside0 (node_Check.f b1 P1 K1 D1 = some 0) := ⟨by rw [check_val, if_pos F.ok1]⟩
    have CK2 : Aside0 (node_Check.f b2 P2 K2 D2 = some 0) := ⟨by rw [check_val, if_pos F.ok2]⟩
    have FL1 := form_len F.ok1
    have FL2 := form_len F.ok2
    have hv0 : (leafV a l1 l2 l3 || innerV a l1 l2 l3) = true := by
      have := F.mg
      unfold mergeV at this
      split at this
      · rename_i hh
        injection this with e1 e2; injection e2 with e2 e3; injection e3 with e3 e4; injection e4 with e4 e5
        rw [← e1, ← e2, ← e3, ← e4]
        exact hh.2.2.2.2
      · injection this with e1 e2; injection e2 with e2 e3; injection e3 with e3 e4; injection e4 with e4 e5
        cases e5
    have FL0 := form_len hv0
    have n10 := F.s1
    have n20 := F.s2
    have SZ0a : node_Size.f KK a l1 l2 l3 = some ((sizeN a l1 l2 l3 : Nat) : Int) := by rw [size_val a l1 l2 l3 (by omega) (by omega) KK (by omega) (by omega), wrap_small (size_small hv0)]
    have SZ1a : node_Size.f KK b1 P1 K1 D1 = some ((sizeN b1 P1 K1 D1 : Nat) : Int) := by rw [size_val b1 P1 K1 D1 (by omega) (by omega) KK (by omega) (by omega), wrap_small (size_small F.ok1)]
    have SZ2a : node_Size.f KK b2 P2 K2 D2 = some ((sizeN b2 P2 K2 D2 : Nat) : Int) := by rw [size_val b2 P2 K2 D2 (by omega) (by omega) KK (by omega) (by omega), wrap_small (size_small F.ok2)]
    obtain ⟨n0, e0⟩ : ∃ n, sizeN a l1 l2 l3 = n := ⟨_, rfl⟩
    obtain ⟨n1, e1⟩ : ∃ n, sizeN b1 P1 K1 D1 = n := ⟨_, rfl⟩
    obtain ⟨n2, e2⟩ : ∃ n, sizeN b2 P2 K2 D2 = n := ⟨_, rfl⟩
    rw [e0] at SZ0a n10 n20
    rw [e1] at SZ1a n10
    rw [e2] at SZ2a n20
    have SZn0 := Aside0.mk SZ0a
    have SZ1 := Aside0.mk SZ1a
    have SZ2 := Aside0.mk SZ2a
    have FF := Aside0.mk F
    have FL0 := Aside0.mk (show P1.length ≤ 255 from FL1.1)
    have FL3 := Aside0.mk (show K2.length ≤ 255 from FL2.2.1)
    have FLx := Aside0.mk (show K1.length ≤ 255 from FL1.2.1)
    have FLy := Aside0.mk (show P2.length ≤ 255 from FL2.1)
    clear FL1 FL2
    have FL1 := FLy
    have FL2 := FLx
    clear FLx FLy hs F SZ0a SZ1a SZ2a e0 e1 e2 hv0 hr1 hr2 hr3 y1 y2 y3 _wa0 hK
    have BB0 := Below.refl w.heap.size w
    obtain ⟨wp0, hwp0⟩ : ∃ x, x = w.alloc (.cells #[.bool a, .slice A1 l1.length c1, .slice A2 l2.length c2, .slice A3 l3.length c3] 26) := ⟨_, rfl⟩
    have t_n := heap_alloc_new w (.cells #[.bool a, .slice A1 l1.length c1, .slice A2 l2.length c2, .slice A3 l3.length c3] 26)
    rw [← hwp0] at t_n
    have BB1 : Below w.heap.size w wp0 := by rw [hwp0]; exact below_alloc BB0 _
    have sz0 : wp0.heap.size = w.heap.size + 1 := by rw [hwp0]; simp
    have HW0 : Aside0 (wp0 = (w.alloc (.cells #[.bool a, .slice A1 l1.length c1, .slice A2 l2.length c2, .slice A3 l3.length c3] 26))) := ⟨by rw [hwp0]⟩
    have T_n := Aside0.mk t_n
    have BB := Aside0.mk BB1
    have SZ0 := Aside0.mk sz0
    clear t_n BB0 BB1 sz0 hwp0
    go_enter Try.func5, Try.ntmps5
    go_wp2_with fail
    rw [← HW0.out]
    refine (cisternlaw11_known.calls true _ known_val).mono ?_
    rintro e w149 ⟨rfl, hB⟩
    replace T_n := Aside0.mk ((hB.block _ (blk_lt T_n.out)).trans T_n.out)
    replace BB := Aside0.mk (BB.out.trans (hB.mono BB.out.size))
    clear hB
    have c_n0 : w149.cell? ⟨w.heap.size, 0, none⟩ = some (.bool a) := blk_cell T_n.out 0
    have c_n1 : w149.cell? ⟨w.heap.size, 1, none⟩ = some (.slice A1 l1.length c1) := blk_cell T_n.out 1
    have c_n2 : w149.cell? ⟨w.heap.size, 2, none⟩ = some (.slice A2 l2.length c2) := blk_cell T_n.out 2
    have c_n3 : w149.cell? ⟨w.heap.size, 3, none⟩ = some (.slice A3 l3.length c3) := blk_cell T_n.out 3
    go_wp2_with fail
    have BBo := BB
    refine (cisternlaw11_of.calls a A1 c1 l1 A2 c2 l2 A3 c3 l3 a l1 l2 l3 _ (Kd.C_below HR1.out BB.out) hc1 (Kd.C_below HR2.out BB.out) hc2 (Kd.C_below HR3.out BB.out) hc3 OF.out).mono ?_
    rintro e w150 ⟨v1, v2, v3, rfl, h1, h2, h3, hB⟩
    replace T_n := Aside0.mk ((hB.block _ (blk_lt T_n.out)).trans T_n.out)
    replace BB := Aside0.mk (BB.out.trans (hB.mono BB.out.size))
    clear hB
    clear c_n0 c_n1 c_n2 c_n3
    obtain ⟨A151, c152, rfl⟩ := Kd.R_slice h1
    have R_o1 := Aside0.mk (Kd.R_lower h1 BBo.out.size)
    obtain ⟨A153, c154, rfl⟩ := Kd.R_slice h2
    have R_o2 := Aside0.mk (Kd.R_lower h2 BBo.out.size)
    obtain ⟨A155, c156, rfl⟩ := Kd.R_slice h3
    have R_o3 := Aside0.mk (Kd.R_lower h3 BBo.out.size)
    clear BBo h1 h2 h3
    go_wp2_with fail
    have BBo := BB
    refine (node_Split.calls a A151 c152 l1 A153 c154 l2 A155 c156 l3 b1 P1 K1 D1 k b2 P2 K2 D2 0 _ (Kd.R_reads' R_o1.out).2.2 (Kd.R_reads' R_o1.out).2.1 (Kd.R_reads' R_o2.out).2.2 (Kd.R_reads' R_o2.out).2.1 (Kd.R_reads' R_o3.out).2.2 (Kd.R_reads' R_o3.out).2.1 SP.out).mono ?_
    rintro e w157 ⟨v1, v2, v3, u1, u2, u3, rfl, h1, h2, h3, h4, h5, h6, hB⟩
    replace T_n := Aside0.mk ((hB.block _ (blk_lt T_n.out)).trans T_n.out)
    replace R_o1 := Aside0.mk (Kd.R_below R_o1.out hB)
    replace R_o2 := Aside0.mk (Kd.R_below R_o2.out hB)
    replace R_o3 := Aside0.mk (Kd.R_below R_o3.out hB)
    replace BB := Aside0.mk (BB.out.trans (hB.mono BB.out.size))
    clear hB
    clear R_o1 R_o2 R_o3
    obtain ⟨A158, c159, rfl⟩ := Kd.R_slice h1
    have R_p1 := Aside0.mk (Kd.R_lower h1 BBo.out.size)
    obtain ⟨A160, c161, rfl⟩ := Kd.R_slice h2
    have R_p2 := Aside0.mk (Kd.R_lower h2 BBo.out.size)
    obtain ⟨A162, c163, rfl⟩ := Kd.R_slice h3
    have R_p3 := Aside0.mk (Kd.R_lower h3 BBo.out.size)
    obtain ⟨A164, c165, rfl⟩ := Kd.R_slice h4
    have R_q1 := Aside0.mk (Kd.R_lower h4 BBo.out.size)
    obtain ⟨A166, c167, rfl⟩ := Kd.R_slice h5
    have R_q2 := Aside0.mk (Kd.R_lower h5 BBo.out.size)
    obtain ⟨A168, c169, rfl⟩ := Kd.R_slice h6
    have R_q3 := Aside0.mk (Kd.R_lower h6 BBo.out.size)
    clear BBo h1 h2 h3 h4 h5 h6
    go_upto_region 4 with fail
    obtain ⟨g172, hg172⟩ : ∃ n, n = w157.heap.size := ⟨_, rfl⟩
    obtain ⟨w170, hw170⟩ : ∃ x, x = w157.alloc (.cells #[.bool b1, .slice A158 (P1).length c159, .slice A160 (K1).length c161, .slice A162 (D1).length c163] 31) := ⟨_, rfl⟩
    have tn1 := heap_alloc_new w157 (.cells #[.bool b1, .slice A158 (P1).length c159, .slice A160 (K1).length c161, .slice A162 (D1).length c163] 31)
    have hB1 := below_alloc (Below.refl w157.heap.size w157) (.cells #[.bool b1, .slice A158 (P1).length c159, .slice A160 (K1).length c161, .slice A162 (D1).length c163] 31)
    have sz1 : w170.heap.size = w157.heap.size + 1 := by rw [hw170]; simp
    rw [← hw170] at tn1 hB1
    obtain ⟨w171, hw171⟩ : ∃ x, x = w170.alloc (.cells #[.bool b2, .slice A164 (P2).length c165, .slice A166 (K2).length c167, .slice A168 (D2).length c169] 31) := ⟨_, rfl⟩
    have tn2 := heap_alloc_new w170 (.cells #[.bool b2, .slice A164 (P2).length c165, .slice A166 (K2).length c167, .slice A168 (D2).length c169] 31)
    rw [sz1] at tn2
    have hB2 := below_alloc (Below.refl w170.heap.size w170) (.cells #[.bool b2, .slice A164 (P2).length c165, .slice A166 (K2).length c167, .slice A168 (D2).length c169] 31)
    rw [← hw171] at tn2 hB2
    have hB : Below w157.heap.size w157 w171 := hB1.trans (hB2.mono hB1.size)
    have tn1' := (hB2.block _ (blk_lt tn1)).trans tn1
    rw [← hw170, ← hw171, ← hg172]
    rw [← hg172] at tn1' tn2
    replace T_n := Aside0.mk ((hB.block _ (blk_lt T_n.out)).trans T_n.out)
    replace R_p1 := Aside0.mk (Kd.R_below R_p1.out hB)
    replace R_p2 := Aside0.mk (Kd.R_below R_p2.out hB)
    replace R_p3 := Aside0.mk (Kd.R_below R_p3.out hB)
    replace R_q1 := Aside0.mk (Kd.R_below R_q1.out hB)
    replace R_q2 := Aside0.mk (Kd.R_below R_q2.out hB)
    replace R_q3 := Aside0.mk (Kd.R_below R_q3.out hB)
    replace BB := Aside0.mk (BB.out.trans (hB.mono BB.out.size))
    have T_a := Aside0.mk tn1'
    have T_b := Aside0.mk tn2
    clear tn1 tn1' tn2 hB1 hB2 hB sz1 hw170 hw171 hg172
    have c_a0 : w171.cell? ⟨g172, 0, none⟩ = some (.bool b1) := blk_cell T_a.out 0
    have c_a1 : w171.cell? ⟨g172, 1, none⟩ = some (.slice A158 (P1).length c159) := blk_cell T_a.out 1
    have c_a2 : w171.cell? ⟨g172, 2, none⟩ = some (.slice A160 (K1).length c161) := blk_cell T_a.out 2
    have c_a3 : w171.cell? ⟨g172, 3, none⟩ = some (.slice A162 (D1).length c163) := blk_cell T_a.out 3
    have c_b0 : w171.cell? ⟨(g172 + 1), 0, none⟩ = some (.bool b2) := blk_cell T_b.out 0
    have c_b1 : w171.cell? ⟨(g172 + 1), 1, none⟩ = some (.slice A164 (P2).length c165) := blk_cell T_b.out 1
    have c_b2 : w171.cell? ⟨(g172 + 1), 2, none⟩ = some (.slice A166 (K2).length c167) := blk_cell T_b.out 2
    have c_b3 : w171.cell? ⟨(g172 + 1), 3, none⟩ = some (.slice A168 (D2).length c169) := blk_cell T_b.out 3
    go_wp2_with fail
    have BBo := BB
    refine (node_Merge.calls b1 A158 c159 P1 A160 c161 K1 A162 c163 D1 k b2 A164 c165 P2 A166 c167 K2 A168 c169 D2 a l1 l2 l3 0 _ (Kd.R_reads' R_p1.out).2.2 (Kd.R_reads' R_p1.out).2.1 (Kd.R_reads' R_p2.out).2.2 (Kd.R_reads' R_p2.out).2.1 (Kd.R_reads' R_p3.out).2.2 (Kd.R_reads' R_p3.out).2.1 (Kd.R_reads' R_q1.out).2.2 (Kd.R_reads' R_q1.out).2.1 (Kd.R_reads' R_q2.out).2.2 (Kd.R_reads' R_q2.out).2.1 (Kd.R_reads' R_q3.out).2.2 (Kd.R_reads' R_q3.out).2.1 MG.out).mono ?_
    rintro e w173 ⟨v1, v2, v3, rfl, h1, h2, h3, hB⟩
    replace T_n := Aside0.mk ((hB.block _ (blk_lt T_n.out)).trans T_n.out)
    replace T_a := Aside0.mk ((hB.block _ (blk_lt T_a.out)).trans T_a.out)
    replace T_b := Aside0.mk ((hB.block _ (blk_lt T_b.out)).trans T_b.out)
    replace R_p1 := Aside0.mk (Kd.R_below R_p1.out hB)
    replace R_p2 := Aside0.mk (Kd.R_below R_p2.out hB)
    replace R_p3 := Aside0.mk (Kd.R_below R_p3.out hB)
    replace R_q1 := Aside0.mk (Kd.R_below R_q1.out hB)
    replace R_q2 := Aside0.mk (Kd.R_below R_q2.out hB)
    replace R_q3 := Aside0.mk (Kd.R_below R_q3.out hB)
    replace BB := Aside0.mk (BB.out.trans (hB.mono BB.out.size))
    clear hB
    clear c_a0 c_a1 c_a2 c_a3 c_b0 c_b1 c_b2 c_b3
    obtain ⟨A174, c175, rfl⟩ := Kd.R_slice h1
    have R_m1 := Aside0.mk (Kd.R_lower h1 BBo.out.size)
    obtain ⟨A176, c177, rfl⟩ := Kd.R_slice h2
    have R_m2 := Aside0.mk (Kd.R_lower h2 BBo.out.size)
    obtain ⟨A178, c179, rfl⟩ := Kd.R_slice h3
    have R_m3 := Aside0.mk (Kd.R_lower h3 BBo.out.size)
    clear BBo h1 h2 h3
    go_upto_region 7 with fail
    obtain ⟨g181, hg181⟩ : ∃ n, n = w173.heap.size := ⟨_, rfl⟩
    obtain ⟨w180, hw180⟩ : ∃ x, x = w173.alloc (.cells #[.bool a, .slice A174 (l1).length c175, .slice A176 (l2).length c177, .slice A178 (l3).length c179] 31) := ⟨_, rfl⟩
    have tn := heap_alloc_new w173 (.cells #[.bool a, .slice A174 (l1).length c175, .slice A176 (l2).length c177, .slice A178 (l3).length c179] 31)
    have hB := below_alloc (Below.refl w173.heap.size w173) (.cells #[.bool a, .slice A174 (l1).length c175, .slice A176 (l2).length c177, .slice A178 (l3).length c179] 31)
    rw [← hw180] at tn hB
    rw [← hg181] at tn
    have GBB_m : Aside0 (w.heap.size ≤ g181) := ⟨by rw [hg181]; exact BB.out.size⟩
    have NE_m_n : Aside0 (w.heap.size ≠ g181) := ⟨by have := blk_lt T_n.out; omega⟩
    have NE_m_a : Aside0 (g172 ≠ g181) := ⟨by have := blk_lt T_a.out; omega⟩
    have NE_m_b : Aside0 ((g172 + 1) ≠ g181) := ⟨by have := blk_lt T_b.out; omega⟩
    replace T_n := Aside0.mk ((hB.block _ (blk_lt T_n.out)).trans T_n.out)
    replace T_a := Aside0.mk ((hB.block _ (blk_lt T_a.out)).trans T_a.out)
    replace T_b := Aside0.mk ((hB.block _ (blk_lt T_b.out)).trans T_b.out)
    replace R_p1 := Aside0.mk (Kd.R_below R_p1.out hB)
    replace R_p2 := Aside0.mk (Kd.R_below R_p2.out hB)
    replace R_p3 := Aside0.mk (Kd.R_below R_p3.out hB)
    replace R_q1 := Aside0.mk (Kd.R_below R_q1.out hB)
    replace R_q2 := Aside0.mk (Kd.R_below R_q2.out hB)
    replace R_q3 := Aside0.mk (Kd.R_below R_q3.out hB)
    replace R_m1 := Aside0.mk (Kd.R_below R_m1.out hB)
    replace R_m2 := Aside0.mk (Kd.R_below R_m2.out hB)
    replace R_m3 := Aside0.mk (Kd.R_below R_m3.out hB)
    replace BB := Aside0.mk (BB.out.trans (hB.mono BB.out.size))
    have T_m := Aside0.mk tn
    clear tn hB
    rw [← hw180]
    try rw [← hg181]
    clear hw180 hg181
    have c_n0 : w180.cell? ⟨w.heap.size, 0, none⟩ = some (.bool a) := blk_cell T_n.out 0
    have c_n1 : w180.cell? ⟨w.heap.size, 1, none⟩ = some (.slice A1 l1.length c1) := blk_cell T_n.out 1
    have c_n2 : w180.cell? ⟨w.heap.size, 2, none⟩ = some (.slice A2 l2.length c2) := blk_cell T_n.out 2
    have c_n3 : w180.cell? ⟨w.heap.size, 3, none⟩ = some (.slice A3 l3.length c3) := blk_cell T_n.out 3
    have c_a0 : w180.cell? ⟨g172, 0, none⟩ = some (.bool b1) := blk_cell T_a.out 0
    have c_a1 : w180.cell? ⟨g172, 1, none⟩ = some (.slice A158 (P1).length c159) := blk_cell T_a.out 1
    have c_a2 : w180.cell? ⟨g172, 2, none⟩ = some (.slice A160 (K1).length c161) := blk_cell T_a.out 2
    have c_a3 : w180.cell? ⟨g172, 3, none⟩ = some (.slice A162 (D1).length c163) := blk_cell T_a.out 3
    have c_b0 : w180.cell? ⟨(g172 + 1), 0, none⟩ = some (.bool b2) := blk_cell T_b.out 0
    have c_b1 : w180.cell? ⟨(g172 + 1), 1, none⟩ = some (.slice A164 (P2).length c165) := blk_cell T_b.out 1
    have c_b2 : w180.cell? ⟨(g172 + 1), 2, none⟩ = some (.slice A166 (K2).length c167) := blk_cell T_b.out 2
    have c_b3 : w180.cell? ⟨(g172 + 1), 3, none⟩ = some (.slice A168 (D2).length c169) := blk_cell T_b.out 3
    have c_m0 : w180.cell? ⟨g181, 0, none⟩ = some (.bool a) := blk_cell T_m.out 0
    have c_m1 : w180.cell? ⟨g181, 1, none⟩ = some (.slice A174 (l1).length c175) := blk_cell T_m.out 1
    have c_m2 : w180.cell? ⟨g181, 2, none⟩ = some (.slice A176 (l2).length c177) := blk_cell T_m.out 2
    have c_m3 : w180.cell? ⟨g181, 3, none⟩ = some (.slice A178 (l3).length c179) := blk_cell T_m.out 3
    have g1 : decide (n0 ≤ n1) = false := decide_eq_false (by omega)
    have g2 : decide (n0 ≤ n2) = false := decide_eq_false (by omega)
    have g3 : decide ((n1 : Int) < (n0 : Int)) = true := decide_eq_true (by omega)
    have g4 : decide ((n2 : Int) < (n0 : Int)) = true := decide_eq_true (by omega)
    have MK : Aside0 (∀ W, Below w180.heap.size w180 W → Below w180.heap.size w180 W ∧ W.cell? ⟨w.heap.size, 0, none⟩ = some (.bool a) ∧ W.cell? ⟨w.heap.size, 1, none⟩ = some (.slice A1 l1.length c1) ∧ W.cell? ⟨w.heap.size, 2, none⟩ = some (.slice A2 l2.length c2) ∧ W.cell? ⟨w.heap.size, 3, none⟩ = some (.slice A3 l3.length c3) ∧ W.cell? ⟨g172, 0, none⟩ = some (.bool b1) ∧ W.cell? ⟨g172, 1, none⟩ = some (.slice A158 (P1).length c159) ∧ W.cell? ⟨g172, 2, none⟩ = some (.slice A160 (K1).length c161) ∧ W.cell? ⟨g172, 3, none⟩ = some (.slice A162 (D1).length c163) ∧ W.cell? ⟨(g172 + 1), 0, none⟩ = some (.bool b2) ∧ W.cell? ⟨(g172 + 1), 1, none⟩ = some (.slice A164 (P2).length c165) ∧ W.cell? ⟨(g172 + 1), 2, none⟩ = some (.slice A166 (K2).length c167) ∧ W.cell? ⟨(g172 + 1), 3, none⟩ = some (.slice A168 (D2).length c169) ∧ W.cell? ⟨g181, 0, none⟩ = some (.bool a) ∧ W.cell? ⟨g181, 1, none⟩ = some (.slice A174 (l1).length c175) ∧ W.cell? ⟨g181, 2, none⟩ = some (.slice A176 (l2).length c177) ∧ W.cell? ⟨g181, 3, none⟩ = some (.slice A178 (l3).length c179)) := ⟨fun W hb => ⟨hb, nd_cell hb c_n0, nd_cell hb c_n1, nd_cell hb c_n2, nd_cell hb c_n3, nd_cell hb c_a0, nd_cell hb c_a1, nd_cell hb c_a2, nd_cell hb c_a3, nd_cell hb c_b0, nd_cell hb c_b1, nd_cell hb c_b2, nd_cell hb c_b3, nd_cell hb c_m0, nd_cell hb c_m1, nd_cell hb c_m2, nd_cell hb c_m3⟩⟩
    clear c_n0 c_n1 c_n2 c_n3 c_a0 c_a1 c_a2 c_a3 c_b0 c_b1 c_b2 c_b3 c_m0 c_m1 c_m2 c_m3
    have SB := Aside0.mk (Below.refl w180.heap.size w180)
    refine wp_region_held_drew (S := fun W => Below w180.heap.size w180 W ∧ W.cell? ⟨w.heap.size, 0, none⟩ = some (.bool a) ∧ W.cell? ⟨w.heap.size, 1, none⟩ = some (.slice A1 l1.length c1) ∧ W.cell? ⟨w.heap.size, 2, none⟩ = some (.slice A2 l2.length c2) ∧ W.cell? ⟨w.heap.size, 3, none⟩ = some (.slice A3 l3.length c3) ∧ W.cell? ⟨g172, 0, none⟩ = some (.bool b1) ∧ W.cell? ⟨g172, 1, none⟩ = some (.slice A158 (P1).length c159) ∧ W.cell? ⟨g172, 2, none⟩ = some (.slice A160 (K1).length c161) ∧ W.cell? ⟨g172, 3, none⟩ = some (.slice A162 (D1).length c163) ∧ W.cell? ⟨(g172 + 1), 0, none⟩ = some (.bool b2) ∧ W.cell? ⟨(g172 + 1), 1, none⟩ = some (.slice A164 (P2).length c165) ∧ W.cell? ⟨(g172 + 1), 2, none⟩ = some (.slice A166 (K2).length c167) ∧ W.cell? ⟨(g172 + 1), 3, none⟩ = some (.slice A168 (D2).length c169) ∧ W.cell? ⟨g181, 0, none⟩ = some (.bool a) ∧ W.cell? ⟨g181, 1, none⟩ = some (.slice A174 (l1).length c175) ∧ W.cell? ⟨g181, 2, none⟩ = some (.slice A176 (l2).length c177) ∧ W.cell? ⟨g181, 3, none⟩ = some (.slice A178 (l3).length c179)) (by kernel_rfl) ?_ (fun hHeld => ?_)
    · try dsimp only
      exact MK.out _ (Below.drew (Below.refl _ _))
    have hB : Below w180.heap.size w180 w180.drew := below_drew1 (Below.refl _ _)
    clear hHeld
    obtain ⟨w182, hw182⟩ : ∃ x, x = w180.drew := ⟨_, rfl⟩
    rw [← hw182] at hB ⊢
    clear hw182
    replace T_n := Aside0.mk ((hB.block _ (blk_lt T_n.out)).trans T_n.out)
    replace T_a := Aside0.mk ((hB.block _ (blk_lt T_a.out)).trans T_a.out)
    replace T_b := Aside0.mk ((hB.block _ (blk_lt T_b.out)).trans T_b.out)
    replace T_m := Aside0.mk ((hB.block _ (blk_lt T_m.out)).trans T_m.out)
    replace R_p1 := Aside0.mk (Kd.R_below R_p1.out hB)
    replace R_p2 := Aside0.mk (Kd.R_below R_p2.out hB)
    replace R_p3 := Aside0.mk (Kd.R_below R_p3.out hB)
    replace R_q1 := Aside0.mk (Kd.R_below R_q1.out hB)
    replace R_q2 := Aside0.mk (Kd.R_below R_q2.out hB)
    replace R_q3 := Aside0.mk (Kd.R_below R_q3.out hB)
    replace R_m1 := Aside0.mk (Kd.R_below R_m1.out hB)
    replace R_m2 := Aside0.mk (Kd.R_below R_m2.out hB)
    replace R_m3 := Aside0.mk (Kd.R_below R_m3.out hB)
    replace BB := Aside0.mk (BB.out.trans (hB.mono BB.out.size))
    replace SB := Aside0.mk (SB.out.trans (hB.mono SB.out.size))
    clear hB
    have hHeld := MK.out _ SB.out
    refine nd_take 0 hHeld ?_
    refine nd_take 1 hHeld ?_
    refine nd_take 2 hHeld ?_
    refine nd_take 3 hHeld ?_
    refine nd_take 5 hHeld ?_
    refine wpAnyH_ready (rs := [4]) (by kernel_rfl) (by simp) ?_
    refine (AllReadyH.cons rfl (fun K hK => ?_) AllReadyH.nil)
    go_simp
    refine (backW a A174 _ c175 A176 _ c177 A178 _ c179 _).mono ?_
    rintro e w183 ⟨rfl, hB⟩
    replace T_n := Aside0.mk ((hB.block _ (blk_lt T_n.out)).trans T_n.out)
    replace T_a := Aside0.mk ((hB.block _ (blk_lt T_a.out)).trans T_a.out)
    replace T_b := Aside0.mk ((hB.block _ (blk_lt T_b.out)).trans T_b.out)
    replace T_m := Aside0.mk ((hB.block _ (blk_lt T_m.out)).trans T_m.out)
    replace R_p1 := Aside0.mk (Kd.R_below R_p1.out hB)
    replace R_p2 := Aside0.mk (Kd.R_below R_p2.out hB)
    replace R_p3 := Aside0.mk (Kd.R_below R_p3.out hB)
    replace R_q1 := Aside0.mk (Kd.R_below R_q1.out hB)
    replace R_q2 := Aside0.mk (Kd.R_below R_q2.out hB)
    replace R_q3 := Aside0.mk (Kd.R_below R_q3.out hB)
    replace R_m1 := Aside0.mk (Kd.R_below R_m1.out hB)
    replace R_m2 := Aside0.mk (Kd.R_below R_m2.out hB)
    replace R_m3 := Aside0.mk (Kd.R_below R_m3.out hB)
    replace BB := Aside0.mk (BB.out.trans (hB.mono BB.out.size))
    replace SB := Aside0.mk (SB.out.trans (hB.mono SB.out.size))
    clear hB
    go_simp
    refine hK.out _ _ ?_ (fun hNew => ?_)
    · try dsimp only
      exact MK.out _ SB.out
    clear hK K hHeld hNew
    have hHeld := MK.out _ SB.out
    refine wpAnyH_ready (rs := [6]) (by kernel_rfl) (by simp) ?_
    refine (AllReadyH.cons rfl (fun K hK => ?_) AllReadyH.nil)
    go_simp
    refine (cisternref11_Same.calls KK a A174 c175 l1 A176 c177 l2 A178 c179 l3 a A1 c1 l1 A2 c2 l2 A3 c3 l3 true _ (Kd.R_reads' R_m1.out).2.2 (Kd.R_reads' R_m1.out).2.1 (Kd.R_reads' R_m2.out).2.2 (Kd.R_reads' R_m2.out).2.1 (Kd.R_reads' R_m3.out).2.2 (Kd.R_reads' R_m3.out).2.1 (Kd.C_below HR1.out BB.out) hc1 (Kd.C_below HR2.out BB.out) hc2 (Kd.C_below HR3.out BB.out) hc3 SS.out).mono ?_
    rintro e w184 ⟨rfl, hB⟩
    replace T_n := Aside0.mk ((hB.block _ (blk_lt T_n.out)).trans T_n.out)
    replace T_a := Aside0.mk ((hB.block _ (blk_lt T_a.out)).trans T_a.out)
    replace T_b := Aside0.mk ((hB.block _ (blk_lt T_b.out)).trans T_b.out)
    replace T_m := Aside0.mk ((hB.block _ (blk_lt T_m.out)).trans T_m.out)
    replace R_p1 := Aside0.mk (Kd.R_below R_p1.out hB)
    replace R_p2 := Aside0.mk (Kd.R_below R_p2.out hB)
    replace R_p3 := Aside0.mk (Kd.R_below R_p3.out hB)
    replace R_q1 := Aside0.mk (Kd.R_below R_q1.out hB)
    replace R_q2 := Aside0.mk (Kd.R_below R_q2.out hB)
    replace R_q3 := Aside0.mk (Kd.R_below R_q3.out hB)
    replace R_m1 := Aside0.mk (Kd.R_below R_m1.out hB)
    replace R_m2 := Aside0.mk (Kd.R_below R_m2.out hB)
    replace R_m3 := Aside0.mk (Kd.R_below R_m3.out hB)
    replace BB := Aside0.mk (BB.out.trans (hB.mono BB.out.size))
    replace SB := Aside0.mk (SB.out.trans (hB.mono SB.out.size))
    clear hB
    go_simp
    refine hK.out _ _ ?_ (fun hNew => ?_)
    · try dsimp only
      exact MK.out _ SB.out
    clear hK K hHeld hNew
    have hHeld := MK.out _ SB.out
    refine nd_take 7 hHeld ?_
    refine nd_take 8 hHeld ?_
    refine nd_take 9 hHeld ?_
    refine nd_take 10 hHeld ?_
    refine wpAnyH_ready (rs := [11]) (by kernel_rfl) (by simp) ?_
    refine (AllReadyH.cons rfl (fun K hK => ?_) AllReadyH.nil)
    go_simp
    refine (node_Check.calls b1 A158 c159 P1 A160 c161 K1 A162 c163 D1 0 _ (Kd.R_reads' R_p1.out).2.2 (Kd.R_reads' R_p1.out).2.1 (Kd.R_reads' R_p2.out).2.2 (Kd.R_reads' R_p2.out).2.1 (Kd.R_reads' R_p3.out).2.2 (Kd.R_reads' R_p3.out).2.1 CK1.out).mono ?_
    rintro e w185 ⟨rfl, hB⟩
    replace T_n := Aside0.mk ((hB.block _ (blk_lt T_n.out)).trans T_n.out)
    replace T_a := Aside0.mk ((hB.block _ (blk_lt T_a.out)).trans T_a.out)
    replace T_b := Aside0.mk ((hB.block _ (blk_lt T_b.out)).trans T_b.out)
    replace T_m := Aside0.mk ((hB.block _ (blk_lt T_m.out)).trans T_m.out)
    replace R_p1 := Aside0.mk (Kd.R_below R_p1.out hB)
    replace R_p2 := Aside0.mk (Kd.R_below R_p2.out hB)
    replace R_p3 := Aside0.mk (Kd.R_below R_p3.out hB)
    replace R_q1 := Aside0.mk (Kd.R_below R_q1.out hB)
    replace R_q2 := Aside0.mk (Kd.R_below R_q2.out hB)
    replace R_q3 := Aside0.mk (Kd.R_below R_q3.out hB)
    replace R_m1 := Aside0.mk (Kd.R_below R_m1.out hB)
    replace R_m2 := Aside0.mk (Kd.R_below R_m2.out hB)
    replace R_m3 := Aside0.mk (Kd.R_below R_m3.out hB)
    replace BB := Aside0.mk (BB.out.trans (hB.mono BB.out.size))
    replace SB := Aside0.mk (SB.out.trans (hB.mono SB.out.size))
    clear hB
    go_simp
    refine hK.out _ _ ?_ (fun hNew => ?_)
    · try dsimp only
      exact MK.out _ SB.out
    clear hK K hHeld hNew
    have hHeld := MK.out _ SB.out
    refine nd_take 12 hHeld ?_
    refine nd_take 13 hHeld ?_
    refine nd_take 14 hHeld ?_
    refine nd_take 15 hHeld ?_
    refine wpAnyH_ready (rs := [16]) (by kernel_rfl) (by simp) ?_
    refine (AllReadyH.cons rfl (fun K hK => ?_) AllReadyH.nil)
    go_simp
    refine (node_Check.calls b2 A164 c165 P2 A166 c167 K2 A168 c169 D2 0 _ (Kd.R_reads' R_q1.out).2.2 (Kd.R_reads' R_q1.out).2.1 (Kd.R_reads' R_q2.out).2.2 (Kd.R_reads' R_q2.out).2.1 (Kd.R_reads' R_q3.out).2.2 (Kd.R_reads' R_q3.out).2.1 CK2.out).mono ?_
    rintro e w186 ⟨rfl, hB⟩
    replace T_n := Aside0.mk ((hB.block _ (blk_lt T_n.out)).trans T_n.out)
    replace T_a := Aside0.mk ((hB.block _ (blk_lt T_a.out)).trans T_a.out)
    replace T_b := Aside0.mk ((hB.block _ (blk_lt T_b.out)).trans T_b.out)
    replace T_m := Aside0.mk ((hB.block _ (blk_lt T_m.out)).trans T_m.out)
    replace R_p1 := Aside0.mk (Kd.R_below R_p1.out hB)
    replace R_p2 := Aside0.mk (Kd.R_below R_p2.out hB)
    replace R_p3 := Aside0.mk (Kd.R_below R_p3.out hB)
    replace R_q1 := Aside0.mk (Kd.R_below R_q1.out hB)
    replace R_q2 := Aside0.mk (Kd.R_below R_q2.out hB)
    replace R_q3 := Aside0.mk (Kd.R_below R_q3.out hB)
    replace R_m1 := Aside0.mk (Kd.R_below R_m1.out hB)
    replace R_m2 := Aside0.mk (Kd.R_below R_m2.out hB)
    replace R_m3 := Aside0.mk (Kd.R_below R_m3.out hB)
    replace BB := Aside0.mk (BB.out.trans (hB.mono BB.out.size))
    replace SB := Aside0.mk (SB.out.trans (hB.mono SB.out.size))
    clear hB
    go_simp
    refine hK.out _ _ ?_ (fun hNew => ?_)
    · try dsimp only
      exact MK.out _ SB.out
    clear hK K hHeld hNew
    have hHeld := MK.out _ SB.out
    refine nd_take 17 hHeld ?_
    refine nd_take 18 hHeld ?_
    refine nd_take 19 hHeld ?_
    refine nd_take 20 hHeld ?_
    refine nd_take 22 hHeld ?_
    refine wpAnyH_ready (rs := [21]) (by kernel_rfl) (by simp) ?_
    refine (AllReadyH.cons rfl (fun K hK => ?_) AllReadyH.nil)
    go_simp
    refine (node_Size.calls KK b1 A158 c159 P1 A160 c161 K1 A162 c163 D1 (n1 : Int) _ (Kd.R_reads' R_p1.out).2.2 (Kd.R_reads' R_p1.out).2.1 (Kd.R_reads' R_p2.out).2.2 (Kd.R_reads' R_p2.out).2.1 (Kd.R_reads' R_p3.out).2.2 (Kd.R_reads' R_p3.out).2.1 SZ1.out).mono ?_
    rintro e w187 ⟨rfl, hB⟩
    replace T_n := Aside0.mk ((hB.block _ (blk_lt T_n.out)).trans T_n.out)
    replace T_a := Aside0.mk ((hB.block _ (blk_lt T_a.out)).trans T_a.out)
    replace T_b := Aside0.mk ((hB.block _ (blk_lt T_b.out)).trans T_b.out)
    replace T_m := Aside0.mk ((hB.block _ (blk_lt T_m.out)).trans T_m.out)
    replace R_p1 := Aside0.mk (Kd.R_below R_p1.out hB)
    replace R_p2 := Aside0.mk (Kd.R_below R_p2.out hB)
    replace R_p3 := Aside0.mk (Kd.R_below R_p3.out hB)
    replace R_q1 := Aside0.mk (Kd.R_below R_q1.out hB)
    replace R_q2 := Aside0.mk (Kd.R_below R_q2.out hB)
    replace R_q3 := Aside0.mk (Kd.R_below R_q3.out hB)
    replace R_m1 := Aside0.mk (Kd.R_below R_m1.out hB)
    replace R_m2 := Aside0.mk (Kd.R_below R_m2.out hB)
    replace R_m3 := Aside0.mk (Kd.R_below R_m3.out hB)
    replace BB := Aside0.mk (BB.out.trans (hB.mono BB.out.size))
    replace SB := Aside0.mk (SB.out.trans (hB.mono SB.out.size))
    clear hB
    go_simp
    refine hK.out _ _ ?_ (fun hNew => ?_)
    · try dsimp only
      exact MK.out _ SB.out
    clear hK K hHeld hNew
    have hHeld := MK.out _ SB.out
    refine wpAnyH_ready (rs := [23]) (by kernel_rfl) (by simp) ?_
    refine (AllReadyH.cons rfl (fun K hK => ?_) AllReadyH.nil)
    have BBo := BB
    go_simp
    refine (cisternlaw11_of.calls a A1 c1 l1 A2 c2 l2 A3 c3 l3 a l1 l2 l3 _ (Kd.C_below HR1.out BB.out) hc1 (Kd.C_below HR2.out BB.out) hc2 (Kd.C_below HR3.out BB.out) hc3 OF.out).mono ?_
    rintro e w188 ⟨v1, v2, v3, rfl, h1, h2, h3, hB⟩
    replace T_n := Aside0.mk ((hB.block _ (blk_lt T_n.out)).trans T_n.out)
    replace T_a := Aside0.mk ((hB.block _ (blk_lt T_a.out)).trans T_a.out)
    replace T_b := Aside0.mk ((hB.block _ (blk_lt T_b.out)).trans T_b.out)
    replace T_m := Aside0.mk ((hB.block _ (blk_lt T_m.out)).trans T_m.out)
    replace R_p1 := Aside0.mk (Kd.R_below R_p1.out hB)
    replace R_p2 := Aside0.mk (Kd.R_below R_p2.out hB)
    replace R_p3 := Aside0.mk (Kd.R_below R_p3.out hB)
    replace R_q1 := Aside0.mk (Kd.R_below R_q1.out hB)
    replace R_q2 := Aside0.mk (Kd.R_below R_q2.out hB)
    replace R_q3 := Aside0.mk (Kd.R_below R_q3.out hB)
    replace R_m1 := Aside0.mk (Kd.R_below R_m1.out hB)
    replace R_m2 := Aside0.mk (Kd.R_below R_m2.out hB)
    replace R_m3 := Aside0.mk (Kd.R_below R_m3.out hB)
    replace BB := Aside0.mk (BB.out.trans (hB.mono BB.out.size))
    replace SB := Aside0.mk (SB.out.trans (hB.mono SB.out.size))
    clear hB
    obtain ⟨A189, c190, rfl⟩ := Kd.R_slice h1
    have R_u1 := Aside0.mk (Kd.R_lower h1 BBo.out.size)
    obtain ⟨A191, c192, rfl⟩ := Kd.R_slice h2
    have R_u2 := Aside0.mk (Kd.R_lower h2 BBo.out.size)
    obtain ⟨A193, c194, rfl⟩ := Kd.R_slice h3
    have R_u3 := Aside0.mk (Kd.R_lower h3 BBo.out.size)
    clear BBo h1 h2 h3
    go_simp
    refine hK.out _ _ ?_ (fun hNew => ?_)
    · try dsimp only
      exact MK.out _ SB.out
    clear hK K hHeld hNew
    have hHeld := MK.out _ SB.out
    refine wpAnyH_ready (rs := [24]) (by kernel_rfl) (by simp) ?_
    refine (AllReadyH.cons rfl (fun K hK => ?_) AllReadyH.nil)
    go_simp
    refine (node_Size.calls KK a A189 c190 l1 A191 c192 l2 A193 c194 l3 (n0 : Int) _ (Kd.R_reads' R_u1.out).2.2 (Kd.R_reads' R_u1.out).2.1 (Kd.R_reads' R_u2.out).2.2 (Kd.R_reads' R_u2.out).2.1 (Kd.R_reads' R_u3.out).2.2 (Kd.R_reads' R_u3.out).2.1 SZn0.out).mono ?_
    rintro e w195 ⟨rfl, hB⟩
    replace T_n := Aside0.mk ((hB.block _ (blk_lt T_n.out)).trans T_n.out)
    replace T_a := Aside0.mk ((hB.block _ (blk_lt T_a.out)).trans T_a.out)
    replace T_b := Aside0.mk ((hB.block _ (blk_lt T_b.out)).trans T_b.out)
    replace T_m := Aside0.mk ((hB.block _ (blk_lt T_m.out)).trans T_m.out)
    replace R_p1 := Aside0.mk (Kd.R_below R_p1.out hB)
    replace R_p2 := Aside0.mk (Kd.R_below R_p2.out hB)
    replace R_p3 := Aside0.mk (Kd.R_below R_p3.out hB)
    replace R_q1 := Aside0.mk (Kd.R_below R_q1.out hB)
    replace R_q2 := Aside0.mk (Kd.R_below R_q2.out hB)
    replace R_q3 := Aside0.mk (Kd.R_below R_q3.out hB)
    replace R_m1 := Aside0.mk (Kd.R_below R_m1.out hB)
    replace R_m2 := Aside0.mk (Kd.R_below R_m2.out hB)
    replace R_m3 := Aside0.mk (Kd.R_below R_m3.out hB)
    replace R_u1 := Aside0.mk (Kd.R_below R_u1.out hB)
    replace R_u2 := Aside0.mk (Kd.R_below R_u2.out hB)
    replace R_u3 := Aside0.mk (Kd.R_below R_u3.out hB)
    replace BB := Aside0.mk (BB.out.trans (hB.mono BB.out.size))
    replace SB := Aside0.mk (SB.out.trans (hB.mono SB.out.size))
    clear hB
    go_simp
    refine hK.out _ _ ?_ (fun hNew => ?_)
    · try dsimp only
      exact MK.out _ SB.out
    clear hK K hHeld hNew
    have hHeld := MK.out _ SB.out
    refine nd_take 25 hHeld ?_
    refine nd_take 26 hHeld ?_
    refine nd_take 27 hHeld ?_
    refine nd_take 28 hHeld ?_
    refine nd_take 30 hHeld ?_
    refine wpAnyH_ready (rs := [29]) (by kernel_rfl) (by simp) ?_
    refine (AllReadyH.cons rfl (fun K hK => ?_) AllReadyH.nil)
    go_simp
    refine (node_Size.calls KK b2 A164 c165 P2 A166 c167 K2 A168 c169 D2 (n2 : Int) _ (Kd.R_reads' R_q1.out).2.2 (Kd.R_reads' R_q1.out).2.1 (Kd.R_reads' R_q2.out).2.2 (Kd.R_reads' R_q2.out).2.1 (Kd.R_reads' R_q3.out).2.2 (Kd.R_reads' R_q3.out).2.1 SZ2.out).mono ?_
    rintro e w196 ⟨rfl, hB⟩
    replace T_n := Aside0.mk ((hB.block _ (blk_lt T_n.out)).trans T_n.out)
    replace T_a := Aside0.mk ((hB.block _ (blk_lt T_a.out)).trans T_a.out)
    replace T_b := Aside0.mk ((hB.block _ (blk_lt T_b.out)).trans T_b.out)
    replace T_m := Aside0.mk ((hB.block _ (blk_lt T_m.out)).trans T_m.out)
    replace R_p1 := Aside0.mk (Kd.R_below R_p1.out hB)
    replace R_p2 := Aside0.mk (Kd.R_below R_p2.out hB)
    replace R_p3 := Aside0.mk (Kd.R_below R_p3.out hB)
    replace R_q1 := Aside0.mk (Kd.R_below R_q1.out hB)
    replace R_q2 := Aside0.mk (Kd.R_below R_q2.out hB)
    replace R_q3 := Aside0.mk (Kd.R_below R_q3.out hB)
    replace R_m1 := Aside0.mk (Kd.R_below R_m1.out hB)
    replace R_m2 := Aside0.mk (Kd.R_below R_m2.out hB)
    replace R_m3 := Aside0.mk (Kd.R_below R_m3.out hB)
    replace R_u1 := Aside0.mk (Kd.R_below R_u1.out hB)
    replace R_u2 := Aside0.mk (Kd.R_below R_u2.out hB)
    replace R_u3 := Aside0.mk (Kd.R_below R_u3.out hB)
    replace BB := Aside0.mk (BB.out.trans (hB.mono BB.out.size))
    replace SB := Aside0.mk (SB.out.trans (hB.mono SB.out.size))
    clear hB
    go_simp
    refine hK.out _ _ ?_ (fun hNew => ?_)
    · try dsimp only
      exact MK.out _ SB.out
    clear hK K hHeld hNew
    have hHeld := MK.out _ SB.out
    refine wpAnyH_ready (rs := [31]) (by kernel_rfl) (by simp) ?_
    refine (AllReadyH.cons rfl (fun K hK => ?_) AllReadyH.nil)
    have BBo := BB
    go_simp
    refine (cisternlaw11_of.calls a A1 c1 l1 A2 c2 l2 A3 c3 l3 a l1 l2 l3 _ (Kd.C_below HR1.out BB.out) hc1 (Kd.C_below HR2.out BB.out) hc2 (Kd.C_below HR3.out BB.out) hc3 OF.out).mono ?_
    rintro e w197 ⟨v1, v2, v3, rfl, h1, h2, h3, hB⟩
    replace T_n := Aside0.mk ((hB.block _ (blk_lt T_n.out)).trans T_n.out)
    replace T_a := Aside0.mk ((hB.block _ (blk_lt T_a.out)).trans T_a.out)
    replace T_b := Aside0.mk ((hB.block _ (blk_lt T_b.out)).trans T_b.out)
    replace T_m := Aside0.mk ((hB.block _ (blk_lt T_m.out)).trans T_m.out)
    replace R_p1 := Aside0.mk (Kd.R_below R_p1.out hB)
    replace R_p2 := Aside0.mk (Kd.R_below R_p2.out hB)
    replace R_p3 := Aside0.mk (Kd.R_below R_p3.out hB)
    replace R_q1 := Aside0.mk (Kd.R_below R_q1.out hB)
    replace R_q2 := Aside0.mk (Kd.R_below R_q2.out hB)
    replace R_q3 := Aside0.mk (Kd.R_below R_q3.out hB)
    replace R_m1 := Aside0.mk (Kd.R_below R_m1.out hB)
    replace R_m2 := Aside0.mk (Kd.R_below R_m2.out hB)
    replace R_m3 := Aside0.mk (Kd.R_below R_m3.out hB)
    replace R_u1 := Aside0.mk (Kd.R_below R_u1.out hB)
    replace R_u2 := Aside0.mk (Kd.R_below R_u2.out hB)
    replace R_u3 := Aside0.mk (Kd.R_below R_u3.out hB)
    replace BB := Aside0.mk (BB.out.trans (hB.mono BB.out.size))
    replace SB := Aside0.mk (SB.out.trans (hB.mono SB.out.size))
    clear hB
    obtain ⟨A198, c199, rfl⟩ := Kd.R_slice h1
    have R_y1 := Aside0.mk (Kd.R_lower h1 BBo.out.size)
    obtain ⟨A200, c201, rfl⟩ := Kd.R_slice h2
    have R_y2 := Aside0.mk (Kd.R_lower h2 BBo.out.size)
    obtain ⟨A202, c203, rfl⟩ := Kd.R_slice h3
    have R_y3 := Aside0.mk (Kd.R_lower h3 BBo.out.size)
    clear BBo h1 h2 h3
    go_simp
    refine hK.out _ _ ?_ (fun hNew => ?_)
    · try dsimp only
      exact MK.out _ SB.out
    clear hK K hHeld hNew
    have hHeld := MK.out _ SB.out
    refine wpAnyH_ready (rs := [32]) (by kernel_rfl) (by simp) ?_
    refine (AllReadyH.cons rfl (fun K hK => ?_) AllReadyH.nil)
    go_simp
    refine (node_Size.calls KK a A198 c199 l1 A200 c201 l2 A202 c203 l3 (n0 : Int) _ (Kd.R_reads' R_y1.out).2.2 (Kd.R_reads' R_y1.out).2.1 (Kd.R_reads' R_y2.out).2.2 (Kd.R_reads' R_y2.out).2.1 (Kd.R_reads' R_y3.out).2.2 (Kd.R_reads' R_y3.out).2.1 SZn0.out).mono ?_
    rintro e w204 ⟨rfl, hB⟩
    replace T_n := Aside0.mk ((hB.block _ (blk_lt T_n.out)).trans T_n.out)
    replace T_a := Aside0.mk ((hB.block _ (blk_lt T_a.out)).trans T_a.out)
    replace T_b := Aside0.mk ((hB.block _ (blk_lt T_b.out)).trans T_b.out)
    replace T_m := Aside0.mk ((hB.block _ (blk_lt T_m.out)).trans T_m.out)
    replace R_p1 := Aside0.mk (Kd.R_below R_p1.out hB)
    replace R_p2 := Aside0.mk (Kd.R_below R_p2.out hB)
    replace R_p3 := Aside0.mk (Kd.R_below R_p3.out hB)
    replace R_q1 := Aside0.mk (Kd.R_below R_q1.out hB)
    replace R_q2 := Aside0.mk (Kd.R_below R_q2.out hB)
    replace R_q3 := Aside0.mk (Kd.R_below R_q3.out hB)
    replace R_m1 := Aside0.mk (Kd.R_below R_m1.out hB)
    replace R_m2 := Aside0.mk (Kd.R_below R_m2.out hB)
    replace R_m3 := Aside0.mk (Kd.R_below R_m3.out hB)
    replace R_u1 := Aside0.mk (Kd.R_below R_u1.out hB)
    replace R_u2 := Aside0.mk (Kd.R_below R_u2.out hB)
    replace R_u3 := Aside0.mk (Kd.R_below R_u3.out hB)
    replace R_y1 := Aside0.mk (Kd.R_below R_y1.out hB)
    replace R_y2 := Aside0.mk (Kd.R_below R_y2.out hB)
    replace R_y3 := Aside0.mk (Kd.R_below R_y3.out hB)
    replace BB := Aside0.mk (BB.out.trans (hB.mono BB.out.size))
    replace SB := Aside0.mk (SB.out.trans (hB.mono SB.out.size))
    clear hB
    go_simp
    refine hK.out _ _ ?_ (fun hNew => ?_)
    · try dsimp only
      exact MK.out _ SB.out
    clear hK K hHeld hNew
    have hHeld := MK.out _ SB.out
    refine nd_take 33 hHeld ?_
    refine nd_take 34 hHeld ?_
    refine wpAnyH_done (by kernel_rfl) ?_ _
    clear hHeld MK
    clear SB
    clear g1 g2 g3 g4
    clear R_p3
    clear R_q3
    clear R_m1
    clear R_m2
    clear R_m3
    clear R_u1
    clear R_u2
    clear R_u3
    clear R_y1
    clear R_y2
    clear R_y3
    go_wp2_with fail
    go_loopw [9] (fun v W => ∃ i : Nat, i ≤ P1.length ∧ v = .int .i64 (i : Int) ∧ w204 = W) (fun v _ => (P1.length - intOf v).toNat)
    case atStart => exact ⟨0, by omega, rfl, by first | rfl | trivial⟩
    case round =>
      obtain ⟨i, hi, rfl, hWW⟩ := hrel
      subst hWW
      by_cases h : i < P1.length
      · have c_a0 : w204.cell? ⟨g172, 0, none⟩ = some (.bool b1) := blk_cell T_a.out 0
        have c_a1 : w204.cell? ⟨g172, 1, none⟩ = some (.slice A158 (P1).length c159) := blk_cell T_a.out 1
        have c_a2 : w204.cell? ⟨g172, 2, none⟩ = some (.slice A160 (K1).length c161) := blk_cell T_a.out 2
        have c_a3 : w204.cell? ⟨g172, 3, none⟩ = some (.slice A162 (D1).length c163) := blk_cell T_a.out 3
        obtain ⟨ad, hA, hc⟩ := at_pr (Kd.R_reads' R_p1.out).2.2 i h
        have hq := FF.out.p1 i h
        obtain ⟨x, hx⟩ : ∃ x, (P1.getD i z48).f0 = x := ⟨_, rfl⟩
        rw [hx] at hc hq
        clear hx
        subst hA
        have hw4 : IntKind.i64.wrap ((i : Int) + 1) = (i : Int) + 1 := by have := FL0.out; rw [IntKind.wrap_i64]; omega
        have d1 : decide ((i : Int) < (P1.length : Int)) = true := decide_eq_true (by omega)
        have HN := Aside0.mk h
        go_wp2_with fail
        go_roundw
        case rel => exact ⟨i + 1, HN.out, rfl, by first | rfl | trivial⟩
        case measure => simp [intOf]; omega
      · have c_a0 : w204.cell? ⟨g172, 0, none⟩ = some (.bool b1) := blk_cell T_a.out 0
        have c_a1 : w204.cell? ⟨g172, 1, none⟩ = some (.slice A158 (P1).length c159) := blk_cell T_a.out 1
        have c_a2 : w204.cell? ⟨g172, 2, none⟩ = some (.slice A160 (K1).length c161) := blk_cell T_a.out 2
        have c_a3 : w204.cell? ⟨g172, 3, none⟩ = some (.slice A162 (D1).length c163) := blk_cell T_a.out 3
        have hi2 : i = P1.length := by omega
        subst hi2
        have d1 : decide ((P1.length : Int) < (P1.length : Int)) = false := decide_eq_false (by omega)
        go_upto_region 14 with fail
        clear d1 h hi
        clear c_a0 c_a1 c_a2 c_a3
        go_wp2_with fail
        go_loopw [10] (fun v W => ∃ i : Nat, i ≤ P2.length ∧ v = .int .i64 (i : Int) ∧ w204 = W) (fun v _ => (P2.length - intOf v).toNat)
        case atStart => exact ⟨0, by omega, rfl, by first | rfl | trivial⟩
        case round =>
          obtain ⟨i, hi, rfl, hWW⟩ := hrel
          subst hWW
          by_cases h : i < P2.length
          · have c_b0 : w204.cell? ⟨(g172 + 1), 0, none⟩ = some (.bool b2) := blk_cell T_b.out 0
            have c_b1 : w204.cell? ⟨(g172 + 1), 1, none⟩ = some (.slice A164 (P2).length c165) := blk_cell T_b.out 1
            have c_b2 : w204.cell? ⟨(g172 + 1), 2, none⟩ = some (.slice A166 (K2).length c167) := blk_cell T_b.out 2
            have c_b3 : w204.cell? ⟨(g172 + 1), 3, none⟩ = some (.slice A168 (D2).length c169) := blk_cell T_b.out 3
            obtain ⟨ad, hA, hc⟩ := at_pr (Kd.R_reads' R_q1.out).2.2 i h
            have hq := FF.out.p2 i h
            obtain ⟨x, hx⟩ : ∃ x, (P2.getD i z48).f0 = x := ⟨_, rfl⟩
            rw [hx] at hc hq
            clear hx
            subst hA
            have hw4 : IntKind.i64.wrap ((i : Int) + 1) = (i : Int) + 1 := by have := FL1.out; rw [IntKind.wrap_i64]; omega
            have d1 : decide ((i : Int) < (P2.length : Int)) = true := decide_eq_true (by omega)
            have HN := Aside0.mk h
            go_wp2_with fail
            go_roundw
            case rel => exact ⟨i + 1, HN.out, rfl, by first | rfl | trivial⟩
            case measure => simp [intOf]; omega
          · have c_b0 : w204.cell? ⟨(g172 + 1), 0, none⟩ = some (.bool b2) := blk_cell T_b.out 0
            have c_b1 : w204.cell? ⟨(g172 + 1), 1, none⟩ = some (.slice A164 (P2).length c165) := blk_cell T_b.out 1
            have c_b2 : w204.cell? ⟨(g172 + 1), 2, none⟩ = some (.slice A166 (K2).length c167) := blk_cell T_b.out 2
            have c_b3 : w204.cell? ⟨(g172 + 1), 3, none⟩ = some (.slice A168 (D2).length c169) := blk_cell T_b.out 3
            have hi2 : i = P2.length := by omega
            subst hi2
            have d1 : decide ((P2.length : Int) < (P2.length : Int)) = false := decide_eq_false (by omega)
            go_upto_region 19 with fail
            clear d1 h hi
            clear c_b0 c_b1 c_b2 c_b3
            go_wp2_with fail
            go_loopw [11] (fun v W => ∃ i : Nat, i ≤ K1.length ∧ v = .int .i64 (i : Int) ∧ w204 = W) (fun v _ => (K1.length - intOf v).toNat)
            case atStart => exact ⟨0, by omega, rfl, by first | rfl | trivial⟩
            case round =>
              obtain ⟨i, hi, rfl, hWW⟩ := hrel
              subst hWW
              by_cases h : i < K1.length
              · have c_a0 : w204.cell? ⟨g172, 0, none⟩ = some (.bool b1) := blk_cell T_a.out 0
                have c_a1 : w204.cell? ⟨g172, 1, none⟩ = some (.slice A158 (P1).length c159) := blk_cell T_a.out 1
                have c_a2 : w204.cell? ⟨g172, 2, none⟩ = some (.slice A160 (K1).length c161) := blk_cell T_a.out 2
                have c_a3 : w204.cell? ⟨g172, 3, none⟩ = some (.slice A162 (D1).length c163) := blk_cell T_a.out 3
                obtain ⟨ad, hA, hc⟩ := at_st (Kd.R_reads' R_p2.out).2.2 i h
                have hq := FF.out.k1 i h
                obtain ⟨x, hx⟩ : ∃ x, K1.getD i ⟨#[]⟩ = x := ⟨_, rfl⟩
                rw [hx] at hc hq
                clear hx
                subst hA
                have hw4 : IntKind.i64.wrap ((i : Int) + 1) = (i : Int) + 1 := by have := FL2.out; rw [IntKind.wrap_i64]; omega
                have d1 : decide ((i : Int) < (K1.length : Int)) = true := decide_eq_true (by omega)
                have HN := Aside0.mk h
                go_wp2_with fail
                go_roundw
                case rel => exact ⟨i + 1, HN.out, rfl, by first | rfl | trivial⟩
                case measure => simp [intOf]; omega
              · have c_a0 : w204.cell? ⟨g172, 0, none⟩ = some (.bool b1) := blk_cell T_a.out 0
                have c_a1 : w204.cell? ⟨g172, 1, none⟩ = some (.slice A158 (P1).length c159) := blk_cell T_a.out 1
                have c_a2 : w204.cell? ⟨g172, 2, none⟩ = some (.slice A160 (K1).length c161) := blk_cell T_a.out 2
                have c_a3 : w204.cell? ⟨g172, 3, none⟩ = some (.slice A162 (D1).length c163) := blk_cell T_a.out 3
                have hi2 : i = K1.length := by omega
                subst hi2
                have d1 : decide ((K1.length : Int) < (K1.length : Int)) = false := decide_eq_false (by omega)
                go_upto_region 24 with fail
                clear d1 h hi
                clear c_a0 c_a1 c_a2 c_a3
                go_wp2_with fail
                go_loopw [12] (fun v W => ∃ i : Nat, i ≤ K2.length ∧ v = .int .i64 (i : Int) ∧ w204 = W) (fun v _ => (K2.length - intOf v).toNat)
                case atStart => exact ⟨0, by omega, rfl, by first | rfl | trivial⟩
                case round =>
                  obtain ⟨i, hi, rfl, hWW⟩ := hrel
                  subst hWW
                  by_cases h : i < K2.length
                  · have c_b0 : w204.cell? ⟨(g172 + 1), 0, none⟩ = some (.bool b2) := blk_cell T_b.out 0
                    have c_b1 : w204.cell? ⟨(g172 + 1), 1, none⟩ = some (.slice A164 (P2).length c165) := blk_cell T_b.out 1
                    have c_b2 : w204.cell? ⟨(g172 + 1), 2, none⟩ = some (.slice A166 (K2).length c167) := blk_cell T_b.out 2
                    have c_b3 : w204.cell? ⟨(g172 + 1), 3, none⟩ = some (.slice A168 (D2).length c169) := blk_cell T_b.out 3
                    obtain ⟨ad, hA, hc⟩ := at_st (Kd.R_reads' R_q2.out).2.2 i h
                    have hq := FF.out.k2 i h
                    obtain ⟨x, hx⟩ : ∃ x, K2.getD i ⟨#[]⟩ = x := ⟨_, rfl⟩
                    rw [hx] at hc hq
                    clear hx
                    subst hA
                    have hw4 : IntKind.i64.wrap ((i : Int) + 1) = (i : Int) + 1 := by have := FL3.out; rw [IntKind.wrap_i64]; omega
                    have d1 : decide ((i : Int) < (K2.length : Int)) = true := decide_eq_true (by omega)
                    have HN := Aside0.mk h
                    go_wp2_with fail
                    go_roundw
                    case rel => exact ⟨i + 1, HN.out, rfl, by first | rfl | trivial⟩
                    case measure => simp [intOf]; omega
                  · have c_b0 : w204.cell? ⟨(g172 + 1), 0, none⟩ = some (.bool b2) := blk_cell T_b.out 0
                    have c_b1 : w204.cell? ⟨(g172 + 1), 1, none⟩ = some (.slice A164 (P2).length c165) := blk_cell T_b.out 1
                    have c_b2 : w204.cell? ⟨(g172 + 1), 2, none⟩ = some (.slice A166 (K2).length c167) := blk_cell T_b.out 2
                    have c_b3 : w204.cell? ⟨(g172 + 1), 3, none⟩ = some (.slice A168 (D2).length c169) := blk_cell T_b.out 3
                    have hi2 : i = K2.length := by omega
                    subst hi2
                    have d1 : decide ((K2.length : Int) < (K2.length : Int)) = false := decide_eq_false (by omega)
                    go_upto_region 29 with fail
                    clear d1 h hi
                    clear c_b0 c_b1 c_b2 c_b3
                    go_wp2_with fail
                    go_ret
                    exact ⟨rfl, BB.out⟩
end
end Go.Proofs.Ytjjfeoigjhbbpaa.PA
