/- Texts of this claim: contracts of the functions that the statement reaches, and plain laws of what they compute. -/
import Derived.Test.YtjjfeoigjhbbpaaQE5
set_option linter.unusedVariables false
set_option linter.unusedSimpArgs false
namespace Go.Proofs.Ytjjfeoigjhbbpaa.PA
section

open Go.RowKit Go.Proofs.YtjjfeoigjhbbpaaW.PrintWords Go.Proofs.YtjjfeoigjhbbpaaW.PrintLast Go.Proofs.YtjjfeoigjhbbpaaW.PrintMore
attribute [local go_sem] pr_leq pr_geq pr_gtr max2_int min2_int max_two min_two max_three min_three max_four min_four
set_option linter.unusedVariables false
set_option linter.unusedSimpArgs false
attribute [local go_sem high] eqA48
mutual
def cisternref11_Same.j0 : Nat → Bool → Bool → List (S48) → List ByteArray → List Int → Bool → List (S48) → List ByteArray → List Int → Option (Bool)
  | 0, _, _, _, _, _, _, _, _, _ => none
  | k + 1, x39, x326000, x326001, x326002, x326003, x327000, x327001, x327002, x327003 => if x39 = true then (some false) else (cisternref11_Same.l0 k 0 x326000 x326001 x326002 x326003 x327000 x327001 x327002 x327003)
def cisternref11_Same.l0 : Nat → Int → Bool → List (S48) → List ByteArray → List Int → Bool → List (S48) → List ByteArray → List Int → Option (Bool)
  | 0, _, _, _, _, _, _, _, _, _ => none
  | k + 1, x5, x326000, x326001, x326002, x326003, x327000, x327001, x327002, x327003 => if x5 < (x326001.length : Int) then (if 0 ≤ x5 then (if x5 < (x327001.length : Int) then (if (!((((rd_T48 x326001 x5).f0).toList) == (((rd_T48 x327001 x5).f0).toList)) || (!((((rd_T48 x326001 x5).f1).toList) == (((rd_T48 x327001 x5).f1).toList)))) = true then (some false) else (cisternref11_Same.l0 k (wrap64 (x5 + 1)) x326000 x326001 x326002 x326003 x327000 x327001 x327002 x327003)) else (none)) else (none)) else (cisternref11_Same.l1 k 0 x326000 x326001 x326002 x326003 x327000 x327001 x327002 x327003)
def cisternref11_Same.l1 : Nat → Int → Bool → List (S48) → List ByteArray → List Int → Bool → List (S48) → List ByteArray → List Int → Option (Bool)
  | 0, _, _, _, _, _, _, _, _, _ => none
  | k + 1, x6, x326000, x326001, x326002, x326003, x327000, x327001, x327002, x327003 => if x6 < (x326002.length : Int) then (if 0 ≤ x6 then (if x6 < (x327002.length : Int) then (if (rdOf ByteArray.empty x326002 x6).toList = (rdOf ByteArray.empty x327002 x6).toList then (cisternref11_Same.l1 k (wrap64 (x6 + 1)) x326000 x326001 x326002 x326003 x327000 x327001 x327002 x327003) else (some false)) else (none)) else (none)) else (cisternref11_Same.l2 k 0 x326000 x326001 x326002 x326003 x327000 x327001 x327002 x327003)
def cisternref11_Same.l2 : Nat → Int → Bool → List (S48) → List ByteArray → List Int → Bool → List (S48) → List ByteArray → List Int → Option (Bool)
  | 0, _, _, _, _, _, _, _, _, _ => none
  | k + 1, x7, x326000, x326001, x326002, x326003, x327000, x327001, x327002, x327003 => if x7 < (x326003.length : Int) then (if 0 ≤ x7 then (if x7 < (x327003.length : Int) then (if (rd x326003 x7) = (rd x327003 x7) then (cisternref11_Same.l2 k (wrap64 (x7 + 1)) x326000 x326001 x326002 x326003 x327000 x327001 x327002 x327003) else (some false)) else (none)) else (none)) else (some true)
end
def cisternref11_Same.f (k : Nat) (a0_0 : Bool) (l0_1 : List (S48)) (l0_2 : List ByteArray) (l0_3 : List Int) (a1_0 : Bool) (l1_1 : List (S48)) (l1_2 : List ByteArray) (l1_3 : List Int) : Option (Bool) := if (a0_0 != a1_0) = true then (cisternref11_Same.j0 k true a0_0 l0_1 l0_2 l0_3 a1_0 l1_1 l1_2 l1_3) else (if (l0_1.length : Int) = (l1_1.length : Int) then (if (l0_2.length : Int) = (l1_2.length : Int) then (cisternref11_Same.j0 k ((l0_3.length : Int) != (l1_3.length : Int)) a0_0 l0_1 l0_2 l0_3 a1_0 l1_1 l1_2 l1_3) else (cisternref11_Same.j0 k true a0_0 l0_1 l0_2 l0_3 a1_0 l1_1 l1_2 l1_3)) else (cisternref11_Same.j0 k true a0_0 l0_1 l0_2 l0_3 a1_0 l1_1 l1_2 l1_3))
set_option maxHeartbeats 8000000 in
set_option maxRecDepth 100000 in
theorem cisternref11_Same.calls (k : Nat) (a0_0 : Bool) (A0_1 : Option Addr) (c0_1 : Nat) (l0_1 : List (S48)) (A0_2 : Option Addr) (c0_2 : Nat) (l0_2 : List ByteArray) (A0_3 : Option Addr) (c0_3 : Nat) (l0_3 : List Int) (a1_0 : Bool) (A1_1 : Option Addr) (c1_1 : Nat) (l1_1 : List (S48)) (A1_2 : Option Addr) (c1_2 : Nat) (l1_2 : List ByteArray) (A1_3 : Option Addr) (c1_3 : Nat) (l1_3 : List Int) (r : Bool) (w : World) (hr0_1 : Kd.C k48 w A0_1 l0_1.length l0_1) (hc0_1 : l0_1.length ≤ c0_1) (hr0_2 : Kd.C Kd.string w A0_2 l0_2.length l0_2) (hc0_2 : l0_2.length ≤ c0_2) (hr0_3 : Kd.C (Kd.int .i64) w A0_3 l0_3.length l0_3) (hc0_3 : l0_3.length ≤ c0_3) (hr1_1 : Kd.C k48 w A1_1 l1_1.length l1_1) (hc1_1 : l1_1.length ≤ c1_1) (hr1_2 : Kd.C Kd.string w A1_2 l1_2.length l1_2) (hc1_2 : l1_2.length ≤ c1_2) (hr1_3 : Kd.C (Kd.int .i64) w A1_3 l1_3.length l1_3) (hc1_3 : l1_3.length ≤ c1_3) (h : cisternref11_Same.f k a0_0 l0_1 l0_2 l0_3 a1_0 l1_1 l1_2 l1_3 = some r) :
    Calls Try.prog 19 #[.agg #[.bool a0_0, .slice A0_1 l0_1.length c0_1, .slice A0_2 l0_2.length c0_2, .slice A0_3 l0_3.length c0_3], .agg #[.bool a1_0, .slice A1_1 l1_1.length c1_1, .slice A1_2 l1_2.length c1_2, .slice A1_3 l1_3.length c1_3]] w fun e w' => e = .returned (.bool r) ∧ Below w.heap.size w w' := by
  have hu26 := Try.underlying26
  have hu48 := Try.underlying48
  have HR0_1 := Aside0.mk hr0_1
  have HC0_1 := Aside0.mk hc0_1
  clear hr0_1 hc0_1
  have HR0_2 := Aside0.mk hr0_2
  have HC0_2 := Aside0.mk hc0_2
  clear hr0_2 hc0_2
  have HR0_3 := Aside0.mk hr0_3
  have HC0_3 := Aside0.mk hc0_3
  clear hr0_3 hc0_3
  have HR1_1 := Aside0.mk hr1_1
  have HC1_1 := Aside0.mk hc1_1
  clear hr1_1 hc1_1
  have HR1_2 := Aside0.mk hr1_2
  have HC1_2 := Aside0.mk hc1_2
  clear hr1_2 hc1_2
  have HR1_3 := Aside0.mk hr1_3
  have HC1_3 := Aside0.mk hc1_3
  clear hr1_3 hc1_3
  have HB := Aside0.mk (Below.refl w.heap.size w)
  have H : (if (a0_0 != a1_0) = true then (cisternref11_Same.j0 k true a0_0 l0_1 l0_2 l0_3 a1_0 l1_1 l1_2 l1_3) else (if (l0_1.length : Int) = (l1_1.length : Int) then (if (l0_2.length : Int) = (l1_2.length : Int) then (cisternref11_Same.j0 k ((l0_3.length : Int) != (l1_3.length : Int)) a0_0 l0_1 l0_2 l0_3 a1_0 l1_1 l1_2 l1_3) else (cisternref11_Same.j0 k true a0_0 l0_1 l0_2 l0_3 a1_0 l1_1 l1_2 l1_3)) else (cisternref11_Same.j0 k true a0_0 l0_1 l0_2 l0_3 a1_0 l1_1 l1_2 l1_3))) = some r := h
  clear h
  have HC3 := Aside0.mk H
  clear H
  go_enter Try.func19, Try.ntmps19
  go_upto_region 1 with (first | ((with_reducible refine gate_dst (N := 2) rfl ?_); (try (refine gate_guard (by rfl) ?_; dsimp only)); refine box_event ?hg (N := 2) ?hd (cs := #[.bool a0_0, .slice A0_1 l0_1.length c0_1, .slice A0_2 l0_2.length c0_2, .slice A0_3 l0_3.length c0_3]) (t := 26) ?hr ?_; (case hd => rfl); (case hg => rfl); (case hr => first | (go_simp; done) | (go_simp; rfl)); intro gb325 hg w4 hbox hb; have n0_ := Aside0.mk (below_step (by repeat (first | (with_reducible first | exact HB.out | apply below_alloc | apply pw_below_drewN | apply below_drew1) | exact HB.out)) hb); have n1_ := Aside0.mk (hbox); have n2_ := Aside0.mk ((by rw [hg]; exact (below_size (by repeat (first | (with_reducible first | exact HB.out | apply below_alloc | apply pw_below_drewN | apply below_drew1) | exact HB.out))) : w.heap.size ≤ gb325)); have n3_ := Aside0.mk ((by rw [hg]; exact (below_size (by repeat (first | (with_reducible first | exact HB.out | apply below_alloc | apply pw_below_drewN | apply below_drew1) | exact HB.out))) : w.heap.size ≤ gb325)); clear HB; have HB := n0_; have BK325 := n1_; have GW325 := n2_; have GE325 := n3_; clear n0_ n1_ n2_ n3_; clear hb hbox hg) | ((with_reducible refine gate_dst (N := 3) rfl ?_); (try (refine gate_guard (by rfl) ?_; dsimp only)); refine box_event ?hg (N := 3) ?hd (cs := #[.bool a1_0, .slice A1_1 l1_1.length c1_1, .slice A1_2 l1_2.length c1_2, .slice A1_3 l1_3.length c1_3]) (t := 26) ?hr ?_; (case hd => rfl); (case hg => rfl); (case hr => first | (go_simp; done) | (go_simp; rfl)); intro gb326 hg w5 hbox hb; have n0_ := Aside0.mk (blk_below (g := gb325) (o := .cells #[.bool a0_0, .slice A0_1 l0_1.length c0_1, .slice A0_2 l0_2.length c0_2, .slice A0_3 l0_3.length c0_3] 26 (0, 0)) (by (with_reducible repeat (first | refine blk_drewN ?_ _ | refine blk_drew ?_ | refine blk_alloc ?_ _)); exact BK325.out) hb); have n1_ := Aside0.mk (below_step (by repeat (first | (with_reducible first | exact HB.out | apply below_alloc | apply pw_below_drewN | apply below_drew1 | refine below_set ?_ GE325.out) | exact HB.out)) hb); have n2_ := Aside0.mk (hbox); have n3_ := Aside0.mk ((by rw [hg]; exact (below_size (by repeat (first | (with_reducible first | exact HB.out | apply below_alloc | apply pw_below_drewN | apply below_drew1 | refine below_set ?_ GE325.out) | exact HB.out))) : w.heap.size ≤ gb326)); have n4_ := Aside0.mk ((by rw [hg]; exact (below_size (by repeat (first | (with_reducible first | exact HB.out | apply below_alloc | apply pw_below_drewN | apply below_drew1 | refine below_set ?_ GE325.out) | exact HB.out))) : w.heap.size ≤ gb326)); have n5_ := Aside0.mk ((by rw [hg]; exact Nat.ne_of_lt (blk_lt (g := gb325) (o := .cells #[.bool a0_0, .slice A0_1 l0_1.length c0_1, .slice A0_2 l0_2.length c0_2, .slice A0_3 l0_3.length c0_3] 26 (0, 0)) (by (with_reducible repeat (first | refine blk_drewN ?_ _ | refine blk_drew ?_ | refine blk_alloc ?_ _)); exact BK325.out)) : gb325 ≠ gb326)); have n6_ := Aside0.mk ((by rw [hg]; exact Nat.ne_of_gt (blk_lt (g := gb325) (o := .cells #[.bool a0_0, .slice A0_1 l0_1.length c0_1, .slice A0_2 l0_2.length c0_2, .slice A0_3 l0_3.length c0_3] 26 (0, 0)) (by (with_reducible repeat (first | refine blk_drewN ?_ _ | refine blk_drew ?_ | refine blk_alloc ?_ _)); exact BK325.out)) : gb326 ≠ gb325)); clear BK325; clear HB; have BK325 := n0_; have HB := n1_; have BK326 := n2_; have GW326 := n3_; have GE326 := n4_; have NB325_326 := n5_; have NB326_325 := n6_; clear n0_ n1_ n2_ n3_ n4_ n5_ n6_; clear hb hbox hg))
  repeat (go_quiet (first | ((with_reducible refine gate_dst (N := 2) rfl ?_); (try (refine gate_guard (by rfl) ?_; dsimp only)); refine box_event ?hg (N := 2) ?hd (cs := #[.bool a0_0, .slice A0_1 l0_1.length c0_1, .slice A0_2 l0_2.length c0_2, .slice A0_3 l0_3.length c0_3]) (t := 26) ?hr ?_; (case hd => rfl); (case hg => rfl); (case hr => first | (go_simp; done) | (go_simp; rfl)); intro gb325 hg w4 hbox hb; have n0_ := Aside0.mk (below_step (by repeat (first | (with_reducible first | exact HB.out | apply below_alloc | apply pw_below_drewN | apply below_drew1) | exact HB.out)) hb); have n1_ := Aside0.mk (hbox); have n2_ := Aside0.mk ((by rw [hg]; exact (below_size (by repeat (first | (with_reducible first | exact HB.out | apply below_alloc | apply pw_below_drewN | apply below_drew1) | exact HB.out))) : w.heap.size ≤ gb325)); have n3_ := Aside0.mk ((by rw [hg]; exact (below_size (by repeat (first | (with_reducible first | exact HB.out | apply below_alloc | apply pw_below_drewN | apply below_drew1) | exact HB.out))) : w.heap.size ≤ gb325)); clear HB; have HB := n0_; have BK325 := n1_; have GW325 := n2_; have GE325 := n3_; clear n0_ n1_ n2_ n3_; clear hb hbox hg) | ((with_reducible refine gate_dst (N := 3) rfl ?_); (try (refine gate_guard (by rfl) ?_; dsimp only)); refine box_event ?hg (N := 3) ?hd (cs := #[.bool a1_0, .slice A1_1 l1_1.length c1_1, .slice A1_2 l1_2.length c1_2, .slice A1_3 l1_3.length c1_3]) (t := 26) ?hr ?_; (case hd => rfl); (case hg => rfl); (case hr => first | (go_simp; done) | (go_simp; rfl)); intro gb326 hg w5 hbox hb; have n0_ := Aside0.mk (blk_below (g := gb325) (o := .cells #[.bool a0_0, .slice A0_1 l0_1.length c0_1, .slice A0_2 l0_2.length c0_2, .slice A0_3 l0_3.length c0_3] 26 (0, 0)) (by (with_reducible repeat (first | refine blk_drewN ?_ _ | refine blk_drew ?_ | refine blk_alloc ?_ _)); exact BK325.out) hb); have n1_ := Aside0.mk (below_step (by repeat (first | (with_reducible first | exact HB.out | apply below_alloc | apply pw_below_drewN | apply below_drew1 | refine below_set ?_ GE325.out) | exact HB.out)) hb); have n2_ := Aside0.mk (hbox); have n3_ := Aside0.mk ((by rw [hg]; exact (below_size (by repeat (first | (with_reducible first | exact HB.out | apply below_alloc | apply pw_below_drewN | apply below_drew1 | refine below_set ?_ GE325.out) | exact HB.out))) : w.heap.size ≤ gb326)); have n4_ := Aside0.mk ((by rw [hg]; exact (below_size (by repeat (first | (with_reducible first | exact HB.out | apply below_alloc | apply pw_below_drewN | apply below_drew1 | refine below_set ?_ GE325.out) | exact HB.out))) : w.heap.size ≤ gb326)); have n5_ := Aside0.mk ((by rw [hg]; exact Nat.ne_of_lt (blk_lt (g := gb325) (o := .cells #[.bool a0_0, .slice A0_1 l0_1.length c0_1, .slice A0_2 l0_2.length c0_2, .slice A0_3 l0_3.length c0_3] 26 (0, 0)) (by (with_reducible repeat (first | refine blk_drewN ?_ _ | refine blk_drew ?_ | refine blk_alloc ?_ _)); exact BK325.out)) : gb325 ≠ gb326)); have n6_ := Aside0.mk ((by rw [hg]; exact Nat.ne_of_gt (blk_lt (g := gb325) (o := .cells #[.bool a0_0, .slice A0_1 l0_1.length c0_1, .slice A0_2 l0_2.length c0_2, .slice A0_3 l0_3.length c0_3] 26 (0, 0)) (by (with_reducible repeat (first | refine blk_drewN ?_ _ | refine blk_drew ?_ | refine blk_alloc ?_ _)); exact BK325.out)) : gb326 ≠ gb325)); clear BK325; clear HB; have BK325 := n0_; have HB := n1_; have BK326 := n2_; have GW326 := n3_; have GE326 := n4_; have NB325_326 := n5_; have NB326_325 := n6_; clear n0_ n1_ n2_ n3_ n4_ n5_ n6_; clear hb hbox hg)); go_upto_region 1 with (first | ((with_reducible refine gate_dst (N := 2) rfl ?_); (try (refine gate_guard (by rfl) ?_; dsimp only)); refine box_event ?hg (N := 2) ?hd (cs := #[.bool a0_0, .slice A0_1 l0_1.length c0_1, .slice A0_2 l0_2.length c0_2, .slice A0_3 l0_3.length c0_3]) (t := 26) ?hr ?_; (case hd => rfl); (case hg => rfl); (case hr => first | (go_simp; done) | (go_simp; rfl)); intro gb325 hg w4 hbox hb; have n0_ := Aside0.mk (below_step (by repeat (first | (with_reducible first | exact HB.out | apply below_alloc | apply pw_below_drewN | apply below_drew1) | exact HB.out)) hb); have n1_ := Aside0.mk (hbox); have n2_ := Aside0.mk ((by rw [hg]; exact (below_size (by repeat (first | (with_reducible first | exact HB.out | apply below_alloc | apply pw_below_drewN | apply below_drew1) | exact HB.out))) : w.heap.size ≤ gb325)); have n3_ := Aside0.mk ((by rw [hg]; exact (below_size (by repeat (first | (with_reducible first | exact HB.out | apply below_alloc | apply pw_below_drewN | apply below_drew1) | exact HB.out))) : w.heap.size ≤ gb325)); clear HB; have HB := n0_; have BK325 := n1_; have GW325 := n2_; have GE325 := n3_; clear n0_ n1_ n2_ n3_; clear hb hbox hg) | ((with_reducible refine gate_dst (N := 3) rfl ?_); (try (refine gate_guard (by rfl) ?_; dsimp only)); refine box_event ?hg (N := 3) ?hd (cs := #[.bool a1_0, .slice A1_1 l1_1.length c1_1, .slice A1_2 l1_2.length c1_2, .slice A1_3 l1_3.length c1_3]) (t := 26) ?hr ?_; (case hd => rfl); (case hg => rfl); (case hr => first | (go_simp; done) | (go_simp; rfl)); intro gb326 hg w5 hbox hb; have n0_ := Aside0.mk (blk_below (g := gb325) (o := .cells #[.bool a0_0, .slice A0_1 l0_1.length c0_1, .slice A0_2 l0_2.length c0_2, .slice A0_3 l0_3.length c0_3] 26 (0, 0)) (by (with_reducible repeat (first | refine blk_drewN ?_ _ | refine blk_drew ?_ | refine blk_alloc ?_ _)); exact BK325.out) hb); have n1_ := Aside0.mk (below_step (by repeat (first | (with_reducible first | exact HB.out | apply below_alloc | apply pw_below_drewN | apply below_drew1 | refine below_set ?_ GE325.out) | exact HB.out)) hb); have n2_ := Aside0.mk (hbox); have n3_ := Aside0.mk ((by rw [hg]; exact (below_size (by repeat (first | (with_reducible first | exact HB.out | apply below_alloc | apply pw_below_drewN | apply below_drew1 | refine below_set ?_ GE325.out) | exact HB.out))) : w.heap.size ≤ gb326)); have n4_ := Aside0.mk ((by rw [hg]; exact (below_size (by repeat (first | (with_reducible first | exact HB.out | apply below_alloc | apply pw_below_drewN | apply below_drew1 | refine below_set ?_ GE325.out) | exact HB.out))) : w.heap.size ≤ gb326)); have n5_ := Aside0.mk ((by rw [hg]; exact Nat.ne_of_lt (blk_lt (g := gb325) (o := .cells #[.bool a0_0, .slice A0_1 l0_1.length c0_1, .slice A0_2 l0_2.length c0_2, .slice A0_3 l0_3.length c0_3] 26 (0, 0)) (by (with_reducible repeat (first | refine blk_drewN ?_ _ | refine blk_drew ?_ | refine blk_alloc ?_ _)); exact BK325.out)) : gb325 ≠ gb326)); have n6_ := Aside0.mk ((by rw [hg]; exact Nat.ne_of_gt (blk_lt (g := gb325) (o := .cells #[.bool a0_0, .slice A0_1 l0_1.length c0_1, .slice A0_2 l0_2.length c0_2, .slice A0_3 l0_3.length c0_3] 26 (0, 0)) (by (with_reducible repeat (first | refine blk_drewN ?_ _ | refine blk_drew ?_ | refine blk_alloc ?_ _)); exact BK325.out)) : gb326 ≠ gb325)); clear BK325; clear HB; have BK325 := n0_; have HB := n1_; have BK326 := n2_; have GW326 := n3_; have GE326 := n4_; have NB325_326 := n5_; have NB326_325 := n6_; clear n0_ n1_ n2_ n3_ n4_ n5_ n6_; clear hb hbox hg)))
  (try simp only [Act.put, List.setIfInBounds_toArray, List.set_cons_zero, List.set_cons_succ])
  go_cut [39] (fun v39 wc => ∃ (kq : Nat) (x39_2 : Bool), v39 = .bool x39_2 ∧ Aside0 (cisternref11_Same.j0 kq x39_2 a0_0 l0_1 l0_2 l0_3 a1_0 l1_1 l1_2 l1_3 = some r) ∧ Aside0 (kq ≤ k) ∧ Aside0 (wc.heap[gb325]? = some (.cells #[.bool a0_0, (.slice A0_1 l0_1.length c0_1), (.slice A0_2 l0_2.length c0_2), (.slice A0_3 l0_3.length c0_3)] 26 (0, 0))) ∧ Aside0 (wc.heap[gb326]? = some (.cells #[.bool a1_0, (.slice A1_1 l1_1.length c1_1), (.slice A1_2 l1_2.length c1_2), (.slice A1_3 l1_3.length c1_3)] 26 (0, 0))) ∧ Aside0 (Below w.heap.size w wc))
  case first =>
    have H := HC3.out
    clear HC3
    by_cases c6 : (a0_0 != a1_0) = true
    · rw [if_pos c6] at H
      have c6b0 : (a0_0 != a1_0) = true := c6
      (try (have c6b1 : decide (a0_0 = a1_0) = false := by simpa using c6))
      (try (have c6b2 : (a0_0 == a1_0) = false := by simpa using c6))
      (try (have c6b3 : ¬ (a0_0 = a1_0) := by simpa using c6))
      clear c6
      (first | rw [c6b0] | (simp only [i64_w, i32_w]; rw [c6b0]) | skip)
      have H' := Aside0.mk H
      clear H
      have hnb7 := NB325_326.out
      have hnc7 := NB326_325.out
      have hcz8_0 : w5.cell? ⟨gb325, 0, none⟩ = some (.bool a0_0) := (blk_cell BK325.out 0).trans rfl
      have hcz8_1 : w5.cell? ⟨gb325, 1, none⟩ = some (.slice A0_1 l0_1.length c0_1) := (blk_cell BK325.out 1).trans rfl
      have hcz8_2 : w5.cell? ⟨gb325, 2, none⟩ = some (.slice A0_2 l0_2.length c0_2) := (blk_cell BK325.out 2).trans rfl
      have hcz8_3 : w5.cell? ⟨gb325, 3, none⟩ = some (.slice A0_3 l0_3.length c0_3) := (blk_cell BK325.out 3).trans rfl
      have hfz8_0 := blk_frozen BK325.out 0
      have hfz8_1 := blk_frozen BK325.out 1
      have hfz8_2 := blk_frozen BK325.out 2
      have hfz8_3 := blk_frozen BK325.out 3
      have hcz9_0 : w5.cell? ⟨gb326, 0, none⟩ = some (.bool a1_0) := (blk_cell BK326.out 0).trans rfl
      have hcz9_1 : w5.cell? ⟨gb326, 1, none⟩ = some (.slice A1_1 l1_1.length c1_1) := (blk_cell BK326.out 1).trans rfl
      have hcz9_2 : w5.cell? ⟨gb326, 2, none⟩ = some (.slice A1_2 l1_2.length c1_2) := (blk_cell BK326.out 2).trans rfl
      have hcz9_3 : w5.cell? ⟨gb326, 3, none⟩ = some (.slice A1_3 l1_3.length c1_3) := (blk_cell BK326.out 3).trans rfl
      have hfz9_0 := blk_frozen BK326.out 0
      have hfz9_1 := blk_frozen BK326.out 1
      have hfz9_2 := blk_frozen BK326.out 2
      have hfz9_3 := blk_frozen BK326.out 3
      go_wp2
      repeat (go_quiet (fail); try go_wp2)
      go_meet
      case rel => exact ⟨_, (true), (by first | rfl | (simp; done) | (simp [*]; done)), H', ⟨by first | omega | exact Nat.le_refl _⟩, ⟨by (with_reducible repeat (first | refine blk_drewN ?_ _ | refine blk_drew ?_ | refine blk_alloc ?_ _)); exact BK325.out⟩, ⟨by (with_reducible repeat (first | refine blk_drewN ?_ _ | refine blk_drew ?_ | refine blk_alloc ?_ _)); exact BK326.out⟩, ⟨by repeat (first | (with_reducible first | exact HB.out | apply below_alloc | apply pw_below_drewN | apply below_drew1 | refine below_set ?_ GE325.out | refine below_set ?_ GE326.out) | exact HB.out)⟩⟩
    · rw [if_neg c6] at H
      have c6b0 : (a0_0 != a1_0) = false := by simpa using c6
      (try (have c6b1 : decide (a0_0 = a1_0) = true := by simpa using c6))
      (try (have c6b2 : (a0_0 == a1_0) = true := by simpa using c6))
      clear c6
      (first | rw [c6b0] | (simp only [i64_w, i32_w]; rw [c6b0]) | skip)
      by_cases c10 : (l0_1.length : Int) = (l1_1.length : Int)
      · rw [if_pos c10] at H
        have c10b0 : ((l0_1.length : Int) == (l1_1.length : Int)) = true := beq_iff_eq.mpr c10
        have c10b1 : ((l0_1.length : Int) != (l1_1.length : Int)) = false := bne_eq_false_iff_eq.mpr c10
        have c10b2 : (l0_1.length == l1_1.length) = true := by first | simpa using c10 | (simp at c10 ⊢; omega)
        clear c10
        by_cases c11 : (l0_2.length : Int) = (l1_2.length : Int)
        · rw [if_pos c11] at H
          have c11b0 : ((l0_2.length : Int) == (l1_2.length : Int)) = true := beq_iff_eq.mpr c11
          have c11b1 : ((l0_2.length : Int) != (l1_2.length : Int)) = false := bne_eq_false_iff_eq.mpr c11
          have c11b2 : (l0_2.length == l1_2.length) = true := by first | simpa using c11 | (simp at c11 ⊢; omega)
          clear c11
          have H' := Aside0.mk H
          clear H
          have hnb12 := NB325_326.out
          have hnc12 := NB326_325.out
          have hcz13_0 : w5.cell? ⟨gb325, 0, none⟩ = some (.bool a0_0) := (blk_cell BK325.out 0).trans rfl
          have hcz13_1 : w5.cell? ⟨gb325, 1, none⟩ = some (.slice A0_1 l0_1.length c0_1) := (blk_cell BK325.out 1).trans rfl
          have hcz13_2 : w5.cell? ⟨gb325, 2, none⟩ = some (.slice A0_2 l0_2.length c0_2) := (blk_cell BK325.out 2).trans rfl
          have hcz13_3 : w5.cell? ⟨gb325, 3, none⟩ = some (.slice A0_3 l0_3.length c0_3) := (blk_cell BK325.out 3).trans rfl
          have hfz13_0 := blk_frozen BK325.out 0
          have hfz13_1 := blk_frozen BK325.out 1
          have hfz13_2 := blk_frozen BK325.out 2
          have hfz13_3 := blk_frozen BK325.out 3
          have hcz14_0 : w5.cell? ⟨gb326, 0, none⟩ = some (.bool a1_0) := (blk_cell BK326.out 0).trans rfl
          have hcz14_1 : w5.cell? ⟨gb326, 1, none⟩ = some (.slice A1_1 l1_1.length c1_1) := (blk_cell BK326.out 1).trans rfl
          have hcz14_2 : w5.cell? ⟨gb326, 2, none⟩ = some (.slice A1_2 l1_2.length c1_2) := (blk_cell BK326.out 2).trans rfl
          have hcz14_3 : w5.cell? ⟨gb326, 3, none⟩ = some (.slice A1_3 l1_3.length c1_3) := (blk_cell BK326.out 3).trans rfl
          have hfz14_0 := blk_frozen BK326.out 0
          have hfz14_1 := blk_frozen BK326.out 1
          have hfz14_2 := blk_frozen BK326.out 2
          have hfz14_3 := blk_frozen BK326.out 3
          go_wp2
          repeat (go_quiet (fail); try go_wp2)
          go_meet
          case rel => exact ⟨_, (((l0_3.length : Int) != (l1_3.length : Int))), (by first | rfl | (simp; done) | (simp [*]; done)), H', ⟨by first | omega | exact Nat.le_refl _⟩, ⟨by (with_reducible repeat (first | refine blk_drewN ?_ _ | refine blk_drew ?_ | refine blk_alloc ?_ _)); exact BK325.out⟩, ⟨by (with_reducible repeat (first | refine blk_drewN ?_ _ | refine blk_drew ?_ | refine blk_alloc ?_ _)); exact BK326.out⟩, ⟨by repeat (first | (with_reducible first | exact HB.out | apply below_alloc | apply pw_below_drewN | apply below_drew1 | refine below_set ?_ GE325.out | refine below_set ?_ GE326.out) | exact HB.out)⟩⟩
        · rw [if_neg c11] at H
          have c11b0 : ((l0_2.length : Int) == (l1_2.length : Int)) = false := beq_eq_false_iff_ne.mpr c11
          have c11b1 : ((l0_2.length : Int) != (l1_2.length : Int)) = true := bne_iff_ne.mpr c11
          have c11b2 : (l0_2.length == l1_2.length) = false := by first | simpa using c11 | (simp at c11 ⊢; omega)
          have H' := Aside0.mk H
          clear H
          have hnb15 := NB325_326.out
          have hnc15 := NB326_325.out
          have hcz16_0 : w5.cell? ⟨gb325, 0, none⟩ = some (.bool a0_0) := (blk_cell BK325.out 0).trans rfl
          have hcz16_1 : w5.cell? ⟨gb325, 1, none⟩ = some (.slice A0_1 l0_1.length c0_1) := (blk_cell BK325.out 1).trans rfl
          have hcz16_2 : w5.cell? ⟨gb325, 2, none⟩ = some (.slice A0_2 l0_2.length c0_2) := (blk_cell BK325.out 2).trans rfl
          have hcz16_3 : w5.cell? ⟨gb325, 3, none⟩ = some (.slice A0_3 l0_3.length c0_3) := (blk_cell BK325.out 3).trans rfl
          have hfz16_0 := blk_frozen BK325.out 0
          have hfz16_1 := blk_frozen BK325.out 1
          have hfz16_2 := blk_frozen BK325.out 2
          have hfz16_3 := blk_frozen BK325.out 3
          have hcz17_0 : w5.cell? ⟨gb326, 0, none⟩ = some (.bool a1_0) := (blk_cell BK326.out 0).trans rfl
          have hcz17_1 : w5.cell? ⟨gb326, 1, none⟩ = some (.slice A1_1 l1_1.length c1_1) := (blk_cell BK326.out 1).trans rfl
          have hcz17_2 : w5.cell? ⟨gb326, 2, none⟩ = some (.slice A1_2 l1_2.length c1_2) := (blk_cell BK326.out 2).trans rfl
          have hcz17_3 : w5.cell? ⟨gb326, 3, none⟩ = some (.slice A1_3 l1_3.length c1_3) := (blk_cell BK326.out 3).trans rfl
          have hfz17_0 := blk_frozen BK326.out 0
          have hfz17_1 := blk_frozen BK326.out 1
          have hfz17_2 := blk_frozen BK326.out 2
          have hfz17_3 := blk_frozen BK326.out 3
          go_wp2
          repeat (go_quiet (fail); try go_wp2)
          go_meet
          case rel => exact ⟨_, (true), (by first | rfl | (simp; done) | (simp [*]; done)), H', ⟨by first | omega | exact Nat.le_refl _⟩, ⟨by (with_reducible repeat (first | refine blk_drewN ?_ _ | refine blk_drew ?_ | refine blk_alloc ?_ _)); exact BK325.out⟩, ⟨by (with_reducible repeat (first | refine blk_drewN ?_ _ | refine blk_drew ?_ | refine blk_alloc ?_ _)); exact BK326.out⟩, ⟨by repeat (first | (with_reducible first | exact HB.out | apply below_alloc | apply pw_below_drewN | apply below_drew1 | refine below_set ?_ GE325.out | refine below_set ?_ GE326.out) | exact HB.out)⟩⟩
      · rw [if_neg c10] at H
        have c10b0 : ((l0_1.length : Int) == (l1_1.length : Int)) = false := beq_eq_false_iff_ne.mpr c10
        have c10b1 : ((l0_1.length : Int) != (l1_1.length : Int)) = true := bne_iff_ne.mpr c10
        have c10b2 : (l0_1.length == l1_1.length) = false := by first | simpa using c10 | (simp at c10 ⊢; omega)
        have H' := Aside0.mk H
        clear H
        have hnb18 := NB325_326.out
        have hnc18 := NB326_325.out
        have hcz19_0 : w5.cell? ⟨gb325, 0, none⟩ = some (.bool a0_0) := (blk_cell BK325.out 0).trans rfl
        have hcz19_1 : w5.cell? ⟨gb325, 1, none⟩ = some (.slice A0_1 l0_1.length c0_1) := (blk_cell BK325.out 1).trans rfl
        have hcz19_2 : w5.cell? ⟨gb325, 2, none⟩ = some (.slice A0_2 l0_2.length c0_2) := (blk_cell BK325.out 2).trans rfl
        have hcz19_3 : w5.cell? ⟨gb325, 3, none⟩ = some (.slice A0_3 l0_3.length c0_3) := (blk_cell BK325.out 3).trans rfl
        have hfz19_0 := blk_frozen BK325.out 0
        have hfz19_1 := blk_frozen BK325.out 1
        have hfz19_2 := blk_frozen BK325.out 2
        have hfz19_3 := blk_frozen BK325.out 3
        have hcz20_0 : w5.cell? ⟨gb326, 0, none⟩ = some (.bool a1_0) := (blk_cell BK326.out 0).trans rfl
        have hcz20_1 : w5.cell? ⟨gb326, 1, none⟩ = some (.slice A1_1 l1_1.length c1_1) := (blk_cell BK326.out 1).trans rfl
        have hcz20_2 : w5.cell? ⟨gb326, 2, none⟩ = some (.slice A1_2 l1_2.length c1_2) := (blk_cell BK326.out 2).trans rfl
        have hcz20_3 : w5.cell? ⟨gb326, 3, none⟩ = some (.slice A1_3 l1_3.length c1_3) := (blk_cell BK326.out 3).trans rfl
        have hfz20_0 := blk_frozen BK326.out 0
        have hfz20_1 := blk_frozen BK326.out 1
        have hfz20_2 := blk_frozen BK326.out 2
        have hfz20_3 := blk_frozen BK326.out 3
        go_wp2
        repeat (go_quiet (fail); try go_wp2)
        go_meet
        case rel => exact ⟨_, (true), (by first | rfl | (simp; done) | (simp [*]; done)), H', ⟨by first | omega | exact Nat.le_refl _⟩, ⟨by (with_reducible repeat (first | refine blk_drewN ?_ _ | refine blk_drew ?_ | refine blk_alloc ?_ _)); exact BK325.out⟩, ⟨by (with_reducible repeat (first | refine blk_drewN ?_ _ | refine blk_drew ?_ | refine blk_alloc ?_ _)); exact BK326.out⟩, ⟨by repeat (first | (with_reducible first | exact HB.out | apply below_alloc | apply pw_below_drewN | apply below_drew1 | refine below_set ?_ GE325.out | refine below_set ?_ GE326.out) | exact HB.out)⟩⟩
  case rest =>
    clear HC3
    try clear c1
    try clear p2
    try clear c6
    try clear c6b0
    try clear c6b1
    try clear c6b2
    try clear c7
    try clear c10
    try clear c10b0
    try clear c10b1
    try clear c10b2
    try clear c11
    try clear c11b0
    try clear c11b1
    try clear c11b2
    try clear c12
    try clear c15
    try clear c18
    try clear c19
    try clear hcz13_0
    try clear hcz13_1
    try clear hcz13_2
    try clear hcz13_3
    try clear hcz14_0
    try clear hcz14_1
    try clear hcz14_2
    try clear hcz14_3
    try clear hcz16_0
    try clear hcz16_1
    try clear hcz16_2
    try clear hcz16_3
    try clear hcz17_0
    try clear hcz17_1
    try clear hcz17_2
    try clear hcz17_3
    try clear hcz19_0
    try clear hcz19_1
    try clear hcz19_2
    try clear hcz19_3
    try clear hcz20_0
    try clear hcz20_1
    try clear hcz20_2
    try clear hcz20_3
    try clear hcz8_0
    try clear hcz8_1
    try clear hcz8_2
    try clear hcz8_3
    try clear hcz9_0
    try clear hcz9_1
    try clear hcz9_2
    try clear hcz9_3
    try clear hfz13_0
    try clear hfz13_1
    try clear hfz13_2
    try clear hfz13_3
    try clear hfz14_0
    try clear hfz14_1
    try clear hfz14_2
    try clear hfz14_3
    try clear hfz16_0
    try clear hfz16_1
    try clear hfz16_2
    try clear hfz16_3
    try clear hfz17_0
    try clear hfz17_1
    try clear hfz17_2
    try clear hfz17_3
    try clear hfz19_0
    try clear hfz19_1
    try clear hfz19_2
    try clear hfz19_3
    try clear hfz20_0
    try clear hfz20_1
    try clear hfz20_2
    try clear hfz20_3
    try clear hfz8_0
    try clear hfz8_1
    try clear hfz8_2
    try clear hfz8_3
    try clear hfz9_0
    try clear hfz9_1
    try clear hfz9_2
    try clear hfz9_3
    obtain ⟨kq, x39_2, rfl, HA, HJ2, BK325, BK326, HB⟩ := hcut
    cases kq with
    | zero => exact absurd HA.out (by simp [cisternref11_Same.j0])
    | succ kj2 =>
      have H := HA.out
      clear HA
      simp only [cisternref11_Same.j0] at H
      by_cases c21 : x39_2 = true
      · subst c21
        have H1 : (some false) = some r := by rw [if_pos rfl] at H; exact H
        clear H
        have H := H1
        clear H1
        obtain rfl := Option.some.inj H
        go_wp2
        repeat (go_quiet (fail); try go_wp2)
        go_ret
        exact ⟨by first | rfl | (simp [errW_none, errW_some] <;> rfl) | (simp [*, errW_none, errW_some] <;> rfl), by repeat (first | (with_reducible first | exact HB.out | apply below_alloc | apply pw_below_drewN | apply below_drew1 | refine below_set ?_ GE325.out | refine below_set ?_ GE326.out) | exact HB.out)⟩
      · replace c21 := Bool.eq_false_iff.mpr c21
        subst c21
        have H1 : (cisternref11_Same.l0 kj2 0 a0_0 l0_1 l0_2 l0_3 a1_0 l1_1 l1_2 l1_3) = some r := by rw [if_neg (show ¬ (false = true) by decide)] at H; exact H
        clear H
        have H := H1
        clear H1
        have H' := Aside0.mk H
        clear H
        go_wp2
        repeat (go_quiet (fail); try go_wp2)
        go_loopg [5] kj2 (fun kq v5 w' => ∃ (x5_2 : Int), v5 = .int .i64 x5_2 ∧ Aside0 (cisternref11_Same.l0 kq x5_2 a0_0 l0_1 l0_2 l0_3 a1_0 l1_1 l1_2 l1_3 = some r) ∧ Aside0 (kq ≤ kj2) ∧ Aside0 (w'.heap[gb325]? = some (.cells #[.bool a0_0, (.slice A0_1 l0_1.length c0_1), (.slice A0_2 l0_2.length c0_2), (.slice A0_3 l0_3.length c0_3)] 26 (0, 0))) ∧ Aside0 (w'.heap[gb326]? = some (.cells #[.bool a1_0, (.slice A1_1 l1_1.length c1_1), (.slice A1_2 l1_2.length c1_2), (.slice A1_3 l1_3.length c1_3)] 26 (0, 0))) ∧ Aside0 (Below w.heap.size w w'))
        case atStart => exact ⟨(0), (by first | rfl | (simp; done) | (simp [*]; done)), H', ⟨Nat.le_refl _⟩, ⟨by (with_reducible repeat (first | refine blk_drewN ?_ _ | refine blk_drew ?_ | refine blk_alloc ?_ _)); exact BK325.out⟩, ⟨by (with_reducible repeat (first | refine blk_drewN ?_ _ | refine blk_drew ?_ | refine blk_alloc ?_ _)); exact BK326.out⟩, ⟨by repeat (first | (with_reducible first | exact HB.out | apply below_alloc | apply pw_below_drewN | apply below_drew1 | refine below_set ?_ GE325.out | refine below_set ?_ GE326.out) | exact HB.out)⟩⟩
        case round =>
          clear H'
          try clear c1
          try clear c2
          try clear p2
          try clear c6
          try clear c6b0
          try clear c6b1
          try clear c6b2
          try clear c7
          try clear c10
          try clear c10b0
          try clear c10b1
          try clear c10b2
          try clear c11
          try clear c11b0
          try clear c11b1
          try clear c11b2
          try clear c12
          try clear c15
          try clear c18
          try clear c19
          try clear c21
          try clear hcz13_0
          try clear hcz13_1
          try clear hcz13_2
          try clear hcz13_3
          try clear hcz14_0
          try clear hcz14_1
          try clear hcz14_2
          try clear hcz14_3
          try clear hcz16_0
          try clear hcz16_1
          try clear hcz16_2
          try clear hcz16_3
          try clear hcz17_0
          try clear hcz17_1
          try clear hcz17_2
          try clear hcz17_3
          try clear hcz19_0
          try clear hcz19_1
          try clear hcz19_2
          try clear hcz19_3
          try clear hcz20_0
          try clear hcz20_1
          try clear hcz20_2
          try clear hcz20_3
          try clear hcz8_0
          try clear hcz8_1
          try clear hcz8_2
          try clear hcz8_3
          try clear hcz9_0
          try clear hcz9_1
          try clear hcz9_2
          try clear hcz9_3
          try clear hfz13_0
          try clear hfz13_1
          try clear hfz13_2
          try clear hfz13_3
          try clear hfz14_0
          try clear hfz14_1
          try clear hfz14_2
          try clear hfz14_3
          try clear hfz16_0
          try clear hfz16_1
          try clear hfz16_2
          try clear hfz16_3
          try clear hfz17_0
          try clear hfz17_1
          try clear hfz17_2
          try clear hfz17_3
          try clear hfz19_0
          try clear hfz19_1
          try clear hfz19_2
          try clear hfz19_3
          try clear hfz20_0
          try clear hfz20_1
          try clear hfz20_2
          try clear hfz20_3
          try clear hfz8_0
          try clear hfz8_1
          try clear hfz8_2
          try clear hfz8_3
          try clear hfz9_0
          try clear hfz9_1
          try clear hfz9_2
          try clear hfz9_3
          try clear p2
          obtain ⟨x5_2, rfl, HA, HK2, BK325, BK326, HB⟩ := hrel
          cases gk with
          | zero => exact absurd HA.out (by simp [cisternref11_Same.l0])
          | succ k2 =>
            have H := HA.out
            clear HA
            simp only [cisternref11_Same.l0] at H
            by_cases c22 : x5_2 < (l0_1.length : Int)
            · rw [if_pos c22] at H
              have c22b0 : decide (x5_2 < (l0_1.length : Int)) = true := decide_eq_true c22
              clear c22
              by_cases c23 : 0 ≤ x5_2
              · rw [if_pos c23] at H
                have c23b0 : decide (0 ≤ x5_2) = true := decide_eq_true c23
                clear c23
                by_cases c24 : x5_2 < (l1_1.length : Int)
                · rw [if_pos c24] at H
                  have c24b0 : decide (x5_2 < (l1_1.length : Int)) = true := decide_eq_true c24
                  clear c24
                  by_cases c25 : (!((((rd_T48 l0_1 x5_2).f0).toList) == (((rd_T48 l1_1 x5_2).f0).toList)) || (!((((rd_T48 l0_1 x5_2).f1).toList) == (((rd_T48 l1_1 x5_2).f1).toList)))) = true
                  · rw [if_pos c25] at H
                    have c25b0 : (!((((rd_T48 l0_1 x5_2).f0).toList) == (((rd_T48 l1_1 x5_2).f0).toList)) || (!((((rd_T48 l0_1 x5_2).f1).toList) == (((rd_T48 l1_1 x5_2).f1).toList)))) = true := c25
                    clear c25
                    obtain rfl := Option.some.inj H
                    have hnb26 := NB325_326.out
                    have hnc26 := NB326_325.out
                    have hcz27_0 : wr.cell? ⟨gb325, 0, none⟩ = some (.bool a0_0) := (blk_cell BK325.out 0).trans rfl
                    have hcz27_1 : wr.cell? ⟨gb325, 1, none⟩ = some (.slice A0_1 l0_1.length c0_1) := (blk_cell BK325.out 1).trans rfl
                    have hcz27_2 : wr.cell? ⟨gb325, 2, none⟩ = some (.slice A0_2 l0_2.length c0_2) := (blk_cell BK325.out 2).trans rfl
                    have hcz27_3 : wr.cell? ⟨gb325, 3, none⟩ = some (.slice A0_3 l0_3.length c0_3) := (blk_cell BK325.out 3).trans rfl
                    have hfz27_0 := blk_frozen BK325.out 0
                    have hfz27_1 := blk_frozen BK325.out 1
                    have hfz27_2 := blk_frozen BK325.out 2
                    have hfz27_3 := blk_frozen BK325.out 3
                    have p327 : 0 ≤ (x5_2 : Int) := of_decide_eq_true (by first | (with_reducible assumption) | assumption)
                    have q327 : x5_2 < (l0_1.length : Int) := of_decide_eq_true (by first | (with_reducible assumption) | assumption)
                    obtain ⟨ad327, e327, hx327_0, hx327_1⟩ := at_T48 HR0_1.out x5_2 p327 q327
                    cases e327
                    replace hx327_0 := (HB.out.cell (World.block_lt_of_cell? w _ hx327_0)).trans hx327_0
                    replace hx327_1 := (HB.out.cell (World.block_lt_of_cell? w _ hx327_1)).trans hx327_1
                    replace p327 := eq_true p327
                    replace q327 := eq_true q327
                    have hcz28_0 : wr.cell? ⟨gb326, 0, none⟩ = some (.bool a1_0) := (blk_cell BK326.out 0).trans rfl
                    have hcz28_1 : wr.cell? ⟨gb326, 1, none⟩ = some (.slice A1_1 l1_1.length c1_1) := (blk_cell BK326.out 1).trans rfl
                    have hcz28_2 : wr.cell? ⟨gb326, 2, none⟩ = some (.slice A1_2 l1_2.length c1_2) := (blk_cell BK326.out 2).trans rfl
                    have hcz28_3 : wr.cell? ⟨gb326, 3, none⟩ = some (.slice A1_3 l1_3.length c1_3) := (blk_cell BK326.out 3).trans rfl
                    have hfz28_0 := blk_frozen BK326.out 0
                    have hfz28_1 := blk_frozen BK326.out 1
                    have hfz28_2 := blk_frozen BK326.out 2
                    have hfz28_3 := blk_frozen BK326.out 3
                    have p328 : 0 ≤ (x5_2 : Int) := of_decide_eq_true (by first | (with_reducible assumption) | assumption)
                    have q328 : x5_2 < (l1_1.length : Int) := of_decide_eq_true (by first | (with_reducible assumption) | assumption)
                    obtain ⟨ad328, e328, hx328_0, hx328_1⟩ := at_T48 HR1_1.out x5_2 p328 q328
                    cases e328
                    replace hx328_0 := (HB.out.cell (World.block_lt_of_cell? w _ hx328_0)).trans hx328_0
                    replace hx328_1 := (HB.out.cell (World.block_lt_of_cell? w _ hx328_1)).trans hx328_1
                    replace p328 := eq_true p328
                    replace q328 := eq_true q328
                    go_wp2
                    repeat (go_quiet (fail); try go_wp2)
                    go_ret
                    exact ⟨by first | rfl | (simp [errW_none, errW_some] <;> rfl) | (simp [*, errW_none, errW_some] <;> rfl), by repeat (first | (with_reducible first | exact HB.out | apply below_alloc | apply pw_below_drewN | apply below_drew1 | refine below_set ?_ GE325.out | refine below_set ?_ GE326.out) | exact HB.out)⟩
                  · rw [if_neg c25] at H
                    have c25b0 : (!((((rd_T48 l0_1 x5_2).f0).toList) == (((rd_T48 l1_1 x5_2).f0).toList)) || (!((((rd_T48 l0_1 x5_2).f1).toList) == (((rd_T48 l1_1 x5_2).f1).toList)))) = false := by simpa using c25
                    clear c25
                    have H' := Aside0.mk H
                    clear H
                    have hnb29 := NB325_326.out
                    have hnc29 := NB326_325.out
                    have hcz30_0 : wr.cell? ⟨gb325, 0, none⟩ = some (.bool a0_0) := (blk_cell BK325.out 0).trans rfl
                    have hcz30_1 : wr.cell? ⟨gb325, 1, none⟩ = some (.slice A0_1 l0_1.length c0_1) := (blk_cell BK325.out 1).trans rfl
                    have hcz30_2 : wr.cell? ⟨gb325, 2, none⟩ = some (.slice A0_2 l0_2.length c0_2) := (blk_cell BK325.out 2).trans rfl
                    have hcz30_3 : wr.cell? ⟨gb325, 3, none⟩ = some (.slice A0_3 l0_3.length c0_3) := (blk_cell BK325.out 3).trans rfl
                    have hfz30_0 := blk_frozen BK325.out 0
                    have hfz30_1 := blk_frozen BK325.out 1
                    have hfz30_2 := blk_frozen BK325.out 2
                    have hfz30_3 := blk_frozen BK325.out 3
                    have p327 : 0 ≤ (x5_2 : Int) := of_decide_eq_true (by first | (with_reducible assumption) | assumption)
                    have q327 : x5_2 < (l0_1.length : Int) := of_decide_eq_true (by first | (with_reducible assumption) | assumption)
                    obtain ⟨ad327, e327, hx327_0, hx327_1⟩ := at_T48 HR0_1.out x5_2 p327 q327
                    cases e327
                    replace hx327_0 := (HB.out.cell (World.block_lt_of_cell? w _ hx327_0)).trans hx327_0
                    replace hx327_1 := (HB.out.cell (World.block_lt_of_cell? w _ hx327_1)).trans hx327_1
                    replace p327 := eq_true p327
                    replace q327 := eq_true q327
                    have hcz31_0 : wr.cell? ⟨gb326, 0, none⟩ = some (.bool a1_0) := (blk_cell BK326.out 0).trans rfl
                    have hcz31_1 : wr.cell? ⟨gb326, 1, none⟩ = some (.slice A1_1 l1_1.length c1_1) := (blk_cell BK326.out 1).trans rfl
                    have hcz31_2 : wr.cell? ⟨gb326, 2, none⟩ = some (.slice A1_2 l1_2.length c1_2) := (blk_cell BK326.out 2).trans rfl
                    have hcz31_3 : wr.cell? ⟨gb326, 3, none⟩ = some (.slice A1_3 l1_3.length c1_3) := (blk_cell BK326.out 3).trans rfl
                    have hfz31_0 := blk_frozen BK326.out 0
                    have hfz31_1 := blk_frozen BK326.out 1
                    have hfz31_2 := blk_frozen BK326.out 2
                    have hfz31_3 := blk_frozen BK326.out 3
                    have p328 : 0 ≤ (x5_2 : Int) := of_decide_eq_true (by first | (with_reducible assumption) | assumption)
                    have q328 : x5_2 < (l1_1.length : Int) := of_decide_eq_true (by first | (with_reducible assumption) | assumption)
                    obtain ⟨ad328, e328, hx328_0, hx328_1⟩ := at_T48 HR1_1.out x5_2 p328 q328
                    cases e328
                    replace hx328_0 := (HB.out.cell (World.block_lt_of_cell? w _ hx328_0)).trans hx328_0
                    replace hx328_1 := (HB.out.cell (World.block_lt_of_cell? w _ hx328_1)).trans hx328_1
                    replace p328 := eq_true p328
                    replace q328 := eq_true q328
                    go_wp2
                    repeat (go_quiet (fail); try go_wp2)
                    go_roundg k2
                    case measure => have := HJ2.out; have := HK2.out; omega
                    case rel => exact ⟨(wrap64 (x5_2 + 1)), (by first | rfl | (simp; done) | (simp [*]; done)), H', ⟨by have := HJ2.out; have := HK2.out; omega⟩, ⟨by (with_reducible repeat (first | refine blk_drewN ?_ _ | refine blk_drew ?_ | refine blk_alloc ?_ _)); exact BK325.out⟩, ⟨by (with_reducible repeat (first | refine blk_drewN ?_ _ | refine blk_drew ?_ | refine blk_alloc ?_ _)); exact BK326.out⟩, ⟨by repeat (first | (with_reducible first | exact HB.out | apply below_alloc | apply pw_below_drewN | apply below_drew1 | refine below_set ?_ GE325.out | refine below_set ?_ GE326.out) | exact HB.out)⟩⟩
                · rw [if_neg c24] at H
                  exact absurd H (by simp)
              · rw [if_neg c23] at H
                exact absurd H (by simp)
            · rw [if_neg c22] at H
              have c22b0 : decide (x5_2 < (l0_1.length : Int)) = false := decide_eq_false c22
              clear c22
              have H' := Aside0.mk H
              clear H
              have hnb32 := NB325_326.out
              have hnc32 := NB326_325.out
              have hcz33_0 : wr.cell? ⟨gb325, 0, none⟩ = some (.bool a0_0) := (blk_cell BK325.out 0).trans rfl
              have hcz33_1 : wr.cell? ⟨gb325, 1, none⟩ = some (.slice A0_1 l0_1.length c0_1) := (blk_cell BK325.out 1).trans rfl
              have hcz33_2 : wr.cell? ⟨gb325, 2, none⟩ = some (.slice A0_2 l0_2.length c0_2) := (blk_cell BK325.out 2).trans rfl
              have hcz33_3 : wr.cell? ⟨gb325, 3, none⟩ = some (.slice A0_3 l0_3.length c0_3) := (blk_cell BK325.out 3).trans rfl
              have hfz33_0 := blk_frozen BK325.out 0
              have hfz33_1 := blk_frozen BK325.out 1
              have hfz33_2 := blk_frozen BK325.out 2
              have hfz33_3 := blk_frozen BK325.out 3
              go_wp2
              repeat (go_quiet (fail); try go_wp2)
              go_loopg [6] k2 (fun kq v6 w' => ∃ (x6_3 : Int), v6 = .int .i64 x6_3 ∧ Aside0 (cisternref11_Same.l1 kq x6_3 a0_0 l0_1 l0_2 l0_3 a1_0 l1_1 l1_2 l1_3 = some r) ∧ Aside0 (kq ≤ k2) ∧ Aside0 (w'.heap[gb325]? = some (.cells #[.bool a0_0, (.slice A0_1 l0_1.length c0_1), (.slice A0_2 l0_2.length c0_2), (.slice A0_3 l0_3.length c0_3)] 26 (0, 0))) ∧ Aside0 (w'.heap[gb326]? = some (.cells #[.bool a1_0, (.slice A1_1 l1_1.length c1_1), (.slice A1_2 l1_2.length c1_2), (.slice A1_3 l1_3.length c1_3)] 26 (0, 0))) ∧ Aside0 (Below w.heap.size w w'))
              case atStart => exact ⟨(0), (by first | rfl | (simp; done) | (simp [*]; done)), H', ⟨Nat.le_refl _⟩, ⟨by (with_reducible repeat (first | refine blk_drewN ?_ _ | refine blk_drew ?_ | refine blk_alloc ?_ _)); exact BK325.out⟩, ⟨by (with_reducible repeat (first | refine blk_drewN ?_ _ | refine blk_drew ?_ | refine blk_alloc ?_ _)); exact BK326.out⟩, ⟨by repeat (first | (with_reducible first | exact HB.out | apply below_alloc | apply pw_below_drewN | apply below_drew1 | refine below_set ?_ GE325.out | refine below_set ?_ GE326.out) | exact HB.out)⟩⟩
              case round =>
                clear H'
                try clear c1
                try clear c2
                try clear p2
                try clear c3
                try clear p3
                try clear q3
                try clear hx3
                try clear c6
                try clear c6b0
                try clear c6b1
                try clear c6b2
                try clear p6
                try clear c7
                try clear c10
                try clear c10b0
                try clear c10b1
                try clear c10b2
                try clear c11
                try clear c11b0
                try clear c11b1
                try clear c11b2
                try clear c12
                try clear c15
                try clear c18
                try clear c19
                try clear c21
                try clear c22
                try clear c22b0
                try clear c23
                try clear c23b0
                try clear c24
                try clear c24b0
                try clear c25
                try clear c25b0
                try clear c26
                try clear c29
                try clear c32
                try clear p32
                try clear q32
                try clear hx32
                try clear hcz13_0
                try clear hcz13_1
                try clear hcz13_2
                try clear hcz13_3
                try clear hcz14_0
                try clear hcz14_1
                try clear hcz14_2
                try clear hcz14_3
                try clear hcz16_0
                try clear hcz16_1
                try clear hcz16_2
                try clear hcz16_3
                try clear hcz17_0
                try clear hcz17_1
                try clear hcz17_2
                try clear hcz17_3
                try clear hcz19_0
                try clear hcz19_1
                try clear hcz19_2
                try clear hcz19_3
                try clear hcz20_0
                try clear hcz20_1
                try clear hcz20_2
                try clear hcz20_3
                try clear hcz27_0
                try clear hcz27_1
                try clear hcz27_2
                try clear hcz27_3
                try clear hcz28_0
                try clear hcz28_1
                try clear hcz28_2
                try clear hcz28_3
                try clear hcz30_0
                try clear hcz30_1
                try clear hcz30_2
                try clear hcz30_3
                try clear hcz31_0
                try clear hcz31_1
                try clear hcz31_2
                try clear hcz31_3
                try clear hcz33_0
                try clear hcz33_1
                try clear hcz33_2
                try clear hcz33_3
                try clear hcz8_0
                try clear hcz8_1
                try clear hcz8_2
                try clear hcz8_3
                try clear hcz9_0
                try clear hcz9_1
                try clear hcz9_2
                try clear hcz9_3
                try clear hfz13_0
                try clear hfz13_1
                try clear hfz13_2
                try clear hfz13_3
                try clear hfz14_0
                try clear hfz14_1
                try clear hfz14_2
                try clear hfz14_3
                try clear hfz16_0
                try clear hfz16_1
                try clear hfz16_2
                try clear hfz16_3
                try clear hfz17_0
                try clear hfz17_1
                try clear hfz17_2
                try clear hfz17_3
                try clear hfz19_0
                try clear hfz19_1
                try clear hfz19_2
                try clear hfz19_3
                try clear hfz20_0
                try clear hfz20_1
                try clear hfz20_2
                try clear hfz20_3
                try clear hfz27_0
                try clear hfz27_1
                try clear hfz27_2
                try clear hfz27_3
                try clear hfz28_0
                try clear hfz28_1
                try clear hfz28_2
                try clear hfz28_3
                try clear hfz30_0
                try clear hfz30_1
                try clear hfz30_2
                try clear hfz30_3
                try clear hfz31_0
                try clear hfz31_1
                try clear hfz31_2
                try clear hfz31_3
                try clear hfz33_0
                try clear hfz33_1
                try clear hfz33_2
                try clear hfz33_3
                try clear hfz8_0
                try clear hfz8_1
                try clear hfz8_2
                try clear hfz8_3
                try clear hfz9_0
                try clear hfz9_1
                try clear hfz9_2
                try clear hfz9_3
                try clear hx327_0
                try clear hx327_1
                try clear hx328_0
                try clear hx328_1
                try clear p2
                try clear p327
                try clear p328
                try clear q327
                try clear q328
                obtain ⟨x6_3, rfl, HA, HK3, BK325, BK326, HB⟩ := hrel
                cases gk with
                | zero => exact absurd HA.out (by simp [cisternref11_Same.l1])
                | succ k3 =>
                  have H := HA.out
                  clear HA
                  simp only [cisternref11_Same.l1] at H
                  by_cases c34 : x6_3 < (l0_2.length : Int)
                  · rw [if_pos c34] at H
                    have c34b0 : decide (x6_3 < (l0_2.length : Int)) = true := decide_eq_true c34
                    clear c34
                    by_cases c35 : 0 ≤ x6_3
                    · rw [if_pos c35] at H
                      have c35b0 : decide (0 ≤ x6_3) = true := decide_eq_true c35
                      clear c35
                      by_cases c36 : x6_3 < (l1_2.length : Int)
                      · rw [if_pos c36] at H
                        have c36b0 : decide (x6_3 < (l1_2.length : Int)) = true := decide_eq_true c36
                        clear c36
                        by_cases c37 : (rdOf ByteArray.empty l0_2 x6_3).toList = (rdOf ByteArray.empty l1_2 x6_3).toList
                        · rw [if_pos c37] at H
                          have c37b0 : ((rdOf ByteArray.empty l0_2 x6_3).toList == (rdOf ByteArray.empty l1_2 x6_3).toList) = true := beq_iff_eq.mpr c37
                          have c37b1 : ((rdOf ByteArray.empty l0_2 x6_3).toList != (rdOf ByteArray.empty l1_2 x6_3).toList) = false := bne_eq_false_iff_eq.mpr c37
                          clear c37
                          have H' := Aside0.mk H
                          clear H
                          have hnb38 := NB325_326.out
                          have hnc38 := NB326_325.out
                          have hcz39_0 : wr.cell? ⟨gb325, 0, none⟩ = some (.bool a0_0) := (blk_cell BK325.out 0).trans rfl
                          have hcz39_1 : wr.cell? ⟨gb325, 1, none⟩ = some (.slice A0_1 l0_1.length c0_1) := (blk_cell BK325.out 1).trans rfl
                          have hcz39_2 : wr.cell? ⟨gb325, 2, none⟩ = some (.slice A0_2 l0_2.length c0_2) := (blk_cell BK325.out 2).trans rfl
                          have hcz39_3 : wr.cell? ⟨gb325, 3, none⟩ = some (.slice A0_3 l0_3.length c0_3) := (blk_cell BK325.out 3).trans rfl
                          have hfz39_0 := blk_frozen BK325.out 0
                          have hfz39_1 := blk_frozen BK325.out 1
                          have hfz39_2 := blk_frozen BK325.out 2
                          have hfz39_3 := blk_frozen BK325.out 3
                          have p329 : 0 ≤ (x6_3 : Int) := of_decide_eq_true (by first | (with_reducible assumption) | assumption)
                          have q329 : x6_3 < (l0_2.length : Int) := of_decide_eq_true (by first | (with_reducible assumption) | assumption)
                          obtain ⟨ad329, e329, hx329_0⟩ := Kd.at_string HR0_2.out x6_3 p329 q329
                          cases e329
                          replace hx329_0 := (HB.out.cell (World.block_lt_of_cell? w _ hx329_0)).trans hx329_0
                          replace p329 := eq_true p329
                          replace q329 := eq_true q329
                          have hcz40_0 : wr.cell? ⟨gb326, 0, none⟩ = some (.bool a1_0) := (blk_cell BK326.out 0).trans rfl
                          have hcz40_1 : wr.cell? ⟨gb326, 1, none⟩ = some (.slice A1_1 l1_1.length c1_1) := (blk_cell BK326.out 1).trans rfl
                          have hcz40_2 : wr.cell? ⟨gb326, 2, none⟩ = some (.slice A1_2 l1_2.length c1_2) := (blk_cell BK326.out 2).trans rfl
                          have hcz40_3 : wr.cell? ⟨gb326, 3, none⟩ = some (.slice A1_3 l1_3.length c1_3) := (blk_cell BK326.out 3).trans rfl
                          have hfz40_0 := blk_frozen BK326.out 0
                          have hfz40_1 := blk_frozen BK326.out 1
                          have hfz40_2 := blk_frozen BK326.out 2
                          have hfz40_3 := blk_frozen BK326.out 3
                          have p330 : 0 ≤ (x6_3 : Int) := of_decide_eq_true (by first | (with_reducible assumption) | assumption)
                          have q330 : x6_3 < (l1_2.length : Int) := of_decide_eq_true (by first | (with_reducible assumption) | assumption)
                          obtain ⟨ad330, e330, hx330_0⟩ := Kd.at_string HR1_2.out x6_3 p330 q330
                          cases e330
                          replace hx330_0 := (HB.out.cell (World.block_lt_of_cell? w _ hx330_0)).trans hx330_0
                          replace p330 := eq_true p330
                          replace q330 := eq_true q330
                          go_wp2
                          repeat (go_quiet (fail); try go_wp2)
                          go_roundg k3
                          case measure => have := HJ2.out; have := HK2.out; have := HK3.out; omega
                          case rel => exact ⟨(wrap64 (x6_3 + 1)), (by first | rfl | (simp; done) | (simp [*]; done)), H', ⟨by have := HJ2.out; have := HK2.out; have := HK3.out; omega⟩, ⟨by (with_reducible repeat (first | refine blk_drewN ?_ _ | refine blk_drew ?_ | refine blk_alloc ?_ _)); exact BK325.out⟩, ⟨by (with_reducible repeat (first | refine blk_drewN ?_ _ | refine blk_drew ?_ | refine blk_alloc ?_ _)); exact BK326.out⟩, ⟨by repeat (first | (with_reducible first | exact HB.out | apply below_alloc | apply pw_below_drewN | apply below_drew1 | refine below_set ?_ GE325.out | refine below_set ?_ GE326.out) | exact HB.out)⟩⟩
                        · rw [if_neg c37] at H
                          have c37b0 : ((rdOf ByteArray.empty l0_2 x6_3).toList == (rdOf ByteArray.empty l1_2 x6_3).toList) = false := beq_eq_false_iff_ne.mpr c37
                          have c37b1 : ((rdOf ByteArray.empty l0_2 x6_3).toList != (rdOf ByteArray.empty l1_2 x6_3).toList) = true := bne_iff_ne.mpr c37
                          obtain rfl := Option.some.inj H
                          have hnb41 := NB325_326.out
                          have hnc41 := NB326_325.out
                          have hcz42_0 : wr.cell? ⟨gb325, 0, none⟩ = some (.bool a0_0) := (blk_cell BK325.out 0).trans rfl
                          have hcz42_1 : wr.cell? ⟨gb325, 1, none⟩ = some (.slice A0_1 l0_1.length c0_1) := (blk_cell BK325.out 1).trans rfl
                          have hcz42_2 : wr.cell? ⟨gb325, 2, none⟩ = some (.slice A0_2 l0_2.length c0_2) := (blk_cell BK325.out 2).trans rfl
                          have hcz42_3 : wr.cell? ⟨gb325, 3, none⟩ = some (.slice A0_3 l0_3.length c0_3) := (blk_cell BK325.out 3).trans rfl
                          have hfz42_0 := blk_frozen BK325.out 0
                          have hfz42_1 := blk_frozen BK325.out 1
                          have hfz42_2 := blk_frozen BK325.out 2
                          have hfz42_3 := blk_frozen BK325.out 3
                          have p329 : 0 ≤ (x6_3 : Int) := of_decide_eq_true (by first | (with_reducible assumption) | assumption)
                          have q329 : x6_3 < (l0_2.length : Int) := of_decide_eq_true (by first | (with_reducible assumption) | assumption)
                          obtain ⟨ad329, e329, hx329_0⟩ := Kd.at_string HR0_2.out x6_3 p329 q329
                          cases e329
                          replace hx329_0 := (HB.out.cell (World.block_lt_of_cell? w _ hx329_0)).trans hx329_0
                          replace p329 := eq_true p329
                          replace q329 := eq_true q329
                          have hcz43_0 : wr.cell? ⟨gb326, 0, none⟩ = some (.bool a1_0) := (blk_cell BK326.out 0).trans rfl
                          have hcz43_1 : wr.cell? ⟨gb326, 1, none⟩ = some (.slice A1_1 l1_1.length c1_1) := (blk_cell BK326.out 1).trans rfl
                          have hcz43_2 : wr.cell? ⟨gb326, 2, none⟩ = some (.slice A1_2 l1_2.length c1_2) := (blk_cell BK326.out 2).trans rfl
                          have hcz43_3 : wr.cell? ⟨gb326, 3, none⟩ = some (.slice A1_3 l1_3.length c1_3) := (blk_cell BK326.out 3).trans rfl
                          have hfz43_0 := blk_frozen BK326.out 0
                          have hfz43_1 := blk_frozen BK326.out 1
                          have hfz43_2 := blk_frozen BK326.out 2
                          have hfz43_3 := blk_frozen BK326.out 3
                          have p330 : 0 ≤ (x6_3 : Int) := of_decide_eq_true (by first | (with_reducible assumption) | assumption)
                          have q330 : x6_3 < (l1_2.length : Int) := of_decide_eq_true (by first | (with_reducible assumption) | assumption)
                          obtain ⟨ad330, e330, hx330_0⟩ := Kd.at_string HR1_2.out x6_3 p330 q330
                          cases e330
                          replace hx330_0 := (HB.out.cell (World.block_lt_of_cell? w _ hx330_0)).trans hx330_0
                          replace p330 := eq_true p330
                          replace q330 := eq_true q330
                          go_wp2
                          repeat (go_quiet (fail); try go_wp2)
                          go_ret
                          exact ⟨by first | rfl | (simp [errW_none, errW_some] <;> rfl) | (simp [*, errW_none, errW_some] <;> rfl), by repeat (first | (with_reducible first | exact HB.out | apply below_alloc | apply pw_below_drewN | apply below_drew1 | refine below_set ?_ GE325.out | refine below_set ?_ GE326.out) | exact HB.out)⟩
                      · rw [if_neg c36] at H
                        exact absurd H (by simp)
                    · rw [if_neg c35] at H
                      exact absurd H (by simp)
                  · rw [if_neg c34] at H
                    have c34b0 : decide (x6_3 < (l0_2.length : Int)) = false := decide_eq_false c34
                    clear c34
                    have H' := Aside0.mk H
                    clear H
                    have hnb44 := NB325_326.out
                    have hnc44 := NB326_325.out
                    have hcz45_0 : wr.cell? ⟨gb325, 0, none⟩ = some (.bool a0_0) := (blk_cell BK325.out 0).trans rfl
                    have hcz45_1 : wr.cell? ⟨gb325, 1, none⟩ = some (.slice A0_1 l0_1.length c0_1) := (blk_cell BK325.out 1).trans rfl
                    have hcz45_2 : wr.cell? ⟨gb325, 2, none⟩ = some (.slice A0_2 l0_2.length c0_2) := (blk_cell BK325.out 2).trans rfl
                    have hcz45_3 : wr.cell? ⟨gb325, 3, none⟩ = some (.slice A0_3 l0_3.length c0_3) := (blk_cell BK325.out 3).trans rfl
                    have hfz45_0 := blk_frozen BK325.out 0
                    have hfz45_1 := blk_frozen BK325.out 1
                    have hfz45_2 := blk_frozen BK325.out 2
                    have hfz45_3 := blk_frozen BK325.out 3
                    go_wp2
                    repeat (go_quiet (fail); try go_wp2)
                    go_loopg [7] k3 (fun kq v7 w' => ∃ (x7_4 : Int), v7 = .int .i64 x7_4 ∧ Aside0 (cisternref11_Same.l2 kq x7_4 a0_0 l0_1 l0_2 l0_3 a1_0 l1_1 l1_2 l1_3 = some r) ∧ Aside0 (kq ≤ k3) ∧ Aside0 (w'.heap[gb325]? = some (.cells #[.bool a0_0, (.slice A0_1 l0_1.length c0_1), (.slice A0_2 l0_2.length c0_2), (.slice A0_3 l0_3.length c0_3)] 26 (0, 0))) ∧ Aside0 (w'.heap[gb326]? = some (.cells #[.bool a1_0, (.slice A1_1 l1_1.length c1_1), (.slice A1_2 l1_2.length c1_2), (.slice A1_3 l1_3.length c1_3)] 26 (0, 0))) ∧ Aside0 (Below w.heap.size w w'))
                    case atStart => exact ⟨(0), (by first | rfl | (simp; done) | (simp [*]; done)), H', ⟨Nat.le_refl _⟩, ⟨by (with_reducible repeat (first | refine blk_drewN ?_ _ | refine blk_drew ?_ | refine blk_alloc ?_ _)); exact BK325.out⟩, ⟨by (with_reducible repeat (first | refine blk_drewN ?_ _ | refine blk_drew ?_ | refine blk_alloc ?_ _)); exact BK326.out⟩, ⟨by repeat (first | (with_reducible first | exact HB.out | apply below_alloc | apply pw_below_drewN | apply below_drew1 | refine below_set ?_ GE325.out | refine below_set ?_ GE326.out) | exact HB.out)⟩⟩
                    case round =>
                      clear H'
                      try clear c1
                      try clear c2
                      try clear p2
                      try clear c3
                      try clear p3
                      try clear q3
                      try clear hx3
                      try clear c4
                      try clear c6
                      try clear c6b0
                      try clear c6b1
                      try clear c6b2
                      try clear p6
                      try clear c7
                      try clear c10
                      try clear c10b0
                      try clear c10b1
                      try clear c10b2
                      try clear c11
                      try clear c11b0
                      try clear c11b1
                      try clear c11b2
                      try clear c12
                      try clear c15
                      try clear c18
                      try clear c19
                      try clear c21
                      try clear c22
                      try clear c22b0
                      try clear c23
                      try clear c23b0
                      try clear c24
                      try clear c24b0
                      try clear c25
                      try clear c25b0
                      try clear c26
                      try clear c29
                      try clear c32
                      try clear p32
                      try clear q32
                      try clear hx32
                      try clear p33
                      try clear q33
                      try clear hx33
                      try clear c34
                      try clear c34b0
                      try clear c35
                      try clear c35b0
                      try clear c36
                      try clear c36b0
                      try clear c37
                      try clear c37b0
                      try clear c37b1
                      try clear c38
                      try clear c41
                      try clear c44
                      try clear hcz13_0
                      try clear hcz13_1
                      try clear hcz13_2
                      try clear hcz13_3
                      try clear hcz14_0
                      try clear hcz14_1
                      try clear hcz14_2
                      try clear hcz14_3
                      try clear hcz16_0
                      try clear hcz16_1
                      try clear hcz16_2
                      try clear hcz16_3
                      try clear hcz17_0
                      try clear hcz17_1
                      try clear hcz17_2
                      try clear hcz17_3
                      try clear hcz19_0
                      try clear hcz19_1
                      try clear hcz19_2
                      try clear hcz19_3
                      try clear hcz20_0
                      try clear hcz20_1
                      try clear hcz20_2
                      try clear hcz20_3
                      try clear hcz27_0
                      try clear hcz27_1
                      try clear hcz27_2
                      try clear hcz27_3
                      try clear hcz28_0
                      try clear hcz28_1
                      try clear hcz28_2
                      try clear hcz28_3
                      try clear hcz30_0
                      try clear hcz30_1
                      try clear hcz30_2
                      try clear hcz30_3
                      try clear hcz31_0
                      try clear hcz31_1
                      try clear hcz31_2
                      try clear hcz31_3
                      try clear hcz33_0
                      try clear hcz33_1
                      try clear hcz33_2
                      try clear hcz33_3
                      try clear hcz39_0
                      try clear hcz39_1
                      try clear hcz39_2
                      try clear hcz39_3
                      try clear hcz40_0
                      try clear hcz40_1
                      try clear hcz40_2
                      try clear hcz40_3
                      try clear hcz42_0
                      try clear hcz42_1
                      try clear hcz42_2
                      try clear hcz42_3
                      try clear hcz43_0
                      try clear hcz43_1
                      try clear hcz43_2
                      try clear hcz43_3
                      try clear hcz45_0
                      try clear hcz45_1
                      try clear hcz45_2
                      try clear hcz45_3
                      try clear hcz8_0
                      try clear hcz8_1
                      try clear hcz8_2
                      try clear hcz8_3
                      try clear hcz9_0
                      try clear hcz9_1
                      try clear hcz9_2
                      try clear hcz9_3
                      try clear hfz13_0
                      try clear hfz13_1
                      try clear hfz13_2
                      try clear hfz13_3
                      try clear hfz14_0
                      try clear hfz14_1
                      try clear hfz14_2
                      try clear hfz14_3
                      try clear hfz16_0
                      try clear hfz16_1
                      try clear hfz16_2
                      try clear hfz16_3
                      try clear hfz17_0
                      try clear hfz17_1
                      try clear hfz17_2
                      try clear hfz17_3
                      try clear hfz19_0
                      try clear hfz19_1
                      try clear hfz19_2
                      try clear hfz19_3
                      try clear hfz20_0
                      try clear hfz20_1
                      try clear hfz20_2
                      try clear hfz20_3
                      try clear hfz27_0
                      try clear hfz27_1
                      try clear hfz27_2
                      try clear hfz27_3
                      try clear hfz28_0
                      try clear hfz28_1
                      try clear hfz28_2
                      try clear hfz28_3
                      try clear hfz30_0
                      try clear hfz30_1
                      try clear hfz30_2
                      try clear hfz30_3
                      try clear hfz31_0
                      try clear hfz31_1
                      try clear hfz31_2
                      try clear hfz31_3
                      try clear hfz33_0
                      try clear hfz33_1
                      try clear hfz33_2
                      try clear hfz33_3
                      try clear hfz39_0
                      try clear hfz39_1
                      try clear hfz39_2
                      try clear hfz39_3
                      try clear hfz40_0
                      try clear hfz40_1
                      try clear hfz40_2
                      try clear hfz40_3
                      try clear hfz42_0
                      try clear hfz42_1
                      try clear hfz42_2
                      try clear hfz42_3
                      try clear hfz43_0
                      try clear hfz43_1
                      try clear hfz43_2
                      try clear hfz43_3
                      try clear hfz45_0
                      try clear hfz45_1
                      try clear hfz45_2
                      try clear hfz45_3
                      try clear hfz8_0
                      try clear hfz8_1
                      try clear hfz8_2
                      try clear hfz8_3
                      try clear hfz9_0
                      try clear hfz9_1
                      try clear hfz9_2
                      try clear hfz9_3
                      try clear hx327_0
                      try clear hx327_1
                      try clear hx328_0
                      try clear hx328_1
                      try clear hx329_0
                      try clear hx330_0
                      try clear p2
                      try clear p3
                      try clear p32
                      try clear p327
                      try clear p328
                      try clear p329
                      try clear p330
                      try clear p6
                      try clear q3
                      try clear q32
                      try clear q327
                      try clear q328
                      try clear q329
                      try clear q330
                      obtain ⟨x7_4, rfl, HA, HK4, BK325, BK326, HB⟩ := hrel
                      cases gk with
                      | zero => exact absurd HA.out (by simp [cisternref11_Same.l2])
                      | succ k4 =>
                        have H := HA.out
                        clear HA
                        simp only [cisternref11_Same.l2] at H
                        by_cases c46 : x7_4 < (l0_3.length : Int)
                        · rw [if_pos c46] at H
                          have c46b0 : decide (x7_4 < (l0_3.length : Int)) = true := decide_eq_true c46
                          clear c46
                          by_cases c47 : 0 ≤ x7_4
                          · rw [if_pos c47] at H
                            have c47b0 : decide (0 ≤ x7_4) = true := decide_eq_true c47
                            clear c47
                            by_cases c48 : x7_4 < (l1_3.length : Int)
                            · rw [if_pos c48] at H
                              have c48b0 : decide (x7_4 < (l1_3.length : Int)) = true := decide_eq_true c48
                              clear c48
                              by_cases c49 : (rd l0_3 x7_4) = (rd l1_3 x7_4)
                              · rw [if_pos c49] at H
                                have c49b0 : ((rd l0_3 x7_4) == (rd l1_3 x7_4)) = true := beq_iff_eq.mpr c49
                                have c49b1 : ((rd l0_3 x7_4) != (rd l1_3 x7_4)) = false := bne_eq_false_iff_eq.mpr c49
                                clear c49
                                have H' := Aside0.mk H
                                clear H
                                have hnb50 := NB325_326.out
                                have hnc50 := NB326_325.out
                                have hcz51_0 : wr.cell? ⟨gb325, 0, none⟩ = some (.bool a0_0) := (blk_cell BK325.out 0).trans rfl
                                have hcz51_1 : wr.cell? ⟨gb325, 1, none⟩ = some (.slice A0_1 l0_1.length c0_1) := (blk_cell BK325.out 1).trans rfl
                                have hcz51_2 : wr.cell? ⟨gb325, 2, none⟩ = some (.slice A0_2 l0_2.length c0_2) := (blk_cell BK325.out 2).trans rfl
                                have hcz51_3 : wr.cell? ⟨gb325, 3, none⟩ = some (.slice A0_3 l0_3.length c0_3) := (blk_cell BK325.out 3).trans rfl
                                have hfz51_0 := blk_frozen BK325.out 0
                                have hfz51_1 := blk_frozen BK325.out 1
                                have hfz51_2 := blk_frozen BK325.out 2
                                have hfz51_3 := blk_frozen BK325.out 3
                                have p331 : 0 ≤ (x7_4 : Int) := of_decide_eq_true (by first | (with_reducible assumption) | assumption)
                                have q331 : x7_4 < (l0_3.length : Int) := of_decide_eq_true (by first | (with_reducible assumption) | assumption)
                                obtain ⟨ad331, e331, hx331_0⟩ := Kd.at_int HR0_3.out x7_4 p331 q331
                                cases e331
                                replace hx331_0 := (HB.out.cell (World.block_lt_of_cell? w _ hx331_0)).trans hx331_0
                                replace p331 := eq_true p331
                                replace q331 := eq_true q331
                                have hcz52_0 : wr.cell? ⟨gb326, 0, none⟩ = some (.bool a1_0) := (blk_cell BK326.out 0).trans rfl
                                have hcz52_1 : wr.cell? ⟨gb326, 1, none⟩ = some (.slice A1_1 l1_1.length c1_1) := (blk_cell BK326.out 1).trans rfl
                                have hcz52_2 : wr.cell? ⟨gb326, 2, none⟩ = some (.slice A1_2 l1_2.length c1_2) := (blk_cell BK326.out 2).trans rfl
                                have hcz52_3 : wr.cell? ⟨gb326, 3, none⟩ = some (.slice A1_3 l1_3.length c1_3) := (blk_cell BK326.out 3).trans rfl
                                have hfz52_0 := blk_frozen BK326.out 0
                                have hfz52_1 := blk_frozen BK326.out 1
                                have hfz52_2 := blk_frozen BK326.out 2
                                have hfz52_3 := blk_frozen BK326.out 3
                                have p332 : 0 ≤ (x7_4 : Int) := of_decide_eq_true (by first | (with_reducible assumption) | assumption)
                                have q332 : x7_4 < (l1_3.length : Int) := of_decide_eq_true (by first | (with_reducible assumption) | assumption)
                                obtain ⟨ad332, e332, hx332_0⟩ := Kd.at_int HR1_3.out x7_4 p332 q332
                                cases e332
                                replace hx332_0 := (HB.out.cell (World.block_lt_of_cell? w _ hx332_0)).trans hx332_0
                                replace p332 := eq_true p332
                                replace q332 := eq_true q332
                                go_wp2
                                repeat (go_quiet (fail); try go_wp2)
                                go_roundg k4
                                case measure => have := HJ2.out; have := HK2.out; have := HK3.out; have := HK4.out; omega
                                case rel => exact ⟨(wrap64 (x7_4 + 1)), (by first | rfl | (simp; done) | (simp [*]; done)), H', ⟨by have := HJ2.out; have := HK2.out; have := HK3.out; have := HK4.out; omega⟩, ⟨by (with_reducible repeat (first | refine blk_drewN ?_ _ | refine blk_drew ?_ | refine blk_alloc ?_ _)); exact BK325.out⟩, ⟨by (with_reducible repeat (first | refine blk_drewN ?_ _ | refine blk_drew ?_ | refine blk_alloc ?_ _)); exact BK326.out⟩, ⟨by repeat (first | (with_reducible first | exact HB.out | apply below_alloc | apply pw_below_drewN | apply below_drew1 | refine below_set ?_ GE325.out | refine below_set ?_ GE326.out) | exact HB.out)⟩⟩
                              · rw [if_neg c49] at H
                                have c49b0 : ((rd l0_3 x7_4) == (rd l1_3 x7_4)) = false := beq_eq_false_iff_ne.mpr c49
                                have c49b1 : ((rd l0_3 x7_4) != (rd l1_3 x7_4)) = true := bne_iff_ne.mpr c49
                                obtain rfl := Option.some.inj H
                                have hnb53 := NB325_326.out
                                have hnc53 := NB326_325.out
                                have hcz54_0 : wr.cell? ⟨gb325, 0, none⟩ = some (.bool a0_0) := (blk_cell BK325.out 0).trans rfl
                                have hcz54_1 : wr.cell? ⟨gb325, 1, none⟩ = some (.slice A0_1 l0_1.length c0_1) := (blk_cell BK325.out 1).trans rfl
                                have hcz54_2 : wr.cell? ⟨gb325, 2, none⟩ = some (.slice A0_2 l0_2.length c0_2) := (blk_cell BK325.out 2).trans rfl
                                have hcz54_3 : wr.cell? ⟨gb325, 3, none⟩ = some (.slice A0_3 l0_3.length c0_3) := (blk_cell BK325.out 3).trans rfl
                                have hfz54_0 := blk_frozen BK325.out 0
                                have hfz54_1 := blk_frozen BK325.out 1
                                have hfz54_2 := blk_frozen BK325.out 2
                                have hfz54_3 := blk_frozen BK325.out 3
                                have p331 : 0 ≤ (x7_4 : Int) := of_decide_eq_true (by first | (with_reducible assumption) | assumption)
                                have q331 : x7_4 < (l0_3.length : Int) := of_decide_eq_true (by first | (with_reducible assumption) | assumption)
                                obtain ⟨ad331, e331, hx331_0⟩ := Kd.at_int HR0_3.out x7_4 p331 q331
                                cases e331
                                replace hx331_0 := (HB.out.cell (World.block_lt_of_cell? w _ hx331_0)).trans hx331_0
                                replace p331 := eq_true p331
                                replace q331 := eq_true q331
                                have hcz55_0 : wr.cell? ⟨gb326, 0, none⟩ = some (.bool a1_0) := (blk_cell BK326.out 0).trans rfl
                                have hcz55_1 : wr.cell? ⟨gb326, 1, none⟩ = some (.slice A1_1 l1_1.length c1_1) := (blk_cell BK326.out 1).trans rfl
                                have hcz55_2 : wr.cell? ⟨gb326, 2, none⟩ = some (.slice A1_2 l1_2.length c1_2) := (blk_cell BK326.out 2).trans rfl
                                have hcz55_3 : wr.cell? ⟨gb326, 3, none⟩ = some (.slice A1_3 l1_3.length c1_3) := (blk_cell BK326.out 3).trans rfl
                                have hfz55_0 := blk_frozen BK326.out 0
                                have hfz55_1 := blk_frozen BK326.out 1
                                have hfz55_2 := blk_frozen BK326.out 2
                                have hfz55_3 := blk_frozen BK326.out 3
                                have p332 : 0 ≤ (x7_4 : Int) := of_decide_eq_true (by first | (with_reducible assumption) | assumption)
                                have q332 : x7_4 < (l1_3.length : Int) := of_decide_eq_true (by first | (with_reducible assumption) | assumption)
                                obtain ⟨ad332, e332, hx332_0⟩ := Kd.at_int HR1_3.out x7_4 p332 q332
                                cases e332
                                replace hx332_0 := (HB.out.cell (World.block_lt_of_cell? w _ hx332_0)).trans hx332_0
                                replace p332 := eq_true p332
                                replace q332 := eq_true q332
                                go_wp2
                                repeat (go_quiet (fail); try go_wp2)
                                go_ret
                                exact ⟨by first | rfl | (simp [errW_none, errW_some] <;> rfl) | (simp [*, errW_none, errW_some] <;> rfl), by repeat (first | (with_reducible first | exact HB.out | apply below_alloc | apply pw_below_drewN | apply below_drew1 | refine below_set ?_ GE325.out | refine below_set ?_ GE326.out) | exact HB.out)⟩
                            · rw [if_neg c48] at H
                              exact absurd H (by simp)
                          · rw [if_neg c47] at H
                            exact absurd H (by simp)
                        · rw [if_neg c46] at H
                          have c46b0 : decide (x7_4 < (l0_3.length : Int)) = false := decide_eq_false c46
                          clear c46
                          obtain rfl := Option.some.inj H
                          have hnb56 := NB325_326.out
                          have hnc56 := NB326_325.out
                          have hcz57_0 : wr.cell? ⟨gb325, 0, none⟩ = some (.bool a0_0) := (blk_cell BK325.out 0).trans rfl
                          have hcz57_1 : wr.cell? ⟨gb325, 1, none⟩ = some (.slice A0_1 l0_1.length c0_1) := (blk_cell BK325.out 1).trans rfl
                          have hcz57_2 : wr.cell? ⟨gb325, 2, none⟩ = some (.slice A0_2 l0_2.length c0_2) := (blk_cell BK325.out 2).trans rfl
                          have hcz57_3 : wr.cell? ⟨gb325, 3, none⟩ = some (.slice A0_3 l0_3.length c0_3) := (blk_cell BK325.out 3).trans rfl
                          have hfz57_0 := blk_frozen BK325.out 0
                          have hfz57_1 := blk_frozen BK325.out 1
                          have hfz57_2 := blk_frozen BK325.out 2
                          have hfz57_3 := blk_frozen BK325.out 3
                          go_wp2
                          repeat (go_quiet (fail); try go_wp2)
                          go_ret
                          exact ⟨by first | rfl | (simp [errW_none, errW_some] <;> rfl) | (simp [*, errW_none, errW_some] <;> rfl), by repeat (first | (with_reducible first | exact HB.out | apply below_alloc | apply pw_below_drewN | apply below_drew1 | refine below_set ?_ GE325.out | refine below_set ?_ GE326.out) | exact HB.out)⟩
end
end Go.Proofs.Ytjjfeoigjhbbpaa.PA
namespace Go.Proofs.Ytjjfeoigjhbbpaa.PA
section

open Go.RowKit Go.Proofs.YtjjfeoigjhbbpaaW.PrintWords Go.Proofs.YtjjfeoigjhbbpaaW.PrintLast Go.Proofs.YtjjfeoigjhbbpaaW.PrintMore
attribute [local go_sem] pr_leq pr_geq pr_gtr max2_int min2_int max_two min_two max_three min_three max_four min_four
set_option linter.unusedVariables false
set_option linter.unusedSimpArgs false
theorem right_val (a : Bool) (P : List S48) (K : List ByteArray) (D : List Int) : cisternref11_Right.f a P K D = some (leafV a P K D || innerV a P K D) := rfl
theorem rdB {K : List ByteArray} {i : Nat} (h : i < K.length) : rdOf ByteArray.empty K (i : Int) = K[i] := by unfold rdOf; rw [Int.toNat_natCast, List.getD_eq_getElem?_getD, List.getElem?_eq_getElem h]; rfl
theorem wsuc {i : Nat} (h : i < 9223372036854775807) : wrap64 ((i : Int) + 1) = ((i + 1 : Nat) : Int) := by unfold wrap64; omega
theorem same_l2 (a b : Bool) (P Q : List S48) (K L : List ByteArray) (D : List Int) (hD : D.length ≤ 9223372036854775807) : ∀ (n i k : Nat), i + n = D.length → n < k → cisternref11_Same.l2 k (i : Int) a P K D b Q L D = some true
  | 0, i, k + 1, hi, _ => by
    unfold cisternref11_Same.l2
    rw [if_neg (by omega)]
  | n + 1, i, k + 1, hi, hk => by
    unfold cisternref11_Same.l2
    rw [if_pos (by omega), if_pos (by omega), if_pos (by omega), if_pos rfl, wsuc (by omega)]
    exact same_l2 a b P Q K L D hD n (i + 1) k (by omega) (by omega)
theorem same_l1 (a b : Bool) (P Q : List S48) (K : List ByteArray) (D : List Int) (hK : K.length ≤ 9223372036854775807) (hD : D.length ≤ 9223372036854775807) : ∀ (n i k : Nat), i + n = K.length → n + D.length + 1 < k → cisternref11_Same.l1 k (i : Int) a P K D b Q K D = some true
  | 0, i, k + 1, hi, hk => by
    unfold cisternref11_Same.l1
    rw [if_neg (by omega)]
    exact same_l2 a b P Q K K D hD D.length 0 k (by omega) (by omega)
  | n + 1, i, k + 1, hi, hk => by
    unfold cisternref11_Same.l1
    rw [if_pos (by omega), if_pos (by omega), if_pos (by omega), if_pos rfl, wsuc (by omega)]
    exact same_l1 a b P Q K D hK hD n (i + 1) k (by omega) (by omega)
theorem same_l0 (a b : Bool) (P : List S48) (K : List ByteArray) (D : List Int) (hP : P.length ≤ 9223372036854775807) (hK : K.length ≤ 9223372036854775807) (hD : D.length ≤ 9223372036854775807) : ∀ (n i k : Nat), i + n = P.length → n + K.length + D.length + 2 < k → cisternref11_Same.l0 k (i : Int) a P K D b P K D = some true
  | 0, i, k + 1, hi, hk => by
    unfold cisternref11_Same.l0
    rw [if_neg (by omega)]
    exact same_l1 a b P P K D hK hD K.length 0 k (by omega) (by omega)
  | n + 1, i, k + 1, hi, hk => by
    unfold cisternref11_Same.l0
    rw [if_pos (by omega), if_pos (by omega), if_pos (by omega), beq_self_eq_true, beq_self_eq_true, if_neg (by decide), wsuc (by omega)]
    exact same_l0 a b P K D hP hK hD n (i + 1) k (by omega) (by omega)
theorem same_self (a : Bool) (P : List S48) (K : List ByteArray) (D : List Int) (hP : P.length ≤ 9223372036854775807) (hK : K.length ≤ 9223372036854775807) (hD : D.length ≤ 9223372036854775807) (k : Nat) (hk : P.length + K.length + D.length + 3 < k) : cisternref11_Same.f k a P K D a P K D = some true := by
  obtain ⟨k, rfl⟩ : ∃ m, k = m + 1 := ⟨k - 1, by omega⟩
  unfold cisternref11_Same.f
  rw [if_neg (by simp), if_pos rfl, if_pos rfl]
  have : ((D.length : Int) != (D.length : Int)) = false := by simp
  rw [this, cisternref11_Same.j0, if_neg (by decide)]
  exact same_l0 a a P K D hP hK hD P.length 0 k (by omega) (by omega)
/-- the keys up to a key, counted -/
def cntK (K : List ByteArray) (key : ByteArray) : Nat := K.countP fun x => !(Op.bytesLess key.toList x.toList)
def cntP (P : List S48) (key : ByteArray) : Nat := P.countP fun x => Op.bytesLess x.f0.toList key.toList
theorem dfind_l1 (key : ByteArray) (a : Bool) (P : List S48) (K : List ByteArray) (D : List Int) (hK : K.length ≤ 100000) : ∀ (n i c k : Nat), i + n = K.length → c + n ≤ 200000 → n < k → cisternref11_DocFind.l1 k key (c : Int) (i : Int) a P K D = some (((c + cntK (K.drop i) key : Nat) : Int), 0)
  | 0, i, c, k + 1, hi, hc, _ => by
    unfold cisternref11_DocFind.l1
    rw [if_neg (by omega), List.drop_eq_nil_of_le (by omega)]
    rfl
  | n + 1, i, c, k + 1, hi, hc, hk => by
    have hl : i < K.length := by omega
    unfold cisternref11_DocFind.l1
    have e : K.drop i = K[i] :: K.drop (i + 1) := List.drop_eq_getElem_cons hl
    rw [if_pos (by omega), if_pos (by omega), rdB hl, wsuc (i := i) (by omega), e]
    unfold cntK
    rw [List.countP_cons]
    by_cases hb : Op.bytesLess key.toList K[i].toList = true
    · rw [if_pos hb, dfind_l1 key a P K D hK n (i + 1) c k (by omega) (by omega) (by omega), hb]
      rfl
    · rw [if_neg hb]
      rw [Bool.not_eq_true] at hb
      rw [wsuc (i := c) (by omega), dfind_l1 key a P K D hK n (i + 1) (c + 1) k (by omega) (by omega) (by omega), hb]
      unfold cntK
      congr 3
      simp
      omega
theorem dfind_l0 (key : ByteArray) (a : Bool) (P : List S48) (K : List ByteArray) (D : List Int) (hP : P.length ≤ 100000) (hK : K.length ≤ 100000) : ∀ (n i c k : Nat), i + n = P.length → c + n ≤ 100000 → n + K.length + 1 < k → cisternref11_DocFind.l0 k key (c : Int) (i : Int) a P K D = some (((c + cntP (P.drop i) key + cntK K key : Nat) : Int), 0)
  | 0, i, c, k + 1, hi, hc, hk => by
    unfold cisternref11_DocFind.l0
    rw [if_neg (by omega), List.drop_eq_nil_of_le (by omega)]
    exact dfind_l1 key a P K D hK K.length 0 c k (by omega) (by omega) (by omega)
  | n + 1, i, c, k + 1, hi, hc, hk => by
    have hl : i < P.length := by omega
    unfold cisternref11_DocFind.l0
    have e : P.drop i = P[i] :: P.drop (i + 1) := List.drop_eq_getElem_cons hl
    rw [if_pos (by omega), if_pos (by omega), rd48 hl, wsuc (i := i) (by omega), e]
    unfold cntP
    rw [List.countP_cons]
    by_cases hb : Op.bytesLess P[i].f0.toList key.toList = true
    · rw [if_pos hb, wsuc (i := c) (by omega), dfind_l0 key a P K D hP hK n (i + 1) (c + 1) k (by omega) (by omega) (by omega), hb]
      unfold cntP
      congr 3
      simp
      omega
    · rw [if_neg hb]
      rw [Bool.not_eq_true] at hb
      rw [dfind_l0 key a P K D hP hK n (i + 1) c k (by omega) (by omega) (by omega), hb]
      rfl
theorem cntP_at {P : List S48} (h : Srt P) (key : ByteArray) : cntP P key = atP P key := by
  obtain ⟨h1, h2, h3⟩ := at_spec h key
  unfold cntP
  conv => lhs; rw [← List.take_append_drop (atP P key) P]
  rw [List.countP_append, List.countP_eq_length.2, List.countP_eq_zero.2, List.length_take]
  · omega
  · intro x hx
    obtain ⟨m, hm, rfl⟩ := List.getElem_of_mem hx
    rw [List.length_drop] at hm
    rw [List.getElem_drop]
    exact h3 _ (by omega) (by omega)
  · intro x hx
    exact (srt_parts h key).1 x hx
def mkP (k : ByteArray) : S48 := ⟨k, ⟨#[]⟩⟩
theorem srt_mk {K : List ByteArray} (h : risesB K = true) : Srt (K.map mkP) := by
  rw [← srt_iff, List.map_map]
  have : ((fun x : S48 => x.f0) ∘ mkP) = id := rfl
  rw [this, List.map_id]
  exact h
theorem cntK_at {K : List ByteArray} (h : risesB K = true) (key : ByteArray) : cntK K key = atP (K.map mkP) key + (if isP (K.map mkP) key = true then 1 else 0) := by
  have hs := srt_mk h
  have hlm : (K.map mkP).length = K.length := List.length_map _
  obtain ⟨h1, h2, h3⟩ := at_spec hs key
  obtain ⟨q1, q2, q3⟩ := srt_parts hs key
  have e : cntK K key = (K.map mkP).countP fun x => !(Op.bytesLess key.toList x.f0.toList) := by
    unfold cntK
    rw [List.countP_map]
    rfl
  rw [e]
  conv => lhs; rw [← List.take_append_drop (atP (K.map mkP) key) (K.map mkP)]
  rw [List.countP_append, List.countP_eq_length.2 (fun x hx => by have := kl_asymm (q1 x hx); unfold kl at this; simpa using this), List.length_take]
  by_cases hi : isP (K.map mkP) key = true
  · obtain ⟨hl, he⟩ := (is_spec hs key).1 hi
    rw [List.drop_eq_getElem_cons hl, List.countP_cons, List.countP_eq_zero.2 (fun x hx => by have := q3 hi x hx; unfold kl at this; simp [this]), he, bl_irrefl, if_pos hi]
    simp
    omega
  · rw [if_neg hi]
    rw [Bool.not_eq_true] at hi
    rw [List.countP_eq_zero.2 (fun x hx => by have := q2 hi x hx; unfold kl at this; simp [this])]
    omega
theorem less_val (a b : ByteArray) : cmp_Less_string.f a b = some (Op.bytesLess a.toList b.toList) := by
  unfold cmp_Less_string.f
  rw [isNaN_false]
  rfl
theorem isNaN2_false (a : ByteArray) : slices_isNaN_string.f a = some false := by
  unfold slices_isNaN_string.f
  simp
theorem bs_l0 (K : List ByteArray) (key : ByteArray) (hK : K.length ≤ 100000) : ∀ (d i j k : Nat), j - i ≤ d → i ≤ j → j ≤ K.length → d < k → slices_BinarySearch_string_string.l0 k K key (K.length : Int) (i : Int) (j : Int) = some (((srch (ltP (K.map mkP) key) i j : Nat) : Int), decide (srch (ltP (K.map mkP) key) i j < K.length) && (cmpV ((K.map mkP).getD (srch (ltP (K.map mkP) key) i j) z48).f0 key == 0)) := by
  intro d
  induction d with
  | zero =>
    intro i j k hd hij hj hk
    obtain ⟨k, rfl⟩ : ∃ m, k = m + 1 := ⟨k - 1, by omega⟩
    obtain rfl : i = j := by omega
    have es : srch (ltP (K.map mkP) key) i i = i := by unfold srch; rw [dif_neg (by omega)]
    rw [es]
    unfold slices_BinarySearch_string_string.l0
    rw [if_neg (by omega)]
    by_cases hl : i < K.length
    · have hg : (K.map mkP).getD i z48 = mkP K[i] := by rw [List.getD_eq_getElem?_getD, List.getElem?_map, List.getElem?_eq_getElem hl]; rfl
      rw [if_pos (by omega), if_pos (by omega), if_pos (by omega), rdB hl, hg, decide_eq_true hl, Bool.true_and]
      by_cases he : K[i] = key
      · rw [if_pos (by rw [he]), (cmp_zero (a := (mkP K[i]).f0) (b := key)).2 he]
      · rw [if_neg (fun e => he (toList_eq_iff.1 e)), isNaN2_false]
        have : (cmpV (mkP K[i]).f0 key == 0) = false := by
          rw [Bool.eq_false_iff]
          exact fun e => he (cmp_zero.1 e)
        rw [this]
        rfl
    · rw [if_neg (by omega), decide_eq_false hl, Bool.false_and]
  | succ d ih =>
    intro i j k hd hij hj hk
    obtain ⟨k, rfl⟩ : ∃ m, k = m + 1 := ⟨k - 1, by omega⟩
    by_cases hlt : i < j
    · have em : wrap64 ((IntKind.u64.wrap (wrap64 ((i : Int) + (j : Int)))) / 2) = (((i + j) / 2 : Nat) : Int) := u64_half i j (by omega) (by omega)
      have hm : (i + j) / 2 < K.length := by omega
      have hg : ltP (K.map mkP) key ((i + j) / 2) = Op.bytesLess K[(i + j) / 2].toList key.toList := by
        unfold ltP
        rw [List.getD_eq_getElem?_getD, List.getElem?_map, List.getElem?_eq_getElem hm]
        rfl
      unfold slices_BinarySearch_string_string.l0
      rw [if_pos (by omega), em, if_pos (by omega), if_pos (by omega), rdB hm, less_val, Option.bind_some, srch_step _ hlt, hg]
      cases Op.bytesLess K[(i + j) / 2].toList key.toList
      · rw [if_neg (by decide), if_neg (by decide)]
        exact ih i ((i + j) / 2) k (by omega) (by omega) (by omega) (by omega)
      · rw [if_pos rfl, if_pos rfl, wsuc (by omega)]
        exact ih ((i + j) / 2 + 1) j k (by omega) (by omega) hj (by omega)
    · exact ih i j (k + 1) (by omega) hij hj (by omega)
theorem bs_val (K : List ByteArray) (key : ByteArray) (hK : K.length ≤ 100000) (k : Nat) (hk : K.length < k) : slices_BinarySearch_string_string.f k K key = some (((atP (K.map mkP) key : Nat) : Int), isP (K.map mkP) key) := by
  unfold slices_BinarySearch_string_string.f
  have h := bs_l0 K key hK K.length 0 K.length k (by omega) (by omega) (by omega) hk
  have e : (K.map mkP).length = K.length := List.length_map _
  unfold isP atP
  rw [e]
  exact h
theorem find_both (a : Bool) (P : List S48) (K : List ByteArray) (D : List Int) (key : ByteArray) (k : Nat) (hk : 600 < k) : node_Find.f k a P K D key = cisternref11_DocFind.f k a P K D key ∧ ∃ x y, node_Find.f k a P K D key = some (x, y) := by
  unfold node_Find.f cisternref11_DocFind.f
  rw [check_val, right_val, Option.bind_some, Option.bind_some]
  by_cases hf : (leafV a P K D || innerV a P K D) = true
  · rw [if_pos hf, if_pos rfl, if_pos hf]
    rcases Bool.or_eq_true_iff.1 hf with h | h
    · obtain ⟨rfl, rfl, rfl, h1, h2, h3⟩ := leaf_parts h
      rw [if_pos rfl]
      have e := dfind_l0 key true P [] [] (by omega) (by decide) P.length 0 0 k (by omega) (by omega) (by simp; omega)
      rw [Int.ofNat_zero] at e
      rw [e, List.drop_zero, cntP_at h3]
      unfold node_pairAt.f
      rw [Option.bind_some]
      refine ⟨?_, _, _, rfl⟩
      congr 3
      show (atP P key : Int) = ((0 + atP P key + 0 : Nat) : Int)
      omega
    · obtain ⟨rfl, rfl, h1, h2, h3, h4, h5, h6⟩ := innerV_true h
      rw [if_neg (by decide)]
      have e := dfind_l0 key false [] K D (by decide) (by omega) 0 0 0 k rfl (by omega) (by omega)
      rw [Int.ofNat_zero] at e
      rw [e, bs_val K key (by omega) k (by omega), Option.bind_some, cntK_at h6]
      have hat := (at_spec (srt_mk h6) key).1
      rw [List.length_map] at hat
      by_cases hi : isP (K.map mkP) key = true
      · rw [if_pos hi, if_pos hi, wsuc (by omega)]
        refine ⟨?_, _, _, rfl⟩
        congr 3
        show atP (K.map mkP) key + 1 = 0 + 0 + (atP (K.map mkP) key + 1)
        omega
      · rw [if_neg hi, if_neg hi]
        refine ⟨?_, _, _, rfl⟩
        congr 3
        show ((atP (K.map mkP) key : Nat) : Int) = ((0 + 0 + (atP (K.map mkP) key + 0) : Nat) : Int)
        omega
  · rw [if_neg hf, if_neg (by decide), if_neg hf]
    exact ⟨rfl, _, _, rfl⟩
theorem without_l0 (P : List S48) (key : ByteArray) (hP : P.length ≤ 100000) : ∀ (n i k : Nat) (o : List S48), i + n = P.length → o.length ≤ i → n < k → cisternref11_without.l0 k P key o (i : Int) = some (o ++ woP (P.drop i) key)
  | 0, i, k + 1, o, hi, ho, _ => by
    unfold cisternref11_without.l0
    rw [if_neg (by omega), List.drop_eq_nil_of_le (by omega)]
    simp [woP]
  | n + 1, i, k + 1, o, hi, ho, hk => by
    have hl : i < P.length := by omega
    unfold cisternref11_without.l0
    have e : P.drop i = P[i] :: P.drop (i + 1) := List.drop_eq_getElem_cons hl
    rw [if_pos (by omega), if_pos (by omega), rd48 hl, wsuc (by omega), e]
    by_cases hb : P[i].f0 = key
    · rw [if_pos (by rw [hb]), without_l0 P key hP n (i + 1) k o (by omega) (by omega) (by omega)]
      congr 2
      unfold woP
      rw [List.filter_cons]
      simp [hb]
    · rw [if_neg (fun e => hb (toList_eq_iff.1 e)), if_pos (by omega), without_l0 P key hP n (i + 1) k _ (by omega) (by simp; omega) (by omega)]
      congr 1
      unfold woP
      rw [List.filter_cons]
      simp [hb]
theorem without_val (P : List S48) (key : ByteArray) (hP : P.length ≤ 100000) (k : Nat) (hk : P.length < k) : cisternref11_without.f k P key = some (woP P key) := by
  unfold cisternref11_without.f
  exact without_l0 P key hP P.length 0 k [] (by omega) (by decide) (by omega)
theorem drop_both (a : Bool) (P : List S48) (K : List ByteArray) (D : List Int) (key : ByteArray) (k : Nat) (hk : 600 < k) : cisternref11_DocDrop.f k a P K D key = some (node_Drop.v a P K D key) := by
  obtain ⟨k, rfl⟩ : ∃ m, k = m + 1 := ⟨k - 1, by omega⟩
  unfold cisternref11_DocDrop.f
  rw [right_val, Option.bind_some]
  have hj : ∀ (b : Bool), cisternref11_DocDrop.j0 (k + 1) key true b P K D = some (false, [], [], [], 2) := fun b => by
    rw [cisternref11_DocDrop.j0, if_pos rfl]
  by_cases hl : leafV a P K D = true
  · obtain ⟨rfl, rfl, rfl, h1, h2, h3⟩ := leaf_parts hl
    rw [if_pos (by rw [hl]; rfl), drop_val hl]
    show cisternref11_DocDrop.j0 (k + 1) key false true P [] [] = _
    rw [cisternref11_DocDrop.j0, if_neg (by decide), without_val P key (by omega) k (by omega), Option.bind_some]
    by_cases hi : isP P key = true
    · rw [if_pos hi]
      obtain ⟨hlt, _⟩ := (is_spec h3 key).1 hi
      have : (woP P key).length < P.length := by rw [← erase_wo h3 hi, List.length_eraseIdx_of_lt hlt]; omega
      rw [if_neg (by omega)]
    · rw [if_neg hi]
      rw [Bool.not_eq_true] at hi
      rw [wo_none (not_is h3 hi), if_pos rfl]
  · have hv : node_Drop.v a P K D key = (false, [], [], [], 2) := by unfold node_Drop.v; rw [if_neg hl]
    rw [hv]
    by_cases hf : (leafV a P K D || innerV a P K D) = true
    · rw [if_pos hf]
      rcases Bool.or_eq_true_iff.1 hf with h | h
      · exact absurd h hl
      · obtain ⟨rfl, _⟩ := innerV_true h
        exact hj false
    · rw [if_neg hf]
      exact hj a
end
end Go.Proofs.Ytjjfeoigjhbbpaa.PA
namespace Go.Proofs.Ytjjfeoigjhbbpaa.PA
section

open Go.RowKit Go.Proofs.YtjjfeoigjhbbpaaW.PrintWords Go.Proofs.YtjjfeoigjhbbpaaW.PrintLast Go.Proofs.YtjjfeoigjhbbpaaW.PrintMore
attribute [local go_sem] pr_leq pr_geq pr_gtr max2_int min2_int max_two min_two max_three min_three max_four min_four
set_option linter.unusedVariables false
set_option linter.unusedSimpArgs false
theorem dput_l0 (A B : List S48) (k v : ByteArray) (hA : ∀ x ∈ A, kl x.f0 k) (hB : ∀ h : 0 < B.length, ¬ kl B[0].f0 k) (hl : A.length + B.length ≤ 100000) : ∀ (n i f : Nat), i + n = A.length → n < f → cisternref11_DocPut.l0 f (A ++ B) (A.take i) (i : Int) k v = some (if A.length + B.length + 1 > 255 then (false, [], [], [], 2) else (true, A ++ (⟨k, v⟩ : S48) :: B, [], [], 0))
  | 0, i, f + 1, hi, hf => by
    have eA : A.take i = A := List.take_of_length_le (by omega)
    have ed : (A ++ B).drop i = B := List.drop_left' (by omega)
    have elen : (A ++ B).length = A.length + B.length := List.length_append
    have ey : A ++ [(⟨k, v⟩ : S48)] ++ B = A ++ (⟨k, v⟩ : S48) :: B := by rw [List.append_assoc]; rfl
    have e2 : (A ++ (⟨k, v⟩ : S48) :: B).length = A.length + B.length + 1 := by rw [List.length_append, List.length_cons]; omega
    have e1 : (A ++ [(⟨k, v⟩ : S48)]).length = A.length + 1 := by rw [List.length_append]; rfl
    unfold cisternref11_DocPut.l0
    rw [eA]
    have tail : (if A.length < 4398046511104 then ((some (A ++ [(⟨k, v⟩ : S48)] : List (S48))).bind fun y556 => (if (i : Int) ≤ ((A ++ B).length : Int) then ((some ((A ++ B).drop (i : Int).toNat : List (S48))).bind fun y559 => (if y556.length + y559.length < 4398046511104 then ((some (y556 ++ y559 : List (S48))).bind fun y563 => (if (y563.length : Int) > 255 then (some (false, ([] : List (S48)), ([] : List ByteArray), ([] : List Int), (2 : Int))) else (some (true, y563, ([] : List ByteArray), ([] : List Int), 0)))) else (none))) else (none))) else (none)) = some (if A.length + B.length + 1 > 255 then (false, [], [], [], 2) else (true, A ++ (⟨k, v⟩ : S48) :: B, [], [], 0)) := by
      rw [if_pos (by omega), Option.bind_some, if_pos (by omega), Option.bind_some, Int.toNat_natCast, ed, if_pos (by omega), Option.bind_some, ey, e2]
      by_cases h : A.length + B.length + 1 > 255
      · rw [if_pos (by omega), if_pos h]
      · rw [if_neg (by omega), if_neg h]
    by_cases hb : i < (A ++ B).length
    · have h0 : 0 < B.length := by omega
      have eg : rd_T48 (A ++ B) (i : Int) = B[0] := by
        rw [rd48 hb, List.getElem_append_right (by omega)]
        congr 1
        omega
      rw [if_pos (by omega), if_pos (by omega), eg, if_neg (show ¬ (Op.bytesLess B[0].f0.toList k.toList = true) from hB h0)]
      exact tail
    · rw [if_neg (by omega)]
      rw [if_pos (by omega), Option.bind_some, if_pos (by omega), if_pos (by omega), Option.bind_some, Int.toNat_natCast, ed, if_pos (by omega), Option.bind_some, ey, e2]
      by_cases h : A.length + B.length + 1 > 255
      · rw [if_pos (by omega), if_pos h]
      · rw [if_neg (by omega), if_neg h]
  | n + 1, i, f + 1, hi, hf => by
    have hl' : i < A.length := by omega
    have hb : i < (A ++ B).length := by rw [List.length_append]; omega
    have eg : rd_T48 (A ++ B) (i : Int) = A[i] := by rw [rd48 hb, List.getElem_append_left hl']
    unfold cisternref11_DocPut.l0
    rw [if_pos (by omega), if_pos (by omega), eg, if_pos (show Op.bytesLess A[i].f0.toList k.toList = true from hA _ (List.getElem_mem hl')), if_pos (by rw [List.length_take]; omega), wsuc (by omega)]
    have e : A.take i ++ [(⟨A[i].f0, A[i].f1⟩ : S48)] = A.take (i + 1) := by rw [List.take_succ_eq_append_getElem hl']
    rw [e]
    exact dput_l0 A B k v hA hB hl n (i + 1) f (by omega) (by omega)
theorem put_both (a : Bool) (P : List S48) (K : List ByteArray) (D : List Int) (key v : ByteArray) (k : Nat) (hk : 600 < k) : cisternref11_DocPut.f k a P K D key v = some (node_Put.v a P K D key v) := by
  obtain ⟨k, rfl⟩ : ∃ m, k = m + 1 := ⟨k - 1, by omega⟩
  unfold cisternref11_DocPut.f
  rw [right_val, Option.bind_some]
  have hj : ∀ (b : Bool), cisternref11_DocPut.j0 (k + 1) true b P K D key v = some (false, [], [], [], 2) := fun b => by
    rw [cisternref11_DocPut.j0, if_pos rfl]
  by_cases hl : leafV a P K D = true
  · obtain ⟨rfl, rfl, rfl, h1, h2, h3⟩ := leaf_parts hl
    rw [if_pos (by rw [hl]; rfl), if_pos rfl, key_val, Option.bind_some]
    by_cases hb : keyB key = true ∧ v.size ≤ 48
    · rw [if_pos hb.1, decide_eq_false (by have := hb.2; omega : ¬ ((v.size : Int) > 48)), cisternref11_DocPut.j0, if_neg (by decide), without_val P key (by omega) k (by omega), Option.bind_some]
      unfold node_Put.v
      rw [if_pos ⟨hl, hb⟩]
      obtain ⟨q1, q2, q3⟩ := srt_parts h3 key
      have hat := (at_spec h3 key).1
      have htl : (P.take (atP P key)).length = atP P key := by rw [List.length_take]; omega
      by_cases hi : isP P key = true
      · obtain ⟨hlt, _⟩ := (is_spec h3 key).1 hi
        have ew : woP P key = P.take (atP P key) ++ P.drop (atP P key + 1) := by rw [← erase_wo h3 hi, List.eraseIdx_eq_take_drop_succ]
        have hdl : (P.drop (atP P key + 1)).length = P.length - (atP P key + 1) := List.length_drop
        have h := dput_l0 (P.take (atP P key)) (P.drop (atP P key + 1)) key v q1 (fun h0 hkl => kl_asymm (q3 hi _ (List.getElem_mem h0)) hkl) (by omega) (atP P key) 0 k (by omega) (by omega)
        rw [List.take_zero, Int.ofNat_zero] at h
        rw [ew, h, if_pos hi, if_neg (by omega), List.set_eq_take_append_cons_drop, if_pos hlt]
      · rw [if_neg hi]
        rw [Bool.not_eq_true] at hi
        have ew : woP P key = P.take (atP P key) ++ P.drop (atP P key) := by rw [wo_none (not_is h3 hi), List.take_append_drop]
        have hdl : (P.drop (atP P key)).length = P.length - atP P key := List.length_drop
        have h := dput_l0 (P.take (atP P key)) (P.drop (atP P key)) key v q1 (fun h0 hkl => kl_asymm (q2 hi _ (List.getElem_mem h0)) hkl) (by omega) (atP P key) 0 k (by omega) (by omega)
        rw [List.take_zero, Int.ofNat_zero] at h
        rw [ew, h]
        by_cases h255 : P.length = 255
        · rw [if_pos h255, if_pos (by omega)]
        · rw [if_neg h255, if_neg (by omega)]
    · rw [put_bad hb]
      by_cases hk2 : keyB key = true
      · rw [if_pos hk2, decide_eq_true (by have : ¬ v.size ≤ 48 := fun x => hb ⟨hk2, x⟩; omega : (v.size : Int) > 48)]
        exact hj true
      · rw [if_neg hk2]
        exact hj true
  · have hv : node_Put.v a P K D key v = (false, [], [], [], 2) := by unfold node_Put.v; rw [if_neg (fun h => hl h.1)]
    rw [hv]
    by_cases hf : (leafV a P K D || innerV a P K D) = true
    · rw [if_pos hf]
      rcases Bool.or_eq_true_iff.1 hf with h | h
      · exact absurd h hl
      · obtain ⟨rfl, _⟩ := innerV_true h
        exact hj false
    · rw [if_neg hf]
      exact hj a
theorem put_len (a : Bool) (P : List S48) (K : List ByteArray) (D : List Int) (key v : ByteArray) : (node_Put.v a P K D key v).2.1.length ≤ 255 ∧ (node_Put.v a P K D key v).2.2.1 = [] ∧ (node_Put.v a P K D key v).2.2.2.1 = [] := by
  rcases put_val a P K D key v with h | ⟨_, _, _, h, hm⟩
  · rw [h]; exact ⟨by decide, rfl, rfl⟩
  · rw [h]; exact ⟨(leaf_parts hm).2.2.2.1, rfl, rfl⟩
theorem drop_len (a : Bool) (P : List S48) (K : List ByteArray) (D : List Int) (key : ByteArray) : (node_Drop.v a P K D key).2.1.length ≤ 255 ∧ (node_Drop.v a P K D key).2.2.1 = [] ∧ (node_Drop.v a P K D key).2.2.2.1 = [] := by
  unfold node_Drop.v
  split
  · rename_i hl
    have h1 := (leaf_parts hl).2.2.2.1
    split
    · exact ⟨Nat.le_trans (List.length_eraseIdx_le _ _) h1, rfl, rfl⟩
    · exact ⟨by decide, rfl, rfl⟩
  · exact ⟨by decide, rfl, rfl⟩
end
end Go.Proofs.Ytjjfeoigjhbbpaa.PA
namespace Go.Proofs.Ytjjfeoigjhbbpaa.PA
section

open Go.RowKit Go.Proofs.YtjjfeoigjhbbpaaW.PrintWords Go.Proofs.YtjjfeoigjhbbpaaW.PrintLast Go.Proofs.YtjjfeoigjhbbpaaW.PrintMore
attribute [local go_sem] pr_leq pr_geq pr_gtr max2_int min2_int max_two min_two max_three min_three max_four min_four
set_option linter.unusedVariables false
set_option linter.unusedSimpArgs false
set_option maxHeartbeats 4000000 in
set_option maxRecDepth 100000 in
theorem backW (a : Bool) (A1 : Option Addr) (n1 c1 : Nat) (A2 : Option Addr) (n2 c2 : Nat) (A3 : Option Addr) (n3 c3 : Nat) (w : World) : Calls Try.prog 20 #[.agg #[.bool a, .slice A1 n1 c1, .slice A2 n2 c2, .slice A3 n3 c3]] w fun e w' => e = .returned (.agg #[.bool a, .slice A1 n1 c1, .slice A2 n2 c2, .slice A3 n3 c3]) ∧ Below w.heap.size w w' := by
  obtain ⟨wy, hwy⟩ : ∃ wy, wy = w.alloc (.cells #[.bool a, .slice A1 n1 c1, .slice A2 n2 c2, .slice A3 n3 c3] 31) := ⟨_, rfl⟩
  obtain ⟨wx, hwx⟩ : ∃ wx, wx = wy.alloc (.cells #[.bool false, .slice none 0 0, .slice none 0 0, .slice none 0 0] 26) := ⟨_, rfl⟩
  have ny : wy.heap.size = w.heap.size + 1 := by rw [hwy]; simp
  have b0y := heap_alloc_new w (.cells #[.bool a, .slice A1 n1 c1, .slice A2 n2 c2, .slice A3 n3 c3] 31)
  have bel := below_alloc (Below.refl w.heap.size w) (.cells #[.bool a, .slice A1 n1 c1, .slice A2 n2 c2, .slice A3 n3 c3] 31)
  rw [← hwy] at b0y bel
  have bx := (Lib.alloc_old wy (.cells #[.bool false, .slice none 0 0, .slice none 0 0, .slice none 0 0] 26) w.heap.size (blk_lt b0y)).trans b0y
  have tx := heap_alloc_new wy (.cells #[.bool false, .slice none 0 0, .slice none 0 0, .slice none 0 0] 26)
  rw [← hwx] at bx tx
  rw [ny] at tx
  have BXX : Aside0 (Below w.heap.size w wx) := ⟨by rw [hwx]; exact below_alloc bel _⟩
  have HWX : Aside0 (wx = (w.alloc (.cells #[.bool a, .slice A1 n1 c1, .slice A2 n2 c2, .slice A3 n3 c3] 31)).alloc (.cells #[.bool false, .slice none 0 0, .slice none 0 0, .slice none 0 0] 26)) := ⟨by rw [hwx, hwy]⟩
  have b0 : wx.cell? ⟨w.heap.size, 0, none⟩ = some (.bool a) := blk_cell bx 0
  have b1 : wx.cell? ⟨w.heap.size, 1, none⟩ = some (.slice A1 n1 c1) := blk_cell bx 1
  have b2 : wx.cell? ⟨w.heap.size, 2, none⟩ = some (.slice A2 n2 c2) := blk_cell bx 2
  have b3 : wx.cell? ⟨w.heap.size, 3, none⟩ = some (.slice A3 n3 c3) := blk_cell bx 3
  have c0' : wx.cell? ⟨w.heap.size + 1, 0, none⟩ = some (.bool false) := blk_cell tx 0
  have c1' : wx.cell? ⟨w.heap.size + 1, 1, none⟩ = some (.slice none 0 0) := blk_cell tx 1
  have c2' : wx.cell? ⟨w.heap.size + 1, 2, none⟩ = some (.slice none 0 0) := blk_cell tx 2
  have c3' : wx.cell? ⟨w.heap.size + 1, 3, none⟩ = some (.slice none 0 0) := blk_cell tx 3
  have f0 : wx.frozen? ⟨w.heap.size + 1, 0, none⟩ = false := blk_frozen tx 0
  have f1 : wx.frozen? ⟨w.heap.size + 1, 1, none⟩ = false := blk_frozen tx 1
  have f2 : wx.frozen? ⟨w.heap.size + 1, 2, none⟩ = false := blk_frozen tx 2
  have f3 : wx.frozen? ⟨w.heap.size + 1, 3, none⟩ = false := blk_frozen tx 3
  have t7 := nd_put4 wx (w.heap.size + 1) 26 _ _ _ _ (.bool a) (.slice A1 n1 c1) (.slice A2 n2 c2) (.slice A3 n3 c3) tx
  have hg4 := nd_grown4 wx (w.heap.size + 1) (.bool a) (.slice A1 n1 c1) (.slice A2 n2 c2) (.slice A3 n3 c3)
  have T7 := Aside0.mk t7
  have B7 := Aside0.mk (nd_grown_below hg4 BXX.out BXX.out.size (by omega))
  clear hwx hwy ny b0y bel bx tx t7 hg4
  rw [HWX.out] at b0 b1 b2 b3 c0' c1' c2' c3' f0 f1 f2 f3
  go_enter Try.func20, Try.ntmps20
  go_wp2
  refine bodyPost_ret (results_cell_row rfl _ _ (w.heap.size + 1) 26 #[.bool a, .slice A1 n1 c1, .slice A2 n2 c2, .slice A3 n3 c3] (0, 0) _ rfl (by have h := heap_alloc_new (w.alloc (.cells #[.bool a, .slice A1 n1 c1, .slice A2 n2 c2, .slice A3 n3 c3] 31)) (.cells #[.bool a, .slice A1 n1 c1, .slice A2 n2 c2, .slice A3 n3 c3] 26); rw [show (w.alloc (.cells #[.bool a, .slice A1 n1 c1, .slice A2 n2 c2, .slice A3 n3 c3] 31)).heap.size = w.heap.size + 1 by simp] at h; exact h) Try.underlying26 rfl (by kernel_rfl)) rfl ?_
  exact ⟨rfl, below_alloc (below_alloc (Below.refl w.heap.size w) _) _⟩
end
end Go.Proofs.Ytjjfeoigjhbbpaa.PA
namespace Go.Proofs.Ytjjfeoigjhbbpaa.PA
section

open Go.RowKit Go.Proofs.YtjjfeoigjhbbpaaW.PrintWords Go.Proofs.YtjjfeoigjhbbpaaW.PrintLast Go.Proofs.YtjjfeoigjhbbpaaW.PrintMore
attribute [local go_sem] pr_leq pr_geq pr_gtr max2_int min2_int max_two min_two max_three min_three max_four min_four
set_option linter.unusedVariables false
set_option linter.unusedSimpArgs false
section
open Go.ChangeShapes Go.WideShapes Go.Deep
variable {H : Type} {enc : TypeId × Value → H} {P : Program} {w : World} {base : Nat} {spare : Nat → Bool} {held : Bool}
theorem ra_addr (a : Addr) (m i : Nat) : (a.add m).add i = a.add (m + i) := Go.Deep.add_add a m i
theorem open_rows {α : Type} [Inhabited α] (k : Kd α) (Wf : α → Prop) {t e : TypeId} {fuel : Nat} {A : Option Addr} {len cap : Nat} {x : DataW H × List MemPlace} (ht : P.underlying t = some (.slice e)) (hce : P.cellsOf e = k.sz)
    (He : ∀ n cs y, DataW.trod enc P w base spare held n e cs = some y → ∃ v, k.K w v cs ∧ Wf v)
    (h : DataW.trod enc P w base spare held fuel t [.slice A len cap] = some x) : ∃ l : List α, l.length = len ∧ k.C w A len l ∧ len ≤ cap ∧ ∀ v ∈ l, Wf v := by
  rcases open_slice ht h with ⟨hcs, _⟩ | ⟨a, l, c, m, n, D, Pl, hcs, _, hl, hm, hmm, _, hx⟩
  · simp at hcs
    obtain ⟨rfl, rfl, rfl⟩ := hcs
    exact ⟨[], rfl, ⟨rfl, by omega, fun h0 => absurd h0 (by omega)⟩, Nat.le_refl _, by simp⟩
  · simp at hcs
    obtain ⟨rfl, rfl, rfl⟩ := hcs
    have hlm : len ≤ m := by rw [hmm]; split <;> omega
    obtain ⟨f, hf⟩ := choose_lt (α := α) (n := len) (p := fun i v => ∃ cs, w.cells? base (a.add (i * k.sz)) k.sz = some cs ∧ k.K w v cs ∧ Wf v) (fun i hi => by
      obtain ⟨cs', h1, h2⟩ := hx i (by omega)
      rw [hce] at h1
      obtain ⟨v, h3, h4⟩ := He _ _ _ h2
      exact ⟨v, cs', h1, h3, h4⟩)
    refine ⟨(List.range len).map f, by simp, ⟨by simp, by simp only [maxLen] at hm; omega, fun _ => ⟨a, rfl, fun j p hj => ?_⟩⟩, hl, fun v hv => ?_⟩
    · have hjl : j < len := by
        rcases Nat.lt_or_ge j len with h' | h'
        · exact h'
        · rw [List.getElem?_eq_none (by simpa using h')] at hj; cases hj
      simp [hjl] at hj
      subst hj
      obtain ⟨cs, h1, h2, _⟩ := hf j hjl
      obtain ⟨_, h3, h4⟩ := World.cells?_some h1
      refine ⟨cs, h3, h2, fun i u hu => ?_⟩
      have hi : i < k.sz := by rw [← h3]; exact (List.getElem?_eq_some_iff.1 hu).1
      rw [← ra_addr, h4 i hi, hu]
    · simp only [List.mem_map, List.mem_range] at hv
      obtain ⟨j, hj, rfl⟩ := hv
      exact (hf j hj).choose_spec.2.2
end
section
open Go.ChangeShapes Go.WideShapes Go.Deep
variable {H : Type} {enc : TypeId × Value → H} {P : Program} {w : World} {base : Nat} {spare : Nat → Bool} {held : Bool}
theorem struct_rows_sized {ts : List TypeId} {ds : List (DataW H)} {ps : List MemPlace} {d : DataW H} {j i off : Nat} {t ft e : TypeId} {fs : Array Field} {f : Field} {cs : List Value} {v : Value} {A : Option Addr} {len cap : Nat}
    (hsz : (DataW.weightsEach P ts ds).all (· ≤ reachBytes) = true) (htj : ts[j]? = some t) (hdj : ds[j]? = some d) (ht : P.underlying t = some (.struct fs)) (hf : fs[i]? = some f) (hft : f.type = ft) (ho : f.offset = off) (hfe : P.underlying ft = some (.slice e)) (hco : P.cellsOf ft = 1) {B : Nat} (hB : P.bytesOf e = B)
    (h : DataW.Trod enc P w base spare held t v d ps) (hv : v.cells.toList = cs) (hc : cs[off]? = some (.slice A len cap)) : len * B ≤ 140737488351232 := by
  subst hv; subst hft; subst ho
  obtain ⟨fuel, hx⟩ := h
  obtain ⟨xs, n, _, he, _, hl, hh⟩ := DataW.trod_struct ht hx
  have hi := hh i f hf
  have hlt : i < xs.length := by rw [hl]; exact (Array.getElem?_eq_some_iff.1 hf).1
  rw [List.getElem?_eq_getElem hlt, hco] at hi
  have h1 : (v.cells.toList.drop f.offset).take 1 = [.slice A len cap] := by
    obtain ⟨hlo, hco'⟩ := List.getElem?_eq_some_iff.1 hc
    rw [List.drop_eq_getElem_cons hlo, hco']
    rfl
  rw [h1] at hi
  rcases open_slice hfe hi with ⟨hcs, _⟩ | ⟨a, l, c, m, n, D, Pl, hcs, _, hl', hm, hmm, hx', _⟩
  · simp at hcs
    obtain ⟨rfl, rfl, rfl⟩ := hcs
    simp
  · simp at hcs
    obtain ⟨rfl, rfl, rfl⟩ := hcs
    have hd : d = .agg (xs.map (·.1)) := by injection he
    have hmem : (len + (m - len)) * P.bytesOf e ∈ DataW.weightsEach P ts ds := by
      refine DataW.weights_mem_each htj hdj _ ?_
      rw [hd]
      simp only [DataW.weights, ht]
      refine DataW.weights_mem_each (j := i) (t := f.type) (d := xs[i].1) ?_ ?_ _ ?_
      · rw [List.getElem?_map, Array.getElem?_toList, hf]
        rfl
      · rw [List.getElem?_map, List.getElem?_eq_getElem hlt]
        rfl
      · rw [hx']
        simp [DataW.weights, hfe]
    have z := List.all_eq_true.1 hsz _ hmem
    rw [hB] at z
    have z' : (len + (m - len)) * B ≤ reachBytes := by simpa using z
    have h3 : len ≤ len + (m - len) := by omega
    exact Nat.le_trans (Nat.mul_le_mul_right _ h3) z'
end
end
end Go.Proofs.Ytjjfeoigjhbbpaa.PA
namespace Go.Proofs.Ytjjfeoigjhbbpaa.PA
section

open Go.RowKit Go.Proofs.YtjjfeoigjhbbpaaW.PrintWords Go.Proofs.YtjjfeoigjhbbpaaW.PrintLast Go.Proofs.YtjjfeoigjhbbpaaW.PrintMore
attribute [local go_sem] pr_leq pr_geq pr_gtr max2_int min2_int max_two min_two max_three min_three max_four min_four
set_option linter.unusedVariables false
set_option linter.unusedSimpArgs false
theorem of_val (a : Bool) (P : List S48) (K : List ByteArray) (D : List Int) (h1 : P.length * 32 ≤ 140737488351232) (h2 : K.length * 16 ≤ 140737488351232) (h3 : D.length * 8 ≤ 140737488351232) : cisternlaw11_of.f a P K D = some (a, P, K, D) := by
  unfold cisternlaw11_of.f
  rw [if_pos ⟨by omega, by omega, by omega⟩]
theorem known_enc : node_Encode.f true [(⟨⟨#[97]⟩, ⟨#[49]⟩⟩ : S48)] [] [] = some (⟨#[1, 1, 1, 97, 1, 49]⟩, 0) := by
  have e0 : keyB ⟨#[97]⟩ = true := by
    unfold keyB
    rw [nd_toList]
    rfl
  have e1 : leafV true [(⟨⟨#[97]⟩, ⟨#[49]⟩⟩ : S48)] [] [] = true := by
    unfold leafV badP
    simp only [List.any_cons, List.any_nil, e0]
    rfl
  unfold node_Encode.f
  rw [e1]
  rfl
theorem known_val : cisternlaw11_known.f = some true := by
  unfold cisternlaw11_known.f
  rw [known_enc, Option.bind_some, if_pos rfl, nd_toList]
  rfl
end
end Go.Proofs.Ytjjfeoigjhbbpaa.PA
namespace Go.Proofs.Ytjjfeoigjhbbpaa.PA
section

open Go.RowKit Go.Proofs.YtjjfeoigjhbbpaaW.PrintWords Go.Proofs.YtjjfeoigjhbbpaaW.PrintLast Go.Proofs.YtjjfeoigjhbbpaaW.PrintMore
attribute [local go_sem] pr_leq pr_geq pr_gtr max2_int min2_int max_two min_two max_three min_three max_four min_four
set_option linter.unusedVariables false
set_option linter.unusedSimpArgs false
set_option maxHeartbeats 4000000 in
set_option maxRecDepth 100000 in
theorem cisternlaw11_NodeEdits.walk (a : Bool) (A1 : Option Addr) (c1 : Nat) (l1 : List S48) (A2 : Option Addr) (c2 : Nat) (l2 : List ByteArray) (A3 : Option Addr) (c3 : Nat) (l3 : List Int) (key val : ByteArray) (w : World)
    (_wa0 : True ∧ (∀ x_ ∈ l1, (x_.f0.size ≤ maxLen) ∧ (x_.f1.size ≤ maxLen)) ∧ (∀ x_ ∈ l2, x_.size ≤ maxLen) ∧ (∀ x_ ∈ l3, (Lit.int .i64 x_).wf = true)) (hr1 : Kd.C k48 w A1 l1.length l1) (hc1 : l1.length ≤ c1) (y1 : l1.length * 32 ≤ 140737488351232) (hr2 : Kd.C Kd.string w A2 l2.length l2) (hc2 : l2.length ≤ c2) (y2 : l2.length * 16 ≤ 140737488351232) (hr3 : Kd.C (Kd.int .i64) w A3 l3.length l3) (hc3 : l3.length ≤ c3) (y3 : l3.length * 8 ≤ 140737488351232) (_wk : key.size ≤ 140737488351232) (_wv : val.size ≤ 140737488351232) :
    Calls Try.prog 9 #[.agg #[.bool a, .slice A1 l1.length c1, .slice A2 l2.length c2, .slice A3 l3.length c3], .string key, .string val] w fun e w' => e = .returned (.bool true) ∧ Below w.heap.size w w' := by
  obtain ⟨KK, hK⟩ : ∃ K : Nat, K = 2000 := ⟨_, rfl⟩
  obtain ⟨ef, x, y, hxy⟩ := find_both a l1 l2 l3 key KK (by omega)
  have FF := Aside0.mk hxy
  have DF : Aside0 (cisternref11_DocFind.f KK a l1 l2 l3 key = some (x, y)) := ⟨by rw [← ef]; exact hxy⟩
  clear ef hxy
  have OF : Aside0 (cisternlaw11_of.f a l1 l2 l3 = some (a, l1, l2, l3)) := ⟨of_val a l1 l2 l3 y1 y2 y3⟩
  have hp := put_both a l1 l2 l3 key val KK (by omega)
  obtain ⟨z1, z2, z3⟩ := put_len a l1 l2 l3 key val
  obtain ⟨p0, p1, p2, p3, p4, hpv⟩ : ∃ p0 p1 p2 p3 p4, node_Put.v a l1 l2 l3 key val = (p0, p1, p2, p3, p4) := ⟨_, _, _, _, _, rfl⟩
  rw [hpv] at hp z1 z2 z3
  have DP := Aside0.mk hp
  have PP : Aside0 (node_Put.f a l1 l2 l3 key val = some (p0, p1, p2, p3, p4)) := ⟨by unfold node_Put.f; rw [hpv]⟩
  have SP : Aside0 (cisternref11_Same.f KK p0 p1 p2 p3 p0 p1 p2 p3 = some true) := ⟨same_self p0 p1 p2 p3 (by have : p1.length ≤ 255 := z1; omega) (by have : p2 = [] := z2; rw [this]; decide) (by have : p3 = [] := z3; rw [this]; decide) KK (by have h1 : p1.length ≤ 255 := z1; have h2 : p2 = [] := z2; have h3 : p3 = [] := z3; rw [h2, h3]; simp; omega)⟩
  clear hp z1 z2 z3 hpv
  have hd := drop_both a l1 l2 l3 key KK (by omega)
  obtain ⟨z1, z2, z3⟩ := drop_len a l1 l2 l3 key
  obtain ⟨d0, d1, d2, d3, d4, hdv⟩ : ∃ p0 p1 p2 p3 p4, node_Drop.v a l1 l2 l3 key = (p0, p1, p2, p3, p4) := ⟨_, _, _, _, _, rfl⟩
  rw [hdv] at hd z1 z2 z3
  have DD := Aside0.mk hd
  have QQ : Aside0 (node_Drop.f a l1 l2 l3 key = some (d0, d1, d2, d3, d4)) := ⟨by unfold node_Drop.f; rw [hdv]⟩
  have SD : Aside0 (cisternref11_Same.f KK d0 d1 d2 d3 d0 d1 d2 d3 = some true) := ⟨same_self d0 d1 d2 d3 (by have : d1.length ≤ 255 := z1; omega) (by have : d2 = [] := z2; rw [this]; decide) (by have : d3 = [] := z3; rw [this]; decide) KK (by have h1 : d1.length ≤ 255 := z1; have h2 : d2 = [] := z2; have h3 : d3 = [] := z3; rw [h2, h3]; simp; omega)⟩
  clear hd z1 z2 z3 hdv hK
  have R1 := Aside0.mk hr1
  have R2 := Aside0.mk hr2
  have R3 := Aside0.mk hr3
  have hr1k := Aside0.mk hr1
  have hr2k := Aside0.mk hr2
  have hr3k := Aside0.mk hr3
  clear hr1 hr2 hr3 y1 y2 y3 _wa0 _wk _wv
  have bx := heap_alloc_new w (.cells #[.bool a, .slice A1 l1.length c1, .slice A2 l2.length c2, .slice A3 l3.length c3] 26)
  have BA := below_alloc (Below.refl w.heap.size w) (.cells #[.bool a, .slice A1 l1.length c1, .slice A2 l2.length c2, .slice A3 l3.length c3] 26)
  obtain ⟨w0, hw0⟩ : ∃ w0, w0 = w.alloc (.cells #[.bool a, .slice A1 l1.length c1, .slice A2 l2.length c2, .slice A3 l3.length c3] 26) := ⟨_, rfl⟩
  have HW0 := Aside0.mk hw0
  have S0 : Aside0 (w0.heap.size = w.heap.size + 1) := ⟨by rw [hw0]; simp⟩
  rw [← hw0] at bx BA
  have B0 := Aside0.mk BA
  clear hw0 BA
  have b0 : w0.cell? ⟨w.heap.size, 0, none⟩ = some (.bool a) := blk_cell bx 0
  have b1 : w0.cell? ⟨w.heap.size, 1, none⟩ = some (.slice A1 l1.length c1) := blk_cell bx 1
  have b2 : w0.cell? ⟨w.heap.size, 2, none⟩ = some (.slice A2 l2.length c2) := blk_cell bx 2
  have b3 : w0.cell? ⟨w.heap.size, 3, none⟩ = some (.slice A3 l3.length c3) := blk_cell bx 3
  clear bx
  go_enter Try.func9, Try.ntmps9
  replace R1 := Aside0.mk (Kd.C_below R1.out B0.out)
  replace R2 := Aside0.mk (Kd.C_below R2.out B0.out)
  replace R3 := Aside0.mk (Kd.C_below R3.out B0.out)
  go_wp2_with fail
  rw [← HW0.out]
  refine (cisternlaw11_known.calls true _ known_val).mono ?_
  rintro e w1 ⟨rfl, hB⟩
  have B1 := Aside0.mk (B0.out.trans (hB.mono B0.out.size))
  replace b0 := nd_cell hB b0
  replace b1 := nd_cell hB b1
  replace b2 := nd_cell hB b2
  replace b3 := nd_cell hB b3
  replace R1 := Aside0.mk (Kd.C_below R1.out hB)
  replace R2 := Aside0.mk (Kd.C_below R2.out hB)
  replace R3 := Aside0.mk (Kd.C_below R3.out hB)
  clear hB
  go_wp2_with fail
  refine (cisternref11_DocFind.calls KK a A1 c1 l1 A2 c2 l2 A3 c3 l3 key x y _ R1.out hc1 R2.out hc2 R3.out hc3 DF.out).mono ?_
  rintro e w2 ⟨rfl, hB⟩
  have B2 := Aside0.mk (B1.out.trans (hB.mono B1.out.size))
  replace b0 := nd_cell hB b0
  replace b1 := nd_cell hB b1
  replace b2 := nd_cell hB b2
  replace b3 := nd_cell hB b3
  replace R1 := Aside0.mk (Kd.C_below R1.out hB)
  replace R2 := Aside0.mk (Kd.C_below R2.out hB)
  replace R3 := Aside0.mk (Kd.C_below R3.out hB)
  clear hB
  go_wp2_with fail
  refine (cisternlaw11_of.calls a A1 c1 l1 A2 c2 l2 A3 c3 l3 a l1 l2 l3 _ R1.out hc1 R2.out hc2 R3.out hc3 OF.out).mono ?_
  rintro e w3 ⟨v1, v2, v3, rfl, h1, h2, h3, hB⟩
  have B3 := Aside0.mk (B2.out.trans (hB.mono B2.out.size))
  replace b0 := nd_cell hB b0
  replace b1 := nd_cell hB b1
  replace b2 := nd_cell hB b2
  replace b3 := nd_cell hB b3
  replace R1 := Aside0.mk (Kd.C_below R1.out hB)
  replace R2 := Aside0.mk (Kd.C_below R2.out hB)
  replace R3 := Aside0.mk (Kd.C_below R3.out hB)
  clear hB
  obtain ⟨oA1, oc1, rfl⟩ := Kd.R_slice h1
  have oR1 := Aside0.mk h1
  have oL1 := Aside0.mk (Kd.R_reads' h1).2.1
  obtain ⟨oA2, oc2, rfl⟩ := Kd.R_slice h2
  have oR2 := Aside0.mk h2
  have oL2 := Aside0.mk (Kd.R_reads' h2).2.1
  obtain ⟨oA3, oc3, rfl⟩ := Kd.R_slice h3
  have oR3 := Aside0.mk h3
  have oL3 := Aside0.mk (Kd.R_reads' h3).2.1
  clear h1 h2 h3
  go_wp2_with fail
  refine (node_Find.calls KK a oA1 oc1 l1 oA2 oc2 l2 oA3 oc3 l3 key x y _ (Kd.R_reads' oR1.out).2.2 oL1.out (Kd.R_reads' oR2.out).2.2 oL2.out (Kd.R_reads' oR3.out).2.2 oL3.out FF.out).mono ?_
  rintro e w4 ⟨rfl, hB⟩
  have B4 := Aside0.mk (B3.out.trans (hB.mono B3.out.size))
  replace b0 := nd_cell hB b0
  replace b1 := nd_cell hB b1
  replace b2 := nd_cell hB b2
  replace b3 := nd_cell hB b3
  replace R1 := Aside0.mk (Kd.C_below R1.out hB)
  replace R2 := Aside0.mk (Kd.C_below R2.out hB)
  replace R3 := Aside0.mk (Kd.C_below R3.out hB)
  clear hB
  clear oR1 oR2 oR3 oL1 oL2 oL3
  go_wp2_with fail
  refine (cisternref11_DocPut.calls KK a A1 c1 l1 A2 c2 l2 A3 c3 l3 key val p0 p1 p2 p3 p4 _ R1.out hc1 R2.out hc2 R3.out hc3 DP.out).mono ?_
  rintro e w5 ⟨v1, v2, v3, rfl, h1, h2, h3, hB⟩
  have B5 := Aside0.mk (B4.out.trans (hB.mono B4.out.size))
  replace b0 := nd_cell hB b0
  replace b1 := nd_cell hB b1
  replace b2 := nd_cell hB b2
  replace b3 := nd_cell hB b3
  replace R1 := Aside0.mk (Kd.C_below R1.out hB)
  replace R2 := Aside0.mk (Kd.C_below R2.out hB)
  replace R3 := Aside0.mk (Kd.C_below R3.out hB)
  clear hB
  obtain ⟨pA1, pc1, rfl⟩ := Kd.R_slice h1
  have pR1 := Aside0.mk h1
  have pL1 := Aside0.mk (Kd.R_reads' h1).2.1
  obtain ⟨pA2, pc2, rfl⟩ := Kd.R_slice h2
  have pR2 := Aside0.mk h2
  have pL2 := Aside0.mk (Kd.R_reads' h2).2.1
  obtain ⟨pA3, pc3, rfl⟩ := Kd.R_slice h3
  have pR3 := Aside0.mk h3
  have pL3 := Aside0.mk (Kd.R_reads' h3).2.1
  clear h1 h2 h3
  obtain ⟨nA, hnA⟩ : ∃ n, n = w5.heap.size := ⟨_, rfl⟩
  have tA := heap_alloc_new w5 (.cells #[.bool p0, .slice pA1 p1.length pc1, .slice pA2 p2.length pc2, .slice pA3 p3.length pc3] 26)
  have hB := below_alloc (Below.refl w5.heap.size w5) (.cells #[.bool p0, .slice pA1 p1.length pc1, .slice pA2 p2.length pc2, .slice pA3 p3.length pc3] 26)
  obtain ⟨w6, hwn⟩ : ∃ x, x = w5.alloc (.cells #[.bool p0, .slice pA1 p1.length pc1, .slice pA2 p2.length pc2, .slice pA3 p3.length pc3] 26) := ⟨_, rfl⟩
  have HWN := Aside0.mk hwn
  rw [← hwn] at tA hB
  rw [← hnA] at tA
  have TA := Aside0.mk tA
  have NA := Aside0.mk hnA
  clear tA hwn
  have LB0 := Aside0.mk b0
  have cw0 := nd_cell hB b0
  have cw1 := nd_cell hB b1
  have cw2 := nd_cell hB b2
  have cw3 := nd_cell hB b3
  rw [HWN.out] at cw0 cw1 cw2 cw3
  have B6 := Aside0.mk (B5.out.trans (hB.mono B5.out.size))
  replace b0 := nd_cell hB b0
  replace b1 := nd_cell hB b1
  replace b2 := nd_cell hB b2
  replace b3 := nd_cell hB b3
  replace R1 := Aside0.mk (Kd.C_below R1.out hB)
  replace R2 := Aside0.mk (Kd.C_below R2.out hB)
  replace R3 := Aside0.mk (Kd.C_below R3.out hB)
  replace pR1 := Aside0.mk (Kd.R_below pR1.out hB)
  replace pR2 := Aside0.mk (Kd.R_below pR2.out hB)
  replace pR3 := Aside0.mk (Kd.R_below pR3.out hB)
  clear hB
  go_wp2_with fail
  clear cw0 cw1 cw2 cw3
  rw [← HWN.out]
  rw [← hnA]
  clear hnA
  refine (cisternlaw11_of.calls a A1 c1 l1 A2 c2 l2 A3 c3 l3 a l1 l2 l3 _ R1.out hc1 R2.out hc2 R3.out hc3 OF.out).mono ?_
  rintro e w7 ⟨v1, v2, v3, rfl, h1, h2, h3, hB⟩
  have B7 := Aside0.mk (B6.out.trans (hB.mono B6.out.size))
  replace b0 := nd_cell hB b0
  replace b1 := nd_cell hB b1
  replace b2 := nd_cell hB b2
  replace b3 := nd_cell hB b3
  replace TA := Aside0.mk ((hB.block _ (blk_lt TA.out)).trans TA.out)
  replace R1 := Aside0.mk (Kd.C_below R1.out hB)
  replace R2 := Aside0.mk (Kd.C_below R2.out hB)
  replace R3 := Aside0.mk (Kd.C_below R3.out hB)
  replace pR1 := Aside0.mk (Kd.R_below pR1.out hB)
  replace pR2 := Aside0.mk (Kd.R_below pR2.out hB)
  replace pR3 := Aside0.mk (Kd.R_below pR3.out hB)
  clear hB
  obtain ⟨oA1, oc1, rfl⟩ := Kd.R_slice h1
  have oR1 := Aside0.mk h1
  have oL1 := Aside0.mk (Kd.R_reads' h1).2.1
  obtain ⟨oA2, oc2, rfl⟩ := Kd.R_slice h2
  have oR2 := Aside0.mk h2
  have oL2 := Aside0.mk (Kd.R_reads' h2).2.1
  obtain ⟨oA3, oc3, rfl⟩ := Kd.R_slice h3
  have oR3 := Aside0.mk h3
  have oL3 := Aside0.mk (Kd.R_reads' h3).2.1
  clear h1 h2 h3
  go_wp2_with fail
  refine (node_Put.calls a oA1 oc1 l1 oA2 oc2 l2 oA3 oc3 l3 key val p0 p1 p2 p3 p4 _ (Kd.R_reads' oR1.out).2.2 oL1.out (Kd.R_reads' oR2.out).2.2 oL2.out (Kd.R_reads' oR3.out).2.2 oL3.out PP.out).mono ?_
  rintro e w8 ⟨v1, v2, v3, rfl, h1, h2, h3, hB⟩
  have B8 := Aside0.mk (B7.out.trans (hB.mono B7.out.size))
  replace b0 := nd_cell hB b0
  replace b1 := nd_cell hB b1
  replace b2 := nd_cell hB b2
  replace b3 := nd_cell hB b3
  replace TA := Aside0.mk ((hB.block _ (blk_lt TA.out)).trans TA.out)
  replace R1 := Aside0.mk (Kd.C_below R1.out hB)
  replace R2 := Aside0.mk (Kd.C_below R2.out hB)
  replace R3 := Aside0.mk (Kd.C_below R3.out hB)
  replace pR1 := Aside0.mk (Kd.R_below pR1.out hB)
  replace pR2 := Aside0.mk (Kd.R_below pR2.out hB)
  replace pR3 := Aside0.mk (Kd.R_below pR3.out hB)
  clear hB
  clear oR1 oR2 oR3 oL1 oL2 oL3
  obtain ⟨qA1, qc1, rfl⟩ := Kd.R_slice h1
  have qR1 := Aside0.mk h1
  have qL1 := Aside0.mk (Kd.R_reads' h1).2.1
  obtain ⟨qA2, qc2, rfl⟩ := Kd.R_slice h2
  have qR2 := Aside0.mk h2
  have qL2 := Aside0.mk (Kd.R_reads' h2).2.1
  obtain ⟨qA3, qc3, rfl⟩ := Kd.R_slice h3
  have qR3 := Aside0.mk h3
  have qL3 := Aside0.mk (Kd.R_reads' h3).2.1
  clear h1 h2 h3
  obtain ⟨nB, hnB⟩ : ∃ n, n = w8.heap.size := ⟨_, rfl⟩
  have LA : Aside0 (w.heap.size < nA) := ⟨by rw [NA.out]; exact World.block_lt_of_cell? _ _ LB0.out⟩
  have LB : Aside0 (nA < nB) := ⟨by rw [hnB]; exact blk_lt TA.out⟩
  have tB := heap_alloc_new w8 (.cells #[.bool p0, .slice qA1 p1.length qc1, .slice qA2 p2.length qc2, .slice qA3 p3.length qc3] 31)
  have hB := below_alloc (Below.refl w8.heap.size w8) (.cells #[.bool p0, .slice qA1 p1.length qc1, .slice qA2 p2.length qc2, .slice qA3 p3.length qc3] 31)
  obtain ⟨w9, hwn⟩ : ∃ x, x = w8.alloc (.cells #[.bool p0, .slice qA1 p1.length qc1, .slice qA2 p2.length qc2, .slice qA3 p3.length qc3] 31) := ⟨_, rfl⟩
  have HWN2 := Aside0.mk hwn
  rw [← hwn] at tB hB
  rw [← hnB] at tB
  have TB := Aside0.mk tB
  clear tB hwn
  have B9 := Aside0.mk (B8.out.trans (hB.mono B8.out.size))
  replace b0 := nd_cell hB b0
  replace b1 := nd_cell hB b1
  replace b2 := nd_cell hB b2
  replace b3 := nd_cell hB b3
  replace TA := Aside0.mk ((hB.block _ (blk_lt TA.out)).trans TA.out)
  replace R1 := Aside0.mk (Kd.C_below R1.out hB)
  replace R2 := Aside0.mk (Kd.C_below R2.out hB)
  replace R3 := Aside0.mk (Kd.C_below R3.out hB)
  replace pR1 := Aside0.mk (Kd.R_below pR1.out hB)
  replace pR2 := Aside0.mk (Kd.R_below pR2.out hB)
  replace pR3 := Aside0.mk (Kd.R_below pR3.out hB)
  replace qR1 := Aside0.mk (Kd.R_below qR1.out hB)
  replace qR2 := Aside0.mk (Kd.R_below qR2.out hB)
  replace qR3 := Aside0.mk (Kd.R_below qR3.out hB)
  clear hB
  go_wp2_with fail
  rw [← HWN2.out]
  rw [← hnB]
  have NB := Aside0.mk hnB
  clear hnB
  have ca0 : w9.cell? ⟨nA, 0, none⟩ = some (.bool p0) := blk_cell TA.out 0
  have ca1 : w9.cell? ⟨nA, 1, none⟩ = some (.slice pA1 p1.length pc1) := blk_cell TA.out 1
  have ca2 : w9.cell? ⟨nA, 2, none⟩ = some (.slice pA2 p2.length pc2) := blk_cell TA.out 2
  have ca3 : w9.cell? ⟨nA, 3, none⟩ = some (.slice pA3 p3.length pc3) := blk_cell TA.out 3
  have cb0 : w9.cell? ⟨nB, 0, none⟩ = some (.bool p0) := blk_cell TB.out 0
  have cb1 : w9.cell? ⟨nB, 1, none⟩ = some (.slice qA1 p1.length qc1) := blk_cell TB.out 1
  have cb2 : w9.cell? ⟨nB, 2, none⟩ = some (.slice qA2 p2.length qc2) := blk_cell TB.out 2
  have cb3 : w9.cell? ⟨nB, 3, none⟩ = some (.slice qA3 p3.length qc3) := blk_cell TB.out 3
  have MK : Aside0 (∀ W, Below w9.heap.size w9 W → Below w9.heap.size w9 W ∧ W.cell? ⟨nA, 0, none⟩ = some (.bool p0) ∧ W.cell? ⟨nA, 1, none⟩ = some (.slice pA1 p1.length pc1) ∧ W.cell? ⟨nA, 2, none⟩ = some (.slice pA2 p2.length pc2) ∧ W.cell? ⟨nA, 3, none⟩ = some (.slice pA3 p3.length pc3) ∧ W.cell? ⟨nB, 0, none⟩ = some (.bool p0) ∧ W.cell? ⟨nB, 1, none⟩ = some (.slice qA1 p1.length qc1) ∧ W.cell? ⟨nB, 2, none⟩ = some (.slice qA2 p2.length qc2) ∧ W.cell? ⟨nB, 3, none⟩ = some (.slice qA3 p3.length qc3)) := ⟨fun W hb => ⟨hb, nd_cell hb ca0, nd_cell hb ca1, nd_cell hb ca2, nd_cell hb ca3, nd_cell hb cb0, nd_cell hb cb1, nd_cell hb cb2, nd_cell hb cb3⟩⟩
  clear ca0 ca1 ca2 ca3 cb0 cb1 cb2 cb3
  refine wp_region_held_drew (S := fun W => Below w9.heap.size w9 W ∧ W.cell? ⟨nA, 0, none⟩ = some (.bool p0) ∧ W.cell? ⟨nA, 1, none⟩ = some (.slice pA1 p1.length pc1) ∧ W.cell? ⟨nA, 2, none⟩ = some (.slice pA2 p2.length pc2) ∧ W.cell? ⟨nA, 3, none⟩ = some (.slice pA3 p3.length pc3) ∧ W.cell? ⟨nB, 0, none⟩ = some (.bool p0) ∧ W.cell? ⟨nB, 1, none⟩ = some (.slice qA1 p1.length qc1) ∧ W.cell? ⟨nB, 2, none⟩ = some (.slice qA2 p2.length qc2) ∧ W.cell? ⟨nB, 3, none⟩ = some (.slice qA3 p3.length qc3)) (by kernel_rfl) ?_ (fun hHeld => ?_)
  · try dsimp only
    first | exact MK.out _ (Below.drew (Below.refl _ _)) | exact MK.out _ SB1.out | assumption
  refine wpAnyH_take (i := 0) (oi := _) (v := _) rfl (by kernel_rfl) (by kernel_rfl) (by kernel_rfl) (fun _ _ _ h => h) (Or.inl ⟨by rfl, by (intro w hSw; (try dsimp only at hSw); go_simp; try with_reducible rfl)⟩) hHeld ?_
  simp only [Act.put, List.getElem_toArray, List.getElem_cons_zero, List.getElem_cons_succ, List.setIfInBounds_toArray, List.set_cons_zero, List.set_cons_succ]
  refine wpAnyH_take (i := 1) (oi := _) (v := _) rfl (by kernel_rfl) (by kernel_rfl) (by kernel_rfl) (fun _ _ _ h => h) (Or.inl ⟨by rfl, by (intro w hSw; (try dsimp only at hSw); go_simp; try with_reducible rfl)⟩) hHeld ?_
  simp only [Act.put, List.getElem_toArray, List.getElem_cons_zero, List.getElem_cons_succ, List.setIfInBounds_toArray, List.set_cons_zero, List.set_cons_succ]
  refine wpAnyH_ready (rs := [2]) (by kernel_rfl) (by simp) ?_
  refine AllReadyH.cons rfl (fun K hK => ?_) AllReadyH.nil
  go_simp
  refine (backW p0 qA1 _ qc1 qA2 _ qc2 qA3 _ qc3 _).mono ?_
  rintro e w6 ⟨rfl, hb6⟩
  have SB1 : Aside0 (Below w9.heap.size w9 w6) := ⟨Below.trans hHeld.1 (hb6.mono hHeld.1.size)⟩
  clear hb6
  go_simp
  refine hK.out _ _ ?_ (fun hNew => ?_)
  · try dsimp only
    first | exact MK.out _ (Below.drew (Below.refl _ _)) | exact MK.out _ SB1.out | assumption
  clear hK K hHeld
  have hHeld := hNew
  clear hNew
  refine wpAnyH_ready (rs := [3]) (by kernel_rfl) (by simp) ?_
  refine AllReadyH.cons rfl (fun K hK => ?_) AllReadyH.nil
  go_simp
  refine (cisternref11_Same.calls KK p0 pA1 pc1 p1 pA2 pc2 p2 pA3 pc3 p3 p0 qA1 qc1 p1 qA2 qc2 p2 qA3 qc3 p3 true _ (Kd.C_below (Kd.R_reads' pR1.out).2.2 hHeld.1) pL1.out (Kd.C_below (Kd.R_reads' pR2.out).2.2 hHeld.1) pL2.out (Kd.C_below (Kd.R_reads' pR3.out).2.2 hHeld.1) pL3.out (Kd.C_below (Kd.R_reads' qR1.out).2.2 hHeld.1) qL1.out (Kd.C_below (Kd.R_reads' qR2.out).2.2 hHeld.1) qL2.out (Kd.C_below (Kd.R_reads' qR3.out).2.2 hHeld.1) qL3.out SP.out).mono ?_
  rintro e w10 ⟨rfl, hb6⟩
  have SB1 : Aside0 (Below w9.heap.size w9 w10) := ⟨Below.trans hHeld.1 (hb6.mono hHeld.1.size)⟩
  clear hb6
  go_simp
  refine hK.out _ _ ?_ (fun hNew => ?_)
  · try dsimp only
    first | exact MK.out _ (Below.drew (Below.refl _ _)) | exact MK.out _ SB1.out | assumption
  clear hK K hHeld
  have hHeld := hNew
  clear hNew
  refine wpAnyH_take (i := 4) (oi := _) (v := _) rfl (by kernel_rfl) (by kernel_rfl) (by kernel_rfl) (fun _ _ _ h => h) (Or.inl ⟨by rfl, by (intro w hSw; (try dsimp only at hSw); go_simp; try with_reducible rfl)⟩) hHeld ?_
  simp only [Act.put, List.getElem_toArray, List.getElem_cons_zero, List.getElem_cons_succ, List.setIfInBounds_toArray, List.set_cons_zero, List.set_cons_succ]
  refine wpAnyH_take (i := 5) (oi := _) (v := _) rfl (by kernel_rfl) (by kernel_rfl) (by kernel_rfl) (fun _ _ _ h => h) (Or.inl ⟨by rfl, by (intro w hSw; (try dsimp only at hSw); go_simp; try with_reducible rfl)⟩) hHeld ?_
  simp only [Act.put, List.getElem_toArray, List.getElem_cons_zero, List.getElem_cons_succ, List.setIfInBounds_toArray, List.set_cons_zero, List.set_cons_succ]
  refine wpAnyH_take (i := 6) (oi := _) (v := _) rfl (by kernel_rfl) (by kernel_rfl) (by kernel_rfl) (fun _ _ _ h => h) (Or.inl ⟨by rfl, by (intro w hSw; (try dsimp only at hSw); go_simp; try with_reducible rfl)⟩) hHeld ?_
  simp only [Act.put, List.getElem_toArray, List.getElem_cons_zero, List.getElem_cons_succ, List.setIfInBounds_toArray, List.set_cons_zero, List.set_cons_succ]
  refine wpAnyH_take (i := 7) (oi := _) (v := _) rfl (by kernel_rfl) (by kernel_rfl) (by kernel_rfl) (fun _ _ _ h => h) (Or.inl ⟨by rfl, by (intro w hSw; (try dsimp only at hSw); go_simp; try with_reducible rfl)⟩) hHeld ?_
  simp only [Act.put, List.getElem_toArray, List.getElem_cons_zero, List.getElem_cons_succ, List.setIfInBounds_toArray, List.set_cons_zero, List.set_cons_succ]
  refine wpAnyH_take (i := 8) (oi := _) (v := _) rfl (by kernel_rfl) (by kernel_rfl) (by kernel_rfl) (fun _ _ _ h => h) (Or.inl ⟨by rfl, by (intro w hSw; (try dsimp only at hSw); go_simp; try with_reducible rfl)⟩) hHeld ?_
  simp only [Act.put, List.getElem_toArray, List.getElem_cons_zero, List.getElem_cons_succ, List.setIfInBounds_toArray, List.set_cons_zero, List.set_cons_succ]
  refine wpAnyH_take (i := 9) (oi := _) (v := _) rfl (by kernel_rfl) (by kernel_rfl) (by kernel_rfl) (fun _ _ _ h => h) (Or.inl ⟨by rfl, by (intro w hSw; (try dsimp only at hSw); go_simp; try with_reducible rfl)⟩) hHeld ?_
  simp only [Act.put, List.getElem_toArray, List.getElem_cons_zero, List.getElem_cons_succ, List.setIfInBounds_toArray, List.set_cons_zero, List.set_cons_succ]
  refine wpAnyH_done (by kernel_rfl) ?_ _
  have hB := hHeld.1
  clear hHeld MK SB1
  have B10 := Aside0.mk (B9.out.trans (hB.mono B9.out.size))
  replace b0 := nd_cell hB b0
  replace b1 := nd_cell hB b1
  replace b2 := nd_cell hB b2
  replace b3 := nd_cell hB b3
  replace TA := Aside0.mk ((hB.block _ (blk_lt TA.out)).trans TA.out)
  replace TB := Aside0.mk ((hB.block _ (blk_lt TB.out)).trans TB.out)
  replace R1 := Aside0.mk (Kd.C_below R1.out hB)
  replace R2 := Aside0.mk (Kd.C_below R2.out hB)
  replace R3 := Aside0.mk (Kd.C_below R3.out hB)
  replace pR1 := Aside0.mk (Kd.R_below pR1.out hB)
  replace pR2 := Aside0.mk (Kd.R_below pR2.out hB)
  replace pR3 := Aside0.mk (Kd.R_below pR3.out hB)
  replace qR1 := Aside0.mk (Kd.R_below qR1.out hB)
  replace qR2 := Aside0.mk (Kd.R_below qR2.out hB)
  replace qR3 := Aside0.mk (Kd.R_below qR3.out hB)
  clear hB
  clear pR1 pR2 pR3 pL1 pL2 pL3 qR1 qR2 qR3 qL1 qL2 qL3
  have hbl : nA < w10.heap.size := blk_lt TA.out
  have LR : Aside0 (nB < w10.heap.size) := ⟨blk_lt TB.out⟩
  go_wp2_with fail
  refine (cisternref11_DocDrop.calls KK a A1 c1 l1 A2 c2 l2 A3 c3 l3 key d0 d1 d2 d3 d4 _ R1.out hc1 R2.out hc2 R3.out hc3 DD.out).mono ?_
  rintro e w11 ⟨v1, v2, v3, rfl, h1, h2, h3, hB⟩
  have B11 := Aside0.mk (B10.out.trans (hB.mono B10.out.size))
  replace b0 := nd_cell hB b0
  replace b1 := nd_cell hB b1
  replace b2 := nd_cell hB b2
  replace b3 := nd_cell hB b3
  replace TA := Aside0.mk ((hB.block _ (blk_lt TA.out)).trans TA.out)
  replace TB := Aside0.mk ((hB.block _ (blk_lt TB.out)).trans TB.out)
  replace R1 := Aside0.mk (Kd.C_below R1.out hB)
  replace R2 := Aside0.mk (Kd.C_below R2.out hB)
  replace R3 := Aside0.mk (Kd.C_below R3.out hB)
  clear hB
  obtain ⟨rA1, rc1, rfl⟩ := Kd.R_slice h1
  have rR1 := Aside0.mk h1
  have rL1 := Aside0.mk (Kd.R_reads' h1).2.1
  obtain ⟨rA2, rc2, rfl⟩ := Kd.R_slice h2
  have rR2 := Aside0.mk h2
  have rL2 := Aside0.mk (Kd.R_reads' h2).2.1
  obtain ⟨rA3, rc3, rfl⟩ := Kd.R_slice h3
  have rR3 := Aside0.mk h3
  have rL3 := Aside0.mk (Kd.R_reads' h3).2.1
  clear h1 h2 h3
  have c0 : w11.cell? ⟨nA, 0, none⟩ = some (.bool p0) := blk_cell TA.out 0
  have c1 : w11.cell? ⟨nA, 1, none⟩ = some (.slice pA1 p1.length pc1) := blk_cell TA.out 1
  have c2 : w11.cell? ⟨nA, 2, none⟩ = some (.slice pA2 p2.length pc2) := blk_cell TA.out 2
  have c3 : w11.cell? ⟨nA, 3, none⟩ = some (.slice pA3 p3.length pc3) := blk_cell TA.out 3
  have f0 : w11.frozen? ⟨nA, 0, none⟩ = false := blk_frozen TA.out 0
  have f1 : w11.frozen? ⟨nA, 1, none⟩ = false := blk_frozen TA.out 1
  have f2 : w11.frozen? ⟨nA, 2, none⟩ = false := blk_frozen TA.out 2
  have f3 : w11.frozen? ⟨nA, 3, none⟩ = false := blk_frozen TA.out 3
  have hg := nd_grown4 w11 nA (.bool d0) (.slice rA1 d1.length rc1) (.slice rA2 d2.length rc2) (.slice rA3 d3.length rc3)
  have ht := nd_put4 w11 nA 26 _ _ _ _ (.bool d0) (.slice rA1 d1.length rc1) (.slice rA2 d2.length rc2) (.slice rA3 d3.length rc3) TA.out
  have hbase : nA < w10.heap.size := hbl
  obtain ⟨w12, hwn⟩ : ∃ x, x = ((((w11.setCell ⟨nA, 0, none⟩ (.bool d0)).setCell ⟨nA, 1, none⟩ (.slice rA1 d1.length rc1)).setCell ⟨nA, 2, none⟩ (.slice rA2 d2.length rc2)).setCell ⟨nA, 3, none⟩ (.slice rA3 d3.length rc3)) := ⟨_, rfl⟩
  have HWN3 := Aside0.mk hwn
  rw [← hwn] at hg ht
  clear hwn
  have LAo := LA.out
  have cw0 := nd_grown_cell hg (by show w.heap.size ≠ nA; omega) b0
  have cw1 := nd_grown_cell hg (by show w.heap.size ≠ nA; omega) b1
  have cw2 := nd_grown_cell hg (by show w.heap.size ≠ nA; omega) b2
  have cw3 := nd_grown_cell hg (by show w.heap.size ≠ nA; omega) b3
  replace R1 := Aside0.mk (Kd.C_below hr1k.out (nd_grown_below hg B11.out B11.out.size (by omega)))
  replace R2 := Aside0.mk (Kd.C_below hr2k.out (nd_grown_below hg B11.out B11.out.size (by omega)))
  replace R3 := Aside0.mk (Kd.C_below hr3k.out (nd_grown_below hg B11.out B11.out.size (by omega)))
  have B12 := Aside0.mk (nd_grown_below hg B11.out B11.out.size (by omega))
  have LBo := LB.out
  replace TB := Aside0.mk ((hg.block nB (blk_lt TB.out) (fun e => by have := Option.some.inj e; omega)).trans TB.out)
  replace TA := Aside0.mk ht
  replace rR1 := Aside0.mk (R_grown_far rR1.out hg hbase)
  replace rR2 := Aside0.mk (R_grown_far rR2.out hg hbase)
  replace rR3 := Aside0.mk (R_grown_far rR3.out hg hbase)
  clear hg ht hbase hbl LAo LBo
  have xw0 := cw0
  have xw1 := cw1
  have xw2 := cw2
  have xw3 := cw3
  rw [HWN3.out] at xw0 xw1 xw2 xw3
  clear b0 b1 b2 b3
  have b0 := cw0
  have b1 := cw1
  have b2 := cw2
  have b3 := cw3
  clear cw0 cw1 cw2 cw3
  go_wp2_with fail
  clear xw0 xw1 xw2 xw3 c0 c1 c2 c3 f0 f1 f2 f3
  rw [← HWN3.out]
  refine (cisternlaw11_of.calls a A1 c1 l1 A2 c2 l2 A3 c3 l3 a l1 l2 l3 _ R1.out hc1 R2.out hc2 R3.out hc3 OF.out).mono ?_
  rintro e w13 ⟨v1, v2, v3, rfl, h1, h2, h3, hB⟩
  have B13 := Aside0.mk (B12.out.trans (hB.mono B12.out.size))
  replace b0 := nd_cell hB b0
  replace b1 := nd_cell hB b1
  replace b2 := nd_cell hB b2
  replace b3 := nd_cell hB b3
  replace TA := Aside0.mk ((hB.block _ (blk_lt TA.out)).trans TA.out)
  replace TB := Aside0.mk ((hB.block _ (blk_lt TB.out)).trans TB.out)
  replace R1 := Aside0.mk (Kd.C_below R1.out hB)
  replace R2 := Aside0.mk (Kd.C_below R2.out hB)
  replace R3 := Aside0.mk (Kd.C_below R3.out hB)
  replace rR1 := Aside0.mk (Kd.R_below rR1.out hB)
  replace rR2 := Aside0.mk (Kd.R_below rR2.out hB)
  replace rR3 := Aside0.mk (Kd.R_below rR3.out hB)
  clear hB
  obtain ⟨oA1, oc1, rfl⟩ := Kd.R_slice h1
  have oR1 := Aside0.mk h1
  have oL1 := Aside0.mk (Kd.R_reads' h1).2.1
  obtain ⟨oA2, oc2, rfl⟩ := Kd.R_slice h2
  have oR2 := Aside0.mk h2
  have oL2 := Aside0.mk (Kd.R_reads' h2).2.1
  obtain ⟨oA3, oc3, rfl⟩ := Kd.R_slice h3
  have oR3 := Aside0.mk h3
  have oL3 := Aside0.mk (Kd.R_reads' h3).2.1
  clear h1 h2 h3
  have hbl : nB < w13.heap.size := blk_lt TB.out
  go_wp2_with fail
  refine (node_Drop.calls a oA1 oc1 l1 oA2 oc2 l2 oA3 oc3 l3 key d0 d1 d2 d3 d4 _ (Kd.R_reads' oR1.out).2.2 oL1.out (Kd.R_reads' oR2.out).2.2 oL2.out (Kd.R_reads' oR3.out).2.2 oL3.out QQ.out).mono ?_
  rintro e w14 ⟨v1, v2, v3, rfl, h1, h2, h3, hB⟩
  have B14 := Aside0.mk (B13.out.trans (hB.mono B13.out.size))
  replace b0 := nd_cell hB b0
  replace b1 := nd_cell hB b1
  replace b2 := nd_cell hB b2
  replace b3 := nd_cell hB b3
  replace TA := Aside0.mk ((hB.block _ (blk_lt TA.out)).trans TA.out)
  replace TB := Aside0.mk ((hB.block _ (blk_lt TB.out)).trans TB.out)
  replace R1 := Aside0.mk (Kd.C_below R1.out hB)
  replace R2 := Aside0.mk (Kd.C_below R2.out hB)
  replace R3 := Aside0.mk (Kd.C_below R3.out hB)
  replace rR1 := Aside0.mk (Kd.R_below rR1.out hB)
  replace rR2 := Aside0.mk (Kd.R_below rR2.out hB)
  replace rR3 := Aside0.mk (Kd.R_below rR3.out hB)
  clear hB
  obtain ⟨sA1, sc1, rfl⟩ := Kd.R_slice h1
  have sR1 := Aside0.mk h1
  have sL1 := Aside0.mk (Kd.R_reads' h1).2.1
  obtain ⟨sA2, sc2, rfl⟩ := Kd.R_slice h2
  have sR2 := Aside0.mk h2
  have sL2 := Aside0.mk (Kd.R_reads' h2).2.1
  obtain ⟨sA3, sc3, rfl⟩ := Kd.R_slice h3
  have sR3 := Aside0.mk h3
  have sL3 := Aside0.mk (Kd.R_reads' h3).2.1
  clear h1 h2 h3
  have c0 : w14.cell? ⟨nB, 0, none⟩ = some (.bool p0) := blk_cell TB.out 0
  have c1 : w14.cell? ⟨nB, 1, none⟩ = some (.slice qA1 p1.length qc1) := blk_cell TB.out 1
  have c2 : w14.cell? ⟨nB, 2, none⟩ = some (.slice qA2 p2.length qc2) := blk_cell TB.out 2
  have c3 : w14.cell? ⟨nB, 3, none⟩ = some (.slice qA3 p3.length qc3) := blk_cell TB.out 3
  have f0 : w14.frozen? ⟨nB, 0, none⟩ = false := blk_frozen TB.out 0
  have f1 : w14.frozen? ⟨nB, 1, none⟩ = false := blk_frozen TB.out 1
  have f2 : w14.frozen? ⟨nB, 2, none⟩ = false := blk_frozen TB.out 2
  have f3 : w14.frozen? ⟨nB, 3, none⟩ = false := blk_frozen TB.out 3
  have hg := nd_grown4 w14 nB (.bool d0) (.slice sA1 d1.length sc1) (.slice sA2 d2.length sc2) (.slice sA3 d3.length sc3)
  have ht := nd_put4 w14 nB 31 _ _ _ _ (.bool d0) (.slice sA1 d1.length sc1) (.slice sA2 d2.length sc2) (.slice sA3 d3.length sc3) TB.out
  have hbase : nB < w13.heap.size := hbl
  clear oR1 oR2 oR3 oL1 oL2 oL3
  obtain ⟨w15, hwn⟩ : ∃ x, x = ((((w14.setCell ⟨nB, 0, none⟩ (.bool d0)).setCell ⟨nB, 1, none⟩ (.slice sA1 d1.length sc1)).setCell ⟨nB, 2, none⟩ (.slice sA2 d2.length sc2)).setCell ⟨nB, 3, none⟩ (.slice sA3 d3.length sc3)) := ⟨_, rfl⟩
  have HWN4 := Aside0.mk hwn
  rw [← hwn] at hg ht
  clear hwn
  have LAo := LA.out
  have LBo := LB.out
  have B15 := Aside0.mk (nd_grown_below hg B14.out B14.out.size (by omega))
  replace TA := Aside0.mk ((hg.block nA (blk_lt TA.out) (fun e => by have := Option.some.inj e; omega)).trans TA.out)
  replace TB := Aside0.mk ht
  replace sR1 := Aside0.mk (R_grown_far sR1.out hg hbase)
  replace sR2 := Aside0.mk (R_grown_far sR2.out hg hbase)
  replace sR3 := Aside0.mk (R_grown_far sR3.out hg hbase)
  replace rR1 := Aside0.mk (Kd.R_mono (Kd.R_step (Kd.R_bound rR1.out) (fun k hk hl => hg.block k hl (fun e => by have := Option.some.inj e; have := hk.2.1; have := LR.out; omega))) (fun _ hk => hk.1))
  replace rR2 := Aside0.mk (Kd.R_mono (Kd.R_step (Kd.R_bound rR2.out) (fun k hk hl => hg.block k hl (fun e => by have := Option.some.inj e; have := hk.2.1; have := LR.out; omega))) (fun _ hk => hk.1))
  replace rR3 := Aside0.mk (Kd.R_mono (Kd.R_step (Kd.R_bound rR3.out) (fun k hk hl => hg.block k hl (fun e => by have := Option.some.inj e; have := hk.2.1; have := LR.out; omega))) (fun _ hk => hk.1))
  clear hg ht hbase hbl LAo LBo b0 b1 b2 b3
  go_wp2_with fail
  clear c0 c1 c2 c3 f0 f1 f2 f3
  rw [← HWN4.out]
  have ca0 : w15.cell? ⟨nA, 0, none⟩ = some (.bool d0) := blk_cell TA.out 0
  have ca1 : w15.cell? ⟨nA, 1, none⟩ = some (.slice rA1 d1.length rc1) := blk_cell TA.out 1
  have ca2 : w15.cell? ⟨nA, 2, none⟩ = some (.slice rA2 d2.length rc2) := blk_cell TA.out 2
  have ca3 : w15.cell? ⟨nA, 3, none⟩ = some (.slice rA3 d3.length rc3) := blk_cell TA.out 3
  have cb0 : w15.cell? ⟨nB, 0, none⟩ = some (.bool d0) := blk_cell TB.out 0
  have cb1 : w15.cell? ⟨nB, 1, none⟩ = some (.slice sA1 d1.length sc1) := blk_cell TB.out 1
  have cb2 : w15.cell? ⟨nB, 2, none⟩ = some (.slice sA2 d2.length sc2) := blk_cell TB.out 2
  have cb3 : w15.cell? ⟨nB, 3, none⟩ = some (.slice sA3 d3.length sc3) := blk_cell TB.out 3
  have MK : Aside0 (∀ W, Below w15.heap.size w15 W → Below w15.heap.size w15 W ∧ W.cell? ⟨nA, 0, none⟩ = some (.bool d0) ∧ W.cell? ⟨nA, 1, none⟩ = some (.slice rA1 d1.length rc1) ∧ W.cell? ⟨nA, 2, none⟩ = some (.slice rA2 d2.length rc2) ∧ W.cell? ⟨nA, 3, none⟩ = some (.slice rA3 d3.length rc3) ∧ W.cell? ⟨nB, 0, none⟩ = some (.bool d0) ∧ W.cell? ⟨nB, 1, none⟩ = some (.slice sA1 d1.length sc1) ∧ W.cell? ⟨nB, 2, none⟩ = some (.slice sA2 d2.length sc2) ∧ W.cell? ⟨nB, 3, none⟩ = some (.slice sA3 d3.length sc3)) := ⟨fun W hb => ⟨hb, nd_cell hb ca0, nd_cell hb ca1, nd_cell hb ca2, nd_cell hb ca3, nd_cell hb cb0, nd_cell hb cb1, nd_cell hb cb2, nd_cell hb cb3⟩⟩
  clear ca0 ca1 ca2 ca3 cb0 cb1 cb2 cb3
  refine wp_region_held_drew (S := fun W => Below w15.heap.size w15 W ∧ W.cell? ⟨nA, 0, none⟩ = some (.bool d0) ∧ W.cell? ⟨nA, 1, none⟩ = some (.slice rA1 d1.length rc1) ∧ W.cell? ⟨nA, 2, none⟩ = some (.slice rA2 d2.length rc2) ∧ W.cell? ⟨nA, 3, none⟩ = some (.slice rA3 d3.length rc3) ∧ W.cell? ⟨nB, 0, none⟩ = some (.bool d0) ∧ W.cell? ⟨nB, 1, none⟩ = some (.slice sA1 d1.length sc1) ∧ W.cell? ⟨nB, 2, none⟩ = some (.slice sA2 d2.length sc2) ∧ W.cell? ⟨nB, 3, none⟩ = some (.slice sA3 d3.length sc3)) (by kernel_rfl) ?_ (fun hHeld => ?_)
  · try dsimp only
    first | exact MK.out _ (Below.drew (Below.refl _ _)) | exact MK.out _ SB1.out | assumption
  refine wpAnyH_take (i := 0) (oi := _) (v := _) rfl (by kernel_rfl) (by kernel_rfl) (by kernel_rfl) (fun _ _ _ h => h) (Or.inl ⟨by rfl, by (intro w hSw; (try dsimp only at hSw); go_simp; try with_reducible rfl)⟩) hHeld ?_
  simp only [Act.put, List.getElem_toArray, List.getElem_cons_zero, List.getElem_cons_succ, List.setIfInBounds_toArray, List.set_cons_zero, List.set_cons_succ]
  refine wpAnyH_take (i := 1) (oi := _) (v := _) rfl (by kernel_rfl) (by kernel_rfl) (by kernel_rfl) (fun _ _ _ h => h) (Or.inl ⟨by rfl, by (intro w hSw; (try dsimp only at hSw); go_simp; try with_reducible rfl)⟩) hHeld ?_
  simp only [Act.put, List.getElem_toArray, List.getElem_cons_zero, List.getElem_cons_succ, List.setIfInBounds_toArray, List.set_cons_zero, List.set_cons_succ]
  refine wpAnyH_ready (rs := [2]) (by kernel_rfl) (by simp) ?_
  refine AllReadyH.cons rfl (fun K hK => ?_) AllReadyH.nil
  go_simp
  refine (backW d0 sA1 _ sc1 sA2 _ sc2 sA3 _ sc3 _).mono ?_
  rintro e w6 ⟨rfl, hb6⟩
  have SB1 : Aside0 (Below w15.heap.size w15 w6) := ⟨Below.trans hHeld.1 (hb6.mono hHeld.1.size)⟩
  clear hb6
  go_simp
  refine hK.out _ _ ?_ (fun hNew => ?_)
  · try dsimp only
    first | exact MK.out _ (Below.drew (Below.refl _ _)) | exact MK.out _ SB1.out | assumption
  clear hK K hHeld
  have hHeld := hNew
  clear hNew
  refine wpAnyH_ready (rs := [3]) (by kernel_rfl) (by simp) ?_
  refine AllReadyH.cons rfl (fun K hK => ?_) AllReadyH.nil
  go_simp
  refine (cisternref11_Same.calls KK d0 rA1 rc1 d1 rA2 rc2 d2 rA3 rc3 d3 d0 sA1 sc1 d1 sA2 sc2 d2 sA3 sc3 d3 true _ (Kd.C_below (Kd.R_reads' rR1.out).2.2 hHeld.1) rL1.out (Kd.C_below (Kd.R_reads' rR2.out).2.2 hHeld.1) rL2.out (Kd.C_below (Kd.R_reads' rR3.out).2.2 hHeld.1) rL3.out (Kd.C_below (Kd.R_reads' sR1.out).2.2 hHeld.1) sL1.out (Kd.C_below (Kd.R_reads' sR2.out).2.2 hHeld.1) sL2.out (Kd.C_below (Kd.R_reads' sR3.out).2.2 hHeld.1) sL3.out SD.out).mono ?_
  rintro e w16 ⟨rfl, hb6⟩
  have SB1 : Aside0 (Below w15.heap.size w15 w16) := ⟨Below.trans hHeld.1 (hb6.mono hHeld.1.size)⟩
  clear hb6
  go_simp
  refine hK.out _ _ ?_ (fun hNew => ?_)
  · try dsimp only
    first | exact MK.out _ (Below.drew (Below.refl _ _)) | exact MK.out _ SB1.out | assumption
  clear hK K hHeld
  have hHeld := hNew
  clear hNew
  refine wpAnyH_take (i := 4) (oi := _) (v := _) rfl (by kernel_rfl) (by kernel_rfl) (by kernel_rfl) (fun _ _ _ h => h) (Or.inl ⟨by rfl, by (intro w hSw; (try dsimp only at hSw); go_simp; try with_reducible rfl)⟩) hHeld ?_
  simp only [Act.put, List.getElem_toArray, List.getElem_cons_zero, List.getElem_cons_succ, List.setIfInBounds_toArray, List.set_cons_zero, List.set_cons_succ]
  refine wpAnyH_take (i := 5) (oi := _) (v := _) rfl (by kernel_rfl) (by kernel_rfl) (by kernel_rfl) (fun _ _ _ h => h) (Or.inl ⟨by rfl, by (intro w hSw; (try dsimp only at hSw); go_simp; try with_reducible rfl)⟩) hHeld ?_
  simp only [Act.put, List.getElem_toArray, List.getElem_cons_zero, List.getElem_cons_succ, List.setIfInBounds_toArray, List.set_cons_zero, List.set_cons_succ]
  refine wpAnyH_take (i := 6) (oi := _) (v := _) rfl (by kernel_rfl) (by kernel_rfl) (by kernel_rfl) (fun _ _ _ h => h) (Or.inl ⟨by rfl, by (intro w hSw; (try dsimp only at hSw); go_simp; try with_reducible rfl)⟩) hHeld ?_
  simp only [Act.put, List.getElem_toArray, List.getElem_cons_zero, List.getElem_cons_succ, List.setIfInBounds_toArray, List.set_cons_zero, List.set_cons_succ]
  refine wpAnyH_take (i := 7) (oi := _) (v := _) rfl (by kernel_rfl) (by kernel_rfl) (by kernel_rfl) (fun _ _ _ h => h) (Or.inl ⟨by rfl, by (intro w hSw; (try dsimp only at hSw); go_simp; try with_reducible rfl)⟩) hHeld ?_
  simp only [Act.put, List.getElem_toArray, List.getElem_cons_zero, List.getElem_cons_succ, List.setIfInBounds_toArray, List.set_cons_zero, List.set_cons_succ]
  refine wpAnyH_take (i := 8) (oi := _) (v := _) rfl (by kernel_rfl) (by kernel_rfl) (by kernel_rfl) (fun _ _ _ h => h) (Or.inl ⟨by rfl, by (intro w hSw; (try dsimp only at hSw); go_simp; try with_reducible rfl)⟩) hHeld ?_
  simp only [Act.put, List.getElem_toArray, List.getElem_cons_zero, List.getElem_cons_succ, List.setIfInBounds_toArray, List.set_cons_zero, List.set_cons_succ]
  refine wpAnyH_take (i := 9) (oi := _) (v := _) rfl (by kernel_rfl) (by kernel_rfl) (by kernel_rfl) (fun _ _ _ h => h) (Or.inl ⟨by rfl, by (intro w hSw; (try dsimp only at hSw); go_simp; try with_reducible rfl)⟩) hHeld ?_
  simp only [Act.put, List.getElem_toArray, List.getElem_cons_zero, List.getElem_cons_succ, List.setIfInBounds_toArray, List.set_cons_zero, List.set_cons_succ]
  refine wpAnyH_done (by kernel_rfl) ?_ _
  have hB := hHeld.1
  clear hHeld MK SB1
  have B16 := Aside0.mk (B15.out.trans (hB.mono B15.out.size))
  replace TA := Aside0.mk ((hB.block _ (blk_lt TA.out)).trans TA.out)
  replace TB := Aside0.mk ((hB.block _ (blk_lt TB.out)).trans TB.out)
  replace rR1 := Aside0.mk (Kd.R_below rR1.out hB)
  replace rR2 := Aside0.mk (Kd.R_below rR2.out hB)
  replace rR3 := Aside0.mk (Kd.R_below rR3.out hB)
  replace sR1 := Aside0.mk (Kd.R_below sR1.out hB)
  replace sR2 := Aside0.mk (Kd.R_below sR2.out hB)
  replace sR3 := Aside0.mk (Kd.R_below sR3.out hB)
  clear hB
  go_wp2
  go_ret
  exact ⟨rfl, B16.out⟩
end
end Go.Proofs.Ytjjfeoigjhbbpaa.PA
