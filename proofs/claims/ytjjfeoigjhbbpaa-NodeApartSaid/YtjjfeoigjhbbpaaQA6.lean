/- Texts of this claim: contracts of the functions that the statement reaches, and plain laws of what they compute. -/
import Derived.Test.YtjjfeoigjhbbpaaQA5
set_option linter.unusedVariables false
set_option linter.unusedSimpArgs false
namespace Go.Proofs.Ytjjfeoigjhbbpaa.PA
section

open Go.RowKit Go.Proofs.YtjjfeoigjhbbpaaW.PrintWords Go.Proofs.YtjjfeoigjhbbpaaW.PrintLast Go.Proofs.YtjjfeoigjhbbpaaW.PrintMore
attribute [local go_sem] pr_leq pr_geq pr_gtr max2_int min2_int max_two min_two max_three min_three max_four min_four
set_option linter.unusedVariables false
set_option linter.unusedSimpArgs false
attribute [local go_sem high] eqA48
mutual
def cisternref11_Same.j0 : Nat → Bool → Bool → List (S48) → List ByteArray → List Int → Bool → List (S48) → List ByteArray → List Int → Option (Bool)
  | 0, _, _, _, _, _, _, _, _, _ => none
  | k + 1, x39, x326000, x326001, x326002, x326003, x327000, x327001, x327002, x327003 => if x39 = true then (some false) else (cisternref11_Same.l0 k 0 x326000 x326001 x326002 x326003 x327000 x327001 x327002 x327003)
def cisternref11_Same.l0 : Nat → Int → Bool → List (S48) → List ByteArray → List Int → Bool → List (S48) → List ByteArray → List Int → Option (Bool)
  | 0, _, _, _, _, _, _, _, _, _ => none
  | k + 1, x5, x326000, x326001, x326002, x326003, x327000, x327001, x327002, x327003 => if x5 < (x326001.length : Int) then (if 0 ≤ x5 then (if x5 < (x327001.length : Int) then (if (!((((rd_T48 x326001 x5).f0).toList) == (((rd_T48 x327001 x5).f0).toList)) || (!((((rd_T48 x326001 x5).f1).toList) == (((rd_T48 x327001 x5).f1).toList)))) = true then (some false) else (cisternref11_Same.l0 k (wrap64 (x5 + 1)) x326000 x326001 x326002 x326003 x327000 x327001 x327002 x327003)) else (none)) else (none)) else (cisternref11_Same.l1 k 0 x326000 x326001 x326002 x326003 x327000 x327001 x327002 x327003)
def cisternref11_Same.l1 : Nat → Int → Bool → List (S48) → List ByteArray → List Int → Bool → List (S48) → List ByteArray → List Int → Option (Bool)
  | 0, _, _, _, _, _, _, _, _, _ => none
  | k + 1, x6, x326000, x326001, x326002, x326003, x327000, x327001, x327002, x327003 => if x6 < (x326002.length : Int) then (if 0 ≤ x6 then (if x6 < (x327002.length : Int) then (if (rdOf ByteArray.empty x326002 x6).toList = (rdOf ByteArray.empty x327002 x6).toList then (cisternref11_Same.l1 k (wrap64 (x6 + 1)) x326000 x326001 x326002 x326003 x327000 x327001 x327002 x327003) else (some false)) else (none)) else (none)) else (cisternref11_Same.l2 k 0 x326000 x326001 x326002 x326003 x327000 x327001 x327002 x327003)
def cisternref11_Same.l2 : Nat → Int → Bool → List (S48) → List ByteArray → List Int → Bool → List (S48) → List ByteArray → List Int → Option (Bool)
  | 0, _, _, _, _, _, _, _, _, _ => none
  | k + 1, x7, x326000, x326001, x326002, x326003, x327000, x327001, x327002, x327003 => if x7 < (x326003.length : Int) then (if 0 ≤ x7 then (if x7 < (x327003.length : Int) then (if (rd x326003 x7) = (rd x327003 x7) then (cisternref11_Same.l2 k (wrap64 (x7 + 1)) x326000 x326001 x326002 x326003 x327000 x327001 x327002 x327003) else (some false)) else (none)) else (none)) else (some true)
end
def cisternref11_Same.f (k : Nat) (a0_0 : Bool) (l0_1 : List (S48)) (l0_2 : List ByteArray) (l0_3 : List Int) (a1_0 : Bool) (l1_1 : List (S48)) (l1_2 : List ByteArray) (l1_3 : List Int) : Option (Bool) := if (a0_0 != a1_0) = true then (cisternref11_Same.j0 k true a0_0 l0_1 l0_2 l0_3 a1_0 l1_1 l1_2 l1_3) else (if (l0_1.length : Int) = (l1_1.length : Int) then (if (l0_2.length : Int) = (l1_2.length : Int) then (cisternref11_Same.j0 k ((l0_3.length : Int) != (l1_3.length : Int)) a0_0 l0_1 l0_2 l0_3 a1_0 l1_1 l1_2 l1_3) else (cisternref11_Same.j0 k true a0_0 l0_1 l0_2 l0_3 a1_0 l1_1 l1_2 l1_3)) else (cisternref11_Same.j0 k true a0_0 l0_1 l0_2 l0_3 a1_0 l1_1 l1_2 l1_3))
set_option maxHeartbeats 8000000 in
set_option maxRecDepth 100000 in
theorem cisternref11_Same.calls (k : Nat) (a0_0 : Bool) (A0_1 : Option Addr) (c0_1 : Nat) (l0_1 : List (S48)) (A0_2 : Option Addr) (c0_2 : Nat) (l0_2 : List ByteArray) (A0_3 : Option Addr) (c0_3 : Nat) (l0_3 : List Int) (a1_0 : Bool) (A1_1 : Option Addr) (c1_1 : Nat) (l1_1 : List (S48)) (A1_2 : Option Addr) (c1_2 : Nat) (l1_2 : List ByteArray) (A1_3 : Option Addr) (c1_3 : Nat) (l1_3 : List Int) (r : Bool) (w : World) (hr0_1 : Kd.C k48 w A0_1 l0_1.length l0_1) (hc0_1 : l0_1.length ≤ c0_1) (hr0_2 : Kd.C Kd.string w A0_2 l0_2.length l0_2) (hc0_2 : l0_2.length ≤ c0_2) (hr0_3 : Kd.C (Kd.int .i64) w A0_3 l0_3.length l0_3) (hc0_3 : l0_3.length ≤ c0_3) (hr1_1 : Kd.C k48 w A1_1 l1_1.length l1_1) (hc1_1 : l1_1.length ≤ c1_1) (hr1_2 : Kd.C Kd.string w A1_2 l1_2.length l1_2) (hc1_2 : l1_2.length ≤ c1_2) (hr1_3 : Kd.C (Kd.int .i64) w A1_3 l1_3.length l1_3) (hc1_3 : l1_3.length ≤ c1_3) (h : cisternref11_Same.f k a0_0 l0_1 l0_2 l0_3 a1_0 l1_1 l1_2 l1_3 = some r) :
    Calls Try.prog 19 #[.agg #[.bool a0_0, .slice A0_1 l0_1.length c0_1, .slice A0_2 l0_2.length c0_2, .slice A0_3 l0_3.length c0_3], .agg #[.bool a1_0, .slice A1_1 l1_1.length c1_1, .slice A1_2 l1_2.length c1_2, .slice A1_3 l1_3.length c1_3]] w fun e w' => e = .returned (.bool r) ∧ Below w.heap.size w w' := by
  have hu26 := Try.underlying26
  have hu48 := Try.underlying48
  have HR0_1 := Aside0.mk hr0_1
  have HC0_1 := Aside0.mk hc0_1
  clear hr0_1 hc0_1
  have HR0_2 := Aside0.mk hr0_2
  have HC0_2 := Aside0.mk hc0_2
  clear hr0_2 hc0_2
  have HR0_3 := Aside0.mk hr0_3
  have HC0_3 := Aside0.mk hc0_3
  clear hr0_3 hc0_3
  have HR1_1 := Aside0.mk hr1_1
  have HC1_1 := Aside0.mk hc1_1
  clear hr1_1 hc1_1
  have HR1_2 := Aside0.mk hr1_2
  have HC1_2 := Aside0.mk hc1_2
  clear hr1_2 hc1_2
  have HR1_3 := Aside0.mk hr1_3
  have HC1_3 := Aside0.mk hc1_3
  clear hr1_3 hc1_3
  have HB := Aside0.mk (Below.refl w.heap.size w)
  have H : (if (a0_0 != a1_0) = true then (cisternref11_Same.j0 k true a0_0 l0_1 l0_2 l0_3 a1_0 l1_1 l1_2 l1_3) else (if (l0_1.length : Int) = (l1_1.length : Int) then (if (l0_2.length : Int) = (l1_2.length : Int) then (cisternref11_Same.j0 k ((l0_3.length : Int) != (l1_3.length : Int)) a0_0 l0_1 l0_2 l0_3 a1_0 l1_1 l1_2 l1_3) else (cisternref11_Same.j0 k true a0_0 l0_1 l0_2 l0_3 a1_0 l1_1 l1_2 l1_3)) else (cisternref11_Same.j0 k true a0_0 l0_1 l0_2 l0_3 a1_0 l1_1 l1_2 l1_3))) = some r := h
  clear h
  have HC3 := Aside0.mk H
  clear H
  go_enter Try.func19, Try.ntmps19
  go_upto_region 1 with (first | ((with_reducible refine gate_dst (N := 2) rfl ?_); (try (refine gate_guard (by rfl) ?_; dsimp only)); refine box_event ?hg (N := 2) ?hd (cs := #[.bool a0_0, .slice A0_1 l0_1.length c0_1, .slice A0_2 l0_2.length c0_2, .slice A0_3 l0_3.length c0_3]) (t := 26) ?hr ?_; (case hd => rfl); (case hg => rfl); (case hr => first | (go_simp; done) | (go_simp; rfl)); intro gb325 hg w4 hbox hb; have n0_ := Aside0.mk (below_step (by repeat (first | (with_reducible first | exact HB.out | apply below_alloc | apply pw_below_drewN | apply below_drew1) | exact HB.out)) hb); have n1_ := Aside0.mk (hbox); have n2_ := Aside0.mk ((by rw [hg]; exact (below_size (by repeat (first | (with_reducible first | exact HB.out | apply below_alloc | apply pw_below_drewN | apply below_drew1) | exact HB.out))) : w.heap.size ≤ gb325)); have n3_ := Aside0.mk ((by rw [hg]; exact (below_size (by repeat (first | (with_reducible first | exact HB.out | apply below_alloc | apply pw_below_drewN | apply below_drew1) | exact HB.out))) : w.heap.size ≤ gb325)); clear HB; have HB := n0_; have BK325 := n1_; have GW325 := n2_; have GE325 := n3_; clear n0_ n1_ n2_ n3_; clear hb hbox hg) | ((with_reducible refine gate_dst (N := 3) rfl ?_); (try (refine gate_guard (by rfl) ?_; dsimp only)); refine box_event ?hg (N := 3) ?hd (cs := #[.bool a1_0, .slice A1_1 l1_1.length c1_1, .slice A1_2 l1_2.length c1_2, .slice A1_3 l1_3.length c1_3]) (t := 26) ?hr ?_; (case hd => rfl); (case hg => rfl); (case hr => first | (go_simp; done) | (go_simp; rfl)); intro gb326 hg w5 hbox hb; have n0_ := Aside0.mk (blk_below (g := gb325) (o := .cells #[.bool a0_0, .slice A0_1 l0_1.length c0_1, .slice A0_2 l0_2.length c0_2, .slice A0_3 l0_3.length c0_3] 26 (0, 0)) (by (with_reducible repeat (first | refine blk_drewN ?_ _ | refine blk_drew ?_ | refine blk_alloc ?_ _)); exact BK325.out) hb); have n1_ := Aside0.mk (below_step (by repeat (first | (with_reducible first | exact HB.out | apply below_alloc | apply pw_below_drewN | apply below_drew1 | refine below_set ?_ GE325.out) | exact HB.out)) hb); have n2_ := Aside0.mk (hbox); have n3_ := Aside0.mk ((by rw [hg]; exact (below_size (by repeat (first | (with_reducible first | exact HB.out | apply below_alloc | apply pw_below_drewN | apply below_drew1 | refine below_set ?_ GE325.out) | exact HB.out))) : w.heap.size ≤ gb326)); have n4_ := Aside0.mk ((by rw [hg]; exact (below_size (by repeat (first | (with_reducible first | exact HB.out | apply below_alloc | apply pw_below_drewN | apply below_drew1 | refine below_set ?_ GE325.out) | exact HB.out))) : w.heap.size ≤ gb326)); have n5_ := Aside0.mk ((by rw [hg]; exact Nat.ne_of_lt (blk_lt (g := gb325) (o := .cells #[.bool a0_0, .slice A0_1 l0_1.length c0_1, .slice A0_2 l0_2.length c0_2, .slice A0_3 l0_3.length c0_3] 26 (0, 0)) (by (with_reducible repeat (first | refine blk_drewN ?_ _ | refine blk_drew ?_ | refine blk_alloc ?_ _)); exact BK325.out)) : gb325 ≠ gb326)); have n6_ := Aside0.mk ((by rw [hg]; exact Nat.ne_of_gt (blk_lt (g := gb325) (o := .cells #[.bool a0_0, .slice A0_1 l0_1.length c0_1, .slice A0_2 l0_2.length c0_2, .slice A0_3 l0_3.length c0_3] 26 (0, 0)) (by (with_reducible repeat (first | refine blk_drewN ?_ _ | refine blk_drew ?_ | refine blk_alloc ?_ _)); exact BK325.out)) : gb326 ≠ gb325)); clear BK325; clear HB; have BK325 := n0_; have HB := n1_; have BK326 := n2_; have GW326 := n3_; have GE326 := n4_; have NB325_326 := n5_; have NB326_325 := n6_; clear n0_ n1_ n2_ n3_ n4_ n5_ n6_; clear hb hbox hg))
  repeat (go_quiet (first | ((with_reducible refine gate_dst (N := 2) rfl ?_); (try (refine gate_guard (by rfl) ?_; dsimp only)); refine box_event ?hg (N := 2) ?hd (cs := #[.bool a0_0, .slice A0_1 l0_1.length c0_1, .slice A0_2 l0_2.length c0_2, .slice A0_3 l0_3.length c0_3]) (t := 26) ?hr ?_; (case hd => rfl); (case hg => rfl); (case hr => first | (go_simp; done) | (go_simp; rfl)); intro gb325 hg w4 hbox hb; have n0_ := Aside0.mk (below_step (by repeat (first | (with_reducible first | exact HB.out | apply below_alloc | apply pw_below_drewN | apply below_drew1) | exact HB.out)) hb); have n1_ := Aside0.mk (hbox); have n2_ := Aside0.mk ((by rw [hg]; exact (below_size (by repeat (first | (with_reducible first | exact HB.out | apply below_alloc | apply pw_below_drewN | apply below_drew1) | exact HB.out))) : w.heap.size ≤ gb325)); have n3_ := Aside0.mk ((by rw [hg]; exact (below_size (by repeat (first | (with_reducible first | exact HB.out | apply below_alloc | apply pw_below_drewN | apply below_drew1) | exact HB.out))) : w.heap.size ≤ gb325)); clear HB; have HB := n0_; have BK325 := n1_; have GW325 := n2_; have GE325 := n3_; clear n0_ n1_ n2_ n3_; clear hb hbox hg) | ((with_reducible refine gate_dst (N := 3) rfl ?_); (try (refine gate_guard (by rfl) ?_; dsimp only)); refine box_event ?hg (N := 3) ?hd (cs := #[.bool a1_0, .slice A1_1 l1_1.length c1_1, .slice A1_2 l1_2.length c1_2, .slice A1_3 l1_3.length c1_3]) (t := 26) ?hr ?_; (case hd => rfl); (case hg => rfl); (case hr => first | (go_simp; done) | (go_simp; rfl)); intro gb326 hg w5 hbox hb; have n0_ := Aside0.mk (blk_below (g := gb325) (o := .cells #[.bool a0_0, .slice A0_1 l0_1.length c0_1, .slice A0_2 l0_2.length c0_2, .slice A0_3 l0_3.length c0_3] 26 (0, 0)) (by (with_reducible repeat (first | refine blk_drewN ?_ _ | refine blk_drew ?_ | refine blk_alloc ?_ _)); exact BK325.out) hb); have n1_ := Aside0.mk (below_step (by repeat (first | (with_reducible first | exact HB.out | apply below_alloc | apply pw_below_drewN | apply below_drew1 | refine below_set ?_ GE325.out) | exact HB.out)) hb); have n2_ := Aside0.mk (hbox); have n3_ := Aside0.mk ((by rw [hg]; exact (below_size (by repeat (first | (with_reducible first | exact HB.out | apply below_alloc | apply pw_below_drewN | apply below_drew1 | refine below_set ?_ GE325.out) | exact HB.out))) : w.heap.size ≤ gb326)); have n4_ := Aside0.mk ((by rw [hg]; exact (below_size (by repeat (first | (with_reducible first | exact HB.out | apply below_alloc | apply pw_below_drewN | apply below_drew1 | refine below_set ?_ GE325.out) | exact HB.out))) : w.heap.size ≤ gb326)); have n5_ := Aside0.mk ((by rw [hg]; exact Nat.ne_of_lt (blk_lt (g := gb325) (o := .cells #[.bool a0_0, .slice A0_1 l0_1.length c0_1, .slice A0_2 l0_2.length c0_2, .slice A0_3 l0_3.length c0_3] 26 (0, 0)) (by (with_reducible repeat (first | refine blk_drewN ?_ _ | refine blk_drew ?_ | refine blk_alloc ?_ _)); exact BK325.out)) : gb325 ≠ gb326)); have n6_ := Aside0.mk ((by rw [hg]; exact Nat.ne_of_gt (blk_lt (g := gb325) (o := .cells #[.bool a0_0, .slice A0_1 l0_1.length c0_1, .slice A0_2 l0_2.length c0_2, .slice A0_3 l0_3.length c0_3] 26 (0, 0)) (by (with_reducible repeat (first | refine blk_drewN ?_ _ | refine blk_drew ?_ | refine blk_alloc ?_ _)); exact BK325.out)) : gb326 ≠ gb325)); clear BK325; clear HB; have BK325 := n0_; have HB := n1_; have BK326 := n2_; have GW326 := n3_; have GE326 := n4_; have NB325_326 := n5_; have NB326_325 := n6_; clear n0_ n1_ n2_ n3_ n4_ n5_ n6_; clear hb hbox hg)); go_upto_region 1 with (first | ((with_reducible refine gate_dst (N := 2) rfl ?_); (try (refine gate_guard (by rfl) ?_; dsimp only)); refine box_event ?hg (N := 2) ?hd (cs := #[.bool a0_0, .slice A0_1 l0_1.length c0_1, .slice A0_2 l0_2.length c0_2, .slice A0_3 l0_3.length c0_3]) (t := 26) ?hr ?_; (case hd => rfl); (case hg => rfl); (case hr => first | (go_simp; done) | (go_simp; rfl)); intro gb325 hg w4 hbox hb; have n0_ := Aside0.mk (below_step (by repeat (first | (with_reducible first | exact HB.out | apply below_alloc | apply pw_below_drewN | apply below_drew1) | exact HB.out)) hb); have n1_ := Aside0.mk (hbox); have n2_ := Aside0.mk ((by rw [hg]; exact (below_size (by repeat (first | (with_reducible first | exact HB.out | apply below_alloc | apply pw_below_drewN | apply below_drew1) | exact HB.out))) : w.heap.size ≤ gb325)); have n3_ := Aside0.mk ((by rw [hg]; exact (below_size (by repeat (first | (with_reducible first | exact HB.out | apply below_alloc | apply pw_below_drewN | apply below_drew1) | exact HB.out))) : w.heap.size ≤ gb325)); clear HB; have HB := n0_; have BK325 := n1_; have GW325 := n2_; have GE325 := n3_; clear n0_ n1_ n2_ n3_; clear hb hbox hg) | ((with_reducible refine gate_dst (N := 3) rfl ?_); (try (refine gate_guard (by rfl) ?_; dsimp only)); refine box_event ?hg (N := 3) ?hd (cs := #[.bool a1_0, .slice A1_1 l1_1.length c1_1, .slice A1_2 l1_2.length c1_2, .slice A1_3 l1_3.length c1_3]) (t := 26) ?hr ?_; (case hd => rfl); (case hg => rfl); (case hr => first | (go_simp; done) | (go_simp; rfl)); intro gb326 hg w5 hbox hb; have n0_ := Aside0.mk (blk_below (g := gb325) (o := .cells #[.bool a0_0, .slice A0_1 l0_1.length c0_1, .slice A0_2 l0_2.length c0_2, .slice A0_3 l0_3.length c0_3] 26 (0, 0)) (by (with_reducible repeat (first | refine blk_drewN ?_ _ | refine blk_drew ?_ | refine blk_alloc ?_ _)); exact BK325.out) hb); have n1_ := Aside0.mk (below_step (by repeat (first | (with_reducible first | exact HB.out | apply below_alloc | apply pw_below_drewN | apply below_drew1 | refine below_set ?_ GE325.out) | exact HB.out)) hb); have n2_ := Aside0.mk (hbox); have n3_ := Aside0.mk ((by rw [hg]; exact (below_size (by repeat (first | (with_reducible first | exact HB.out | apply below_alloc | apply pw_below_drewN | apply below_drew1 | refine below_set ?_ GE325.out) | exact HB.out))) : w.heap.size ≤ gb326)); have n4_ := Aside0.mk ((by rw [hg]; exact (below_size (by repeat (first | (with_reducible first | exact HB.out | apply below_alloc | apply pw_below_drewN | apply below_drew1 | refine below_set ?_ GE325.out) | exact HB.out))) : w.heap.size ≤ gb326)); have n5_ := Aside0.mk ((by rw [hg]; exact Nat.ne_of_lt (blk_lt (g := gb325) (o := .cells #[.bool a0_0, .slice A0_1 l0_1.length c0_1, .slice A0_2 l0_2.length c0_2, .slice A0_3 l0_3.length c0_3] 26 (0, 0)) (by (with_reducible repeat (first | refine blk_drewN ?_ _ | refine blk_drew ?_ | refine blk_alloc ?_ _)); exact BK325.out)) : gb325 ≠ gb326)); have n6_ := Aside0.mk ((by rw [hg]; exact Nat.ne_of_gt (blk_lt (g := gb325) (o := .cells #[.bool a0_0, .slice A0_1 l0_1.length c0_1, .slice A0_2 l0_2.length c0_2, .slice A0_3 l0_3.length c0_3] 26 (0, 0)) (by (with_reducible repeat (first | refine blk_drewN ?_ _ | refine blk_drew ?_ | refine blk_alloc ?_ _)); exact BK325.out)) : gb326 ≠ gb325)); clear BK325; clear HB; have BK325 := n0_; have HB := n1_; have BK326 := n2_; have GW326 := n3_; have GE326 := n4_; have NB325_326 := n5_; have NB326_325 := n6_; clear n0_ n1_ n2_ n3_ n4_ n5_ n6_; clear hb hbox hg)))
  (try simp only [Act.put, List.setIfInBounds_toArray, List.set_cons_zero, List.set_cons_succ])
  go_cut [39] (fun v39 wc => ∃ (kq : Nat) (x39_2 : Bool), v39 = .bool x39_2 ∧ Aside0 (cisternref11_Same.j0 kq x39_2 a0_0 l0_1 l0_2 l0_3 a1_0 l1_1 l1_2 l1_3 = some r) ∧ Aside0 (kq ≤ k) ∧ Aside0 (wc.heap[gb325]? = some (.cells #[.bool a0_0, (.slice A0_1 l0_1.length c0_1), (.slice A0_2 l0_2.length c0_2), (.slice A0_3 l0_3.length c0_3)] 26 (0, 0))) ∧ Aside0 (wc.heap[gb326]? = some (.cells #[.bool a1_0, (.slice A1_1 l1_1.length c1_1), (.slice A1_2 l1_2.length c1_2), (.slice A1_3 l1_3.length c1_3)] 26 (0, 0))) ∧ Aside0 (Below w.heap.size w wc))
  case first =>
    have H := HC3.out
    clear HC3
    by_cases c6 : (a0_0 != a1_0) = true
    · rw [if_pos c6] at H
      have c6b0 : (a0_0 != a1_0) = true := c6
      (try (have c6b1 : decide (a0_0 = a1_0) = false := by simpa using c6))
      (try (have c6b2 : (a0_0 == a1_0) = false := by simpa using c6))
      (try (have c6b3 : ¬ (a0_0 = a1_0) := by simpa using c6))
      clear c6
      (first | rw [c6b0] | (simp only [i64_w, i32_w]; rw [c6b0]) | skip)
      have H' := Aside0.mk H
      clear H
      have hnb7 := NB325_326.out
      have hnc7 := NB326_325.out
      have hcz8_0 : w5.cell? ⟨gb325, 0, none⟩ = some (.bool a0_0) := (blk_cell BK325.out 0).trans rfl
      have hcz8_1 : w5.cell? ⟨gb325, 1, none⟩ = some (.slice A0_1 l0_1.length c0_1) := (blk_cell BK325.out 1).trans rfl
      have hcz8_2 : w5.cell? ⟨gb325, 2, none⟩ = some (.slice A0_2 l0_2.length c0_2) := (blk_cell BK325.out 2).trans rfl
      have hcz8_3 : w5.cell? ⟨gb325, 3, none⟩ = some (.slice A0_3 l0_3.length c0_3) := (blk_cell BK325.out 3).trans rfl
      have hfz8_0 := blk_frozen BK325.out 0
      have hfz8_1 := blk_frozen BK325.out 1
      have hfz8_2 := blk_frozen BK325.out 2
      have hfz8_3 := blk_frozen BK325.out 3
      have hcz9_0 : w5.cell? ⟨gb326, 0, none⟩ = some (.bool a1_0) := (blk_cell BK326.out 0).trans rfl
      have hcz9_1 : w5.cell? ⟨gb326, 1, none⟩ = some (.slice A1_1 l1_1.length c1_1) := (blk_cell BK326.out 1).trans rfl
      have hcz9_2 : w5.cell? ⟨gb326, 2, none⟩ = some (.slice A1_2 l1_2.length c1_2) := (blk_cell BK326.out 2).trans rfl
      have hcz9_3 : w5.cell? ⟨gb326, 3, none⟩ = some (.slice A1_3 l1_3.length c1_3) := (blk_cell BK326.out 3).trans rfl
      have hfz9_0 := blk_frozen BK326.out 0
      have hfz9_1 := blk_frozen BK326.out 1
      have hfz9_2 := blk_frozen BK326.out 2
      have hfz9_3 := blk_frozen BK326.out 3
      go_wp2
      repeat (go_quiet (fail); try go_wp2)
      go_meet
      case rel => exact ⟨_, (true), (by first | rfl | (simp; done) | (simp [*]; done)), H', ⟨by first | omega | exact Nat.le_refl _⟩, ⟨by (with_reducible repeat (first | refine blk_drewN ?_ _ | refine blk_drew ?_ | refine blk_alloc ?_ _)); exact BK325.out⟩, ⟨by (with_reducible repeat (first | refine blk_drewN ?_ _ | refine blk_drew ?_ | refine blk_alloc ?_ _)); exact BK326.out⟩, ⟨by repeat (first | (with_reducible first | exact HB.out | apply below_alloc | apply pw_below_drewN | apply below_drew1 | refine below_set ?_ GE325.out | refine below_set ?_ GE326.out) | exact HB.out)⟩⟩
    · rw [if_neg c6] at H
      have c6b0 : (a0_0 != a1_0) = false := by simpa using c6
      (try (have c6b1 : decide (a0_0 = a1_0) = true := by simpa using c6))
      (try (have c6b2 : (a0_0 == a1_0) = true := by simpa using c6))
      clear c6
      (first | rw [c6b0] | (simp only [i64_w, i32_w]; rw [c6b0]) | skip)
      by_cases c10 : (l0_1.length : Int) = (l1_1.length : Int)
      · rw [if_pos c10] at H
        have c10b0 : ((l0_1.length : Int) == (l1_1.length : Int)) = true := beq_iff_eq.mpr c10
        have c10b1 : ((l0_1.length : Int) != (l1_1.length : Int)) = false := bne_eq_false_iff_eq.mpr c10
        have c10b2 : (l0_1.length == l1_1.length) = true := by first | simpa using c10 | (simp at c10 ⊢; omega)
        clear c10
        by_cases c11 : (l0_2.length : Int) = (l1_2.length : Int)
        · rw [if_pos c11] at H
          have c11b0 : ((l0_2.length : Int) == (l1_2.length : Int)) = true := beq_iff_eq.mpr c11
          have c11b1 : ((l0_2.length : Int) != (l1_2.length : Int)) = false := bne_eq_false_iff_eq.mpr c11
          have c11b2 : (l0_2.length == l1_2.length) = true := by first | simpa using c11 | (simp at c11 ⊢; omega)
          clear c11
          have H' := Aside0.mk H
          clear H
          have hnb12 := NB325_326.out
          have hnc12 := NB326_325.out
          have hcz13_0 : w5.cell? ⟨gb325, 0, none⟩ = some (.bool a0_0) := (blk_cell BK325.out 0).trans rfl
          have hcz13_1 : w5.cell? ⟨gb325, 1, none⟩ = some (.slice A0_1 l0_1.length c0_1) := (blk_cell BK325.out 1).trans rfl
          have hcz13_2 : w5.cell? ⟨gb325, 2, none⟩ = some (.slice A0_2 l0_2.length c0_2) := (blk_cell BK325.out 2).trans rfl
          have hcz13_3 : w5.cell? ⟨gb325, 3, none⟩ = some (.slice A0_3 l0_3.length c0_3) := (blk_cell BK325.out 3).trans rfl
          have hfz13_0 := blk_frozen BK325.out 0
          have hfz13_1 := blk_frozen BK325.out 1
          have hfz13_2 := blk_frozen BK325.out 2
          have hfz13_3 := blk_frozen BK325.out 3
          have hcz14_0 : w5.cell? ⟨gb326, 0, none⟩ = some (.bool a1_0) := (blk_cell BK326.out 0).trans rfl
          have hcz14_1 : w5.cell? ⟨gb326, 1, none⟩ = some (.slice A1_1 l1_1.length c1_1) := (blk_cell BK326.out 1).trans rfl
          have hcz14_2 : w5.cell? ⟨gb326, 2, none⟩ = some (.slice A1_2 l1_2.length c1_2) := (blk_cell BK326.out 2).trans rfl
          have hcz14_3 : w5.cell? ⟨gb326, 3, none⟩ = some (.slice A1_3 l1_3.length c1_3) := (blk_cell BK326.out 3).trans rfl
          have hfz14_0 := blk_frozen BK326.out 0
          have hfz14_1 := blk_frozen BK326.out 1
          have hfz14_2 := blk_frozen BK326.out 2
          have hfz14_3 := blk_frozen BK326.out 3
          go_wp2
          repeat (go_quiet (fail); try go_wp2)
          go_meet
          case rel => exact ⟨_, (((l0_3.length : Int) != (l1_3.length : Int))), (by first | rfl | (simp; done) | (simp [*]; done)), H', ⟨by first | omega | exact Nat.le_refl _⟩, ⟨by (with_reducible repeat (first | refine blk_drewN ?_ _ | refine blk_drew ?_ | refine blk_alloc ?_ _)); exact BK325.out⟩, ⟨by (with_reducible repeat (first | refine blk_drewN ?_ _ | refine blk_drew ?_ | refine blk_alloc ?_ _)); exact BK326.out⟩, ⟨by repeat (first | (with_reducible first | exact HB.out | apply below_alloc | apply pw_below_drewN | apply below_drew1 | refine below_set ?_ GE325.out | refine below_set ?_ GE326.out) | exact HB.out)⟩⟩
        · rw [if_neg c11] at H
          have c11b0 : ((l0_2.length : Int) == (l1_2.length : Int)) = false := beq_eq_false_iff_ne.mpr c11
          have c11b1 : ((l0_2.length : Int) != (l1_2.length : Int)) = true := bne_iff_ne.mpr c11
          have c11b2 : (l0_2.length == l1_2.length) = false := by first | simpa using c11 | (simp at c11 ⊢; omega)
          have H' := Aside0.mk H
          clear H
          have hnb15 := NB325_326.out
          have hnc15 := NB326_325.out
          have hcz16_0 : w5.cell? ⟨gb325, 0, none⟩ = some (.bool a0_0) := (blk_cell BK325.out 0).trans rfl
          have hcz16_1 : w5.cell? ⟨gb325, 1, none⟩ = some (.slice A0_1 l0_1.length c0_1) := (blk_cell BK325.out 1).trans rfl
          have hcz16_2 : w5.cell? ⟨gb325, 2, none⟩ = some (.slice A0_2 l0_2.length c0_2) := (blk_cell BK325.out 2).trans rfl
          have hcz16_3 : w5.cell? ⟨gb325, 3, none⟩ = some (.slice A0_3 l0_3.length c0_3) := (blk_cell BK325.out 3).trans rfl
          have hfz16_0 := blk_frozen BK325.out 0
          have hfz16_1 := blk_frozen BK325.out 1
          have hfz16_2 := blk_frozen BK325.out 2
          have hfz16_3 := blk_frozen BK325.out 3
          have hcz17_0 : w5.cell? ⟨gb326, 0, none⟩ = some (.bool a1_0) := (blk_cell BK326.out 0).trans rfl
          have hcz17_1 : w5.cell? ⟨gb326, 1, none⟩ = some (.slice A1_1 l1_1.length c1_1) := (blk_cell BK326.out 1).trans rfl
          have hcz17_2 : w5.cell? ⟨gb326, 2, none⟩ = some (.slice A1_2 l1_2.length c1_2) := (blk_cell BK326.out 2).trans rfl
          have hcz17_3 : w5.cell? ⟨gb326, 3, none⟩ = some (.slice A1_3 l1_3.length c1_3) := (blk_cell BK326.out 3).trans rfl
          have hfz17_0 := blk_frozen BK326.out 0
          have hfz17_1 := blk_frozen BK326.out 1
          have hfz17_2 := blk_frozen BK326.out 2
          have hfz17_3 := blk_frozen BK326.out 3
          go_wp2
          repeat (go_quiet (fail); try go_wp2)
          go_meet
          case rel => exact ⟨_, (true), (by first | rfl | (simp; done) | (simp [*]; done)), H', ⟨by first | omega | exact Nat.le_refl _⟩, ⟨by (with_reducible repeat (first | refine blk_drewN ?_ _ | refine blk_drew ?_ | refine blk_alloc ?_ _)); exact BK325.out⟩, ⟨by (with_reducible repeat (first | refine blk_drewN ?_ _ | refine blk_drew ?_ | refine blk_alloc ?_ _)); exact BK326.out⟩, ⟨by repeat (first | (with_reducible first | exact HB.out | apply below_alloc | apply pw_below_drewN | apply below_drew1 | refine below_set ?_ GE325.out | refine below_set ?_ GE326.out) | exact HB.out)⟩⟩
      · rw [if_neg c10] at H
        have c10b0 : ((l0_1.length : Int) == (l1_1.length : Int)) = false := beq_eq_false_iff_ne.mpr c10
        have c10b1 : ((l0_1.length : Int) != (l1_1.length : Int)) = true := bne_iff_ne.mpr c10
        have c10b2 : (l0_1.length == l1_1.length) = false := by first | simpa using c10 | (simp at c10 ⊢; omega)
        have H' := Aside0.mk H
        clear H
        have hnb18 := NB325_326.out
        have hnc18 := NB326_325.out
        have hcz19_0 : w5.cell? ⟨gb325, 0, none⟩ = some (.bool a0_0) := (blk_cell BK325.out 0).trans rfl
        have hcz19_1 : w5.cell? ⟨gb325, 1, none⟩ = some (.slice A0_1 l0_1.length c0_1) := (blk_cell BK325.out 1).trans rfl
        have hcz19_2 : w5.cell? ⟨gb325, 2, none⟩ = some (.slice A0_2 l0_2.length c0_2) := (blk_cell BK325.out 2).trans rfl
        have hcz19_3 : w5.cell? ⟨gb325, 3, none⟩ = some (.slice A0_3 l0_3.length c0_3) := (blk_cell BK325.out 3).trans rfl
        have hfz19_0 := blk_frozen BK325.out 0
        have hfz19_1 := blk_frozen BK325.out 1
        have hfz19_2 := blk_frozen BK325.out 2
        have hfz19_3 := blk_frozen BK325.out 3
        have hcz20_0 : w5.cell? ⟨gb326, 0, none⟩ = some (.bool a1_0) := (blk_cell BK326.out 0).trans rfl
        have hcz20_1 : w5.cell? ⟨gb326, 1, none⟩ = some (.slice A1_1 l1_1.length c1_1) := (blk_cell BK326.out 1).trans rfl
        have hcz20_2 : w5.cell? ⟨gb326, 2, none⟩ = some (.slice A1_2 l1_2.length c1_2) := (blk_cell BK326.out 2).trans rfl
        have hcz20_3 : w5.cell? ⟨gb326, 3, none⟩ = some (.slice A1_3 l1_3.length c1_3) := (blk_cell BK326.out 3).trans rfl
        have hfz20_0 := blk_frozen BK326.out 0
        have hfz20_1 := blk_frozen BK326.out 1
        have hfz20_2 := blk_frozen BK326.out 2
        have hfz20_3 := blk_frozen BK326.out 3
        go_wp2
        repeat (go_quiet (fail); try go_wp2)
        go_meet
        case rel => exact ⟨_, (true), (by first | rfl | (simp; done) | (simp [*]; done)), H', ⟨by first | omega | exact Nat.le_refl _⟩, ⟨by (with_reducible repeat (first | refine blk_drewN ?_ _ | refine blk_drew ?_ | refine blk_alloc ?_ _)); exact BK325.out⟩, ⟨by (with_reducible repeat (first | refine blk_drewN ?_ _ | refine blk_drew ?_ | refine blk_alloc ?_ _)); exact BK326.out⟩, ⟨by repeat (first | (with_reducible first | exact HB.out | apply below_alloc | apply pw_below_drewN | apply below_drew1 | refine below_set ?_ GE325.out | refine below_set ?_ GE326.out) | exact HB.out)⟩⟩
  case rest =>
    clear HC3
    try clear c1
    try clear p2
    try clear c6
    try clear c6b0
    try clear c6b1
    try clear c6b2
    try clear c7
    try clear c10
    try clear c10b0
    try clear c10b1
    try clear c10b2
    try clear c11
    try clear c11b0
    try clear c11b1
    try clear c11b2
    try clear c12
    try clear c15
    try clear c18
    try clear c19
    try clear hcz13_0
    try clear hcz13_1
    try clear hcz13_2
    try clear hcz13_3
    try clear hcz14_0
    try clear hcz14_1
    try clear hcz14_2
    try clear hcz14_3
    try clear hcz16_0
    try clear hcz16_1
    try clear hcz16_2
    try clear hcz16_3
    try clear hcz17_0
    try clear hcz17_1
    try clear hcz17_2
    try clear hcz17_3
    try clear hcz19_0
    try clear hcz19_1
    try clear hcz19_2
    try clear hcz19_3
    try clear hcz20_0
    try clear hcz20_1
    try clear hcz20_2
    try clear hcz20_3
    try clear hcz8_0
    try clear hcz8_1
    try clear hcz8_2
    try clear hcz8_3
    try clear hcz9_0
    try clear hcz9_1
    try clear hcz9_2
    try clear hcz9_3
    try clear hfz13_0
    try clear hfz13_1
    try clear hfz13_2
    try clear hfz13_3
    try clear hfz14_0
    try clear hfz14_1
    try clear hfz14_2
    try clear hfz14_3
    try clear hfz16_0
    try clear hfz16_1
    try clear hfz16_2
    try clear hfz16_3
    try clear hfz17_0
    try clear hfz17_1
    try clear hfz17_2
    try clear hfz17_3
    try clear hfz19_0
    try clear hfz19_1
    try clear hfz19_2
    try clear hfz19_3
    try clear hfz20_0
    try clear hfz20_1
    try clear hfz20_2
    try clear hfz20_3
    try clear hfz8_0
    try clear hfz8_1
    try clear hfz8_2
    try clear hfz8_3
    try clear hfz9_0
    try clear hfz9_1
    try clear hfz9_2
    try clear hfz9_3
    obtain ⟨kq, x39_2, rfl, HA, HJ2, BK325, BK326, HB⟩ := hcut
    cases kq with
    | zero => exact absurd HA.out (by simp [cisternref11_Same.j0])
    | succ kj2 =>
      have H := HA.out
      clear HA
      simp only [cisternref11_Same.j0] at H
      by_cases c21 : x39_2 = true
      · subst c21
        have H1 : (some false) = some r := by rw [if_pos rfl] at H; exact H
        clear H
        have H := H1
        clear H1
        obtain rfl := Option.some.inj H
        go_wp2
        repeat (go_quiet (fail); try go_wp2)
        go_ret
        exact ⟨by first | rfl | (simp [errW_none, errW_some] <;> rfl) | (simp [*, errW_none, errW_some] <;> rfl), by repeat (first | (with_reducible first | exact HB.out | apply below_alloc | apply pw_below_drewN | apply below_drew1 | refine below_set ?_ GE325.out | refine below_set ?_ GE326.out) | exact HB.out)⟩
      · replace c21 := Bool.eq_false_iff.mpr c21
        subst c21
        have H1 : (cisternref11_Same.l0 kj2 0 a0_0 l0_1 l0_2 l0_3 a1_0 l1_1 l1_2 l1_3) = some r := by rw [if_neg (show ¬ (false = true) by decide)] at H; exact H
        clear H
        have H := H1
        clear H1
        have H' := Aside0.mk H
        clear H
        go_wp2
        repeat (go_quiet (fail); try go_wp2)
        go_loopg [5] kj2 (fun kq v5 w' => ∃ (x5_2 : Int), v5 = .int .i64 x5_2 ∧ Aside0 (cisternref11_Same.l0 kq x5_2 a0_0 l0_1 l0_2 l0_3 a1_0 l1_1 l1_2 l1_3 = some r) ∧ Aside0 (kq ≤ kj2) ∧ Aside0 (w'.heap[gb325]? = some (.cells #[.bool a0_0, (.slice A0_1 l0_1.length c0_1), (.slice A0_2 l0_2.length c0_2), (.slice A0_3 l0_3.length c0_3)] 26 (0, 0))) ∧ Aside0 (w'.heap[gb326]? = some (.cells #[.bool a1_0, (.slice A1_1 l1_1.length c1_1), (.slice A1_2 l1_2.length c1_2), (.slice A1_3 l1_3.length c1_3)] 26 (0, 0))) ∧ Aside0 (Below w.heap.size w w'))
        case atStart => exact ⟨(0), (by first | rfl | (simp; done) | (simp [*]; done)), H', ⟨Nat.le_refl _⟩, ⟨by (with_reducible repeat (first | refine blk_drewN ?_ _ | refine blk_drew ?_ | refine blk_alloc ?_ _)); exact BK325.out⟩, ⟨by (with_reducible repeat (first | refine blk_drewN ?_ _ | refine blk_drew ?_ | refine blk_alloc ?_ _)); exact BK326.out⟩, ⟨by repeat (first | (with_reducible first | exact HB.out | apply below_alloc | apply pw_below_drewN | apply below_drew1 | refine below_set ?_ GE325.out | refine below_set ?_ GE326.out) | exact HB.out)⟩⟩
        case round =>
          clear H'
          try clear c1
          try clear c2
          try clear p2
          try clear c6
          try clear c6b0
          try clear c6b1
          try clear c6b2
          try clear c7
          try clear c10
          try clear c10b0
          try clear c10b1
          try clear c10b2
          try clear c11
          try clear c11b0
          try clear c11b1
          try clear c11b2
          try clear c12
          try clear c15
          try clear c18
          try clear c19
          try clear c21
          try clear hcz13_0
          try clear hcz13_1
          try clear hcz13_2
          try clear hcz13_3
          try clear hcz14_0
          try clear hcz14_1
          try clear hcz14_2
          try clear hcz14_3
          try clear hcz16_0
          try clear hcz16_1
          try clear hcz16_2
          try clear hcz16_3
          try clear hcz17_0
          try clear hcz17_1
          try clear hcz17_2
          try clear hcz17_3
          try clear hcz19_0
          try clear hcz19_1
          try clear hcz19_2
          try clear hcz19_3
          try clear hcz20_0
          try clear hcz20_1
          try clear hcz20_2
          try clear hcz20_3
          try clear hcz8_0
          try clear hcz8_1
          try clear hcz8_2
          try clear hcz8_3
          try clear hcz9_0
          try clear hcz9_1
          try clear hcz9_2
          try clear hcz9_3
          try clear hfz13_0
          try clear hfz13_1
          try clear hfz13_2
          try clear hfz13_3
          try clear hfz14_0
          try clear hfz14_1
          try clear hfz14_2
          try clear hfz14_3
          try clear hfz16_0
          try clear hfz16_1
          try clear hfz16_2
          try clear hfz16_3
          try clear hfz17_0
          try clear hfz17_1
          try clear hfz17_2
          try clear hfz17_3
          try clear hfz19_0
          try clear hfz19_1
          try clear hfz19_2
          try clear hfz19_3
          try clear hfz20_0
          try clear hfz20_1
          try clear hfz20_2
          try clear hfz20_3
          try clear hfz8_0
          try clear hfz8_1
          try clear hfz8_2
          try clear hfz8_3
          try clear hfz9_0
          try clear hfz9_1
          try clear hfz9_2
          try clear hfz9_3
          try clear p2
          obtain ⟨x5_2, rfl, HA, HK2, BK325, BK326, HB⟩ := hrel
          cases gk with
          | zero => exact absurd HA.out (by simp [cisternref11_Same.l0])
          | succ k2 =>
            have H := HA.out
            clear HA
            simp only [cisternref11_Same.l0] at H
            by_cases c22 : x5_2 < (l0_1.length : Int)
            · rw [if_pos c22] at H
              have c22b0 : decide (x5_2 < (l0_1.length : Int)) = true := decide_eq_true c22
              clear c22
              by_cases c23 : 0 ≤ x5_2
              · rw [if_pos c23] at H
                have c23b0 : decide (0 ≤ x5_2) = true := decide_eq_true c23
                clear c23
                by_cases c24 : x5_2 < (l1_1.length : Int)
                · rw [if_pos c24] at H
                  have c24b0 : decide (x5_2 < (l1_1.length : Int)) = true := decide_eq_true c24
                  clear c24
                  by_cases c25 : (!((((rd_T48 l0_1 x5_2).f0).toList) == (((rd_T48 l1_1 x5_2).f0).toList)) || (!((((rd_T48 l0_1 x5_2).f1).toList) == (((rd_T48 l1_1 x5_2).f1).toList)))) = true
                  · rw [if_pos c25] at H
                    have c25b0 : (!((((rd_T48 l0_1 x5_2).f0).toList) == (((rd_T48 l1_1 x5_2).f0).toList)) || (!((((rd_T48 l0_1 x5_2).f1).toList) == (((rd_T48 l1_1 x5_2).f1).toList)))) = true := c25
                    clear c25
                    obtain rfl := Option.some.inj H
                    have hnb26 := NB325_326.out
                    have hnc26 := NB326_325.out
                    have hcz27_0 : wr.cell? ⟨gb325, 0, none⟩ = some (.bool a0_0) := (blk_cell BK325.out 0).trans rfl
                    have hcz27_1 : wr.cell? ⟨gb325, 1, none⟩ = some (.slice A0_1 l0_1.length c0_1) := (blk_cell BK325.out 1).trans rfl
                    have hcz27_2 : wr.cell? ⟨gb325, 2, none⟩ = some (.slice A0_2 l0_2.length c0_2) := (blk_cell BK325.out 2).trans rfl
                    have hcz27_3 : wr.cell? ⟨gb325, 3, none⟩ = some (.slice A0_3 l0_3.length c0_3) := (blk_cell BK325.out 3).trans rfl
                    have hfz27_0 := blk_frozen BK325.out 0
                    have hfz27_1 := blk_frozen BK325.out 1
                    have hfz27_2 := blk_frozen BK325.out 2
                    have hfz27_3 := blk_frozen BK325.out 3
                    have p327 : 0 ≤ (x5_2 : Int) := of_decide_eq_true (by first | (with_reducible assumption) | assumption)
                    have q327 : x5_2 < (l0_1.length : Int) := of_decide_eq_true (by first | (with_reducible assumption) | assumption)
                    obtain ⟨ad327, e327, hx327_0, hx327_1⟩ := at_T48 HR0_1.out x5_2 p327 q327
                    cases e327
                    replace hx327_0 := (HB.out.cell (World.block_lt_of_cell? w _ hx327_0)).trans hx327_0
                    replace hx327_1 := (HB.out.cell (World.block_lt_of_cell? w _ hx327_1)).trans hx327_1
                    replace p327 := eq_true p327
                    replace q327 := eq_true q327
                    have hcz28_0 : wr.cell? ⟨gb326, 0, none⟩ = some (.bool a1_0) := (blk_cell BK326.out 0).trans rfl
                    have hcz28_1 : wr.cell? ⟨gb326, 1, none⟩ = some (.slice A1_1 l1_1.length c1_1) := (blk_cell BK326.out 1).trans rfl
                    have hcz28_2 : wr.cell? ⟨gb326, 2, none⟩ = some (.slice A1_2 l1_2.length c1_2) := (blk_cell BK326.out 2).trans rfl
                    have hcz28_3 : wr.cell? ⟨gb326, 3, none⟩ = some (.slice A1_3 l1_3.length c1_3) := (blk_cell BK326.out 3).trans rfl
                    have hfz28_0 := blk_frozen BK326.out 0
                    have hfz28_1 := blk_frozen BK326.out 1
                    have hfz28_2 := blk_frozen BK326.out 2
                    have hfz28_3 := blk_frozen BK326.out 3
                    have p328 : 0 ≤ (x5_2 : Int) := of_decide_eq_true (by first | (with_reducible assumption) | assumption)
                    have q328 : x5_2 < (l1_1.length : Int) := of_decide_eq_true (by first | (with_reducible assumption) | assumption)
                    obtain ⟨ad328, e328, hx328_0, hx328_1⟩ := at_T48 HR1_1.out x5_2 p328 q328
                    cases e328
                    replace hx328_0 := (HB.out.cell (World.block_lt_of_cell? w _ hx328_0)).trans hx328_0
                    replace hx328_1 := (HB.out.cell (World.block_lt_of_cell? w _ hx328_1)).trans hx328_1
                    replace p328 := eq_true p328
                    replace q328 := eq_true q328
                    go_wp2
                    repeat (go_quiet (fail); try go_wp2)
                    go_ret
                    exact ⟨by first | rfl | (simp [errW_none, errW_some] <;> rfl) | (simp [*, errW_none, errW_some] <;> rfl), by repeat (first | (with_reducible first | exact HB.out | apply below_alloc | apply pw_below_drewN | apply below_drew1 | refine below_set ?_ GE325.out | refine below_set ?_ GE326.out) | exact HB.out)⟩
                  · rw [if_neg c25] at H
                    have c25b0 : (!((((rd_T48 l0_1 x5_2).f0).toList) == (((rd_T48 l1_1 x5_2).f0).toList)) || (!((((rd_T48 l0_1 x5_2).f1).toList) == (((rd_T48 l1_1 x5_2).f1).toList)))) = false := by simpa using c25
                    clear c25
                    have H' := Aside0.mk H
                    clear H
                    have hnb29 := NB325_326.out
                    have hnc29 := NB326_325.out
                    have hcz30_0 : wr.cell? ⟨gb325, 0, none⟩ = some (.bool a0_0) := (blk_cell BK325.out 0).trans rfl
                    have hcz30_1 : wr.cell? ⟨gb325, 1, none⟩ = some (.slice A0_1 l0_1.length c0_1) := (blk_cell BK325.out 1).trans rfl
                    have hcz30_2 : wr.cell? ⟨gb325, 2, none⟩ = some (.slice A0_2 l0_2.length c0_2) := (blk_cell BK325.out 2).trans rfl
                    have hcz30_3 : wr.cell? ⟨gb325, 3, none⟩ = some (.slice A0_3 l0_3.length c0_3) := (blk_cell BK325.out 3).trans rfl
                    have hfz30_0 := blk_frozen BK325.out 0
                    have hfz30_1 := blk_frozen BK325.out 1
                    have hfz30_2 := blk_frozen BK325.out 2
                    have hfz30_3 := blk_frozen BK325.out 3
                    have p327 : 0 ≤ (x5_2 : Int) := of_decide_eq_true (by first | (with_reducible assumption) | assumption)
                    have q327 : x5_2 < (l0_1.length : Int) := of_decide_eq_true (by first | (with_reducible assumption) | assumption)
                    obtain ⟨ad327, e327, hx327_0, hx327_1⟩ := at_T48 HR0_1.out x5_2 p327 q327
                    cases e327
                    replace hx327_0 := (HB.out.cell (World.block_lt_of_cell? w _ hx327_0)).trans hx327_0
                    replace hx327_1 := (HB.out.cell (World.block_lt_of_cell? w _ hx327_1)).trans hx327_1
                    replace p327 := eq_true p327
                    replace q327 := eq_true q327
                    have hcz31_0 : wr.cell? ⟨gb326, 0, none⟩ = some (.bool a1_0) := (blk_cell BK326.out 0).trans rfl
                    have hcz31_1 : wr.cell? ⟨gb326, 1, none⟩ = some (.slice A1_1 l1_1.length c1_1) := (blk_cell BK326.out 1).trans rfl
                    have hcz31_2 : wr.cell? ⟨gb326, 2, none⟩ = some (.slice A1_2 l1_2.length c1_2) := (blk_cell BK326.out 2).trans rfl
                    have hcz31_3 : wr.cell? ⟨gb326, 3, none⟩ = some (.slice A1_3 l1_3.length c1_3) := (blk_cell BK326.out 3).trans rfl
                    have hfz31_0 := blk_frozen BK326.out 0
                    have hfz31_1 := blk_frozen BK326.out 1
                    have hfz31_2 := blk_frozen BK326.out 2
                    have hfz31_3 := blk_frozen BK326.out 3
                    have p328 : 0 ≤ (x5_2 : Int) := of_decide_eq_true (by first | (with_reducible assumption) | assumption)
                    have q328 : x5_2 < (l1_1.length : Int) := of_decide_eq_true (by first | (with_reducible assumption) | assumption)
                    obtain ⟨ad328, e328, hx328_0, hx328_1⟩ := at_T48 HR1_1.out x5_2 p328 q328
                    cases e328
                    replace hx328_0 := (HB.out.cell (World.block_lt_of_cell? w _ hx328_0)).trans hx328_0
                    replace hx328_1 := (HB.out.cell (World.block_lt_of_cell? w _ hx328_1)).trans hx328_1
                    replace p328 := eq_true p328
                    replace q328 := eq_true q328
                    go_wp2
                    repeat (go_quiet (fail); try go_wp2)
                    go_roundg k2
                    case measure => have := HJ2.out; have := HK2.out; omega
                    case rel => exact ⟨(wrap64 (x5_2 + 1)), (by first | rfl | (simp; done) | (simp [*]; done)), H', ⟨by have := HJ2.out; have := HK2.out; omega⟩, ⟨by (with_reducible repeat (first | refine blk_drewN ?_ _ | refine blk_drew ?_ | refine blk_alloc ?_ _)); exact BK325.out⟩, ⟨by (with_reducible repeat (first | refine blk_drewN ?_ _ | refine blk_drew ?_ | refine blk_alloc ?_ _)); exact BK326.out⟩, ⟨by repeat (first | (with_reducible first | exact HB.out | apply below_alloc | apply pw_below_drewN | apply below_drew1 | refine below_set ?_ GE325.out | refine below_set ?_ GE326.out) | exact HB.out)⟩⟩
                · rw [if_neg c24] at H
                  exact absurd H (by simp)
              · rw [if_neg c23] at H
                exact absurd H (by simp)
            · rw [if_neg c22] at H
              have c22b0 : decide (x5_2 < (l0_1.length : Int)) = false := decide_eq_false c22
              clear c22
              have H' := Aside0.mk H
              clear H
              have hnb32 := NB325_326.out
              have hnc32 := NB326_325.out
              have hcz33_0 : wr.cell? ⟨gb325, 0, none⟩ = some (.bool a0_0) := (blk_cell BK325.out 0).trans rfl
              have hcz33_1 : wr.cell? ⟨gb325, 1, none⟩ = some (.slice A0_1 l0_1.length c0_1) := (blk_cell BK325.out 1).trans rfl
              have hcz33_2 : wr.cell? ⟨gb325, 2, none⟩ = some (.slice A0_2 l0_2.length c0_2) := (blk_cell BK325.out 2).trans rfl
              have hcz33_3 : wr.cell? ⟨gb325, 3, none⟩ = some (.slice A0_3 l0_3.length c0_3) := (blk_cell BK325.out 3).trans rfl
              have hfz33_0 := blk_frozen BK325.out 0
              have hfz33_1 := blk_frozen BK325.out 1
              have hfz33_2 := blk_frozen BK325.out 2
              have hfz33_3 := blk_frozen BK325.out 3
              go_wp2
              repeat (go_quiet (fail); try go_wp2)
              go_loopg [6] k2 (fun kq v6 w' => ∃ (x6_3 : Int), v6 = .int .i64 x6_3 ∧ Aside0 (cisternref11_Same.l1 kq x6_3 a0_0 l0_1 l0_2 l0_3 a1_0 l1_1 l1_2 l1_3 = some r) ∧ Aside0 (kq ≤ k2) ∧ Aside0 (w'.heap[gb325]? = some (.cells #[.bool a0_0, (.slice A0_1 l0_1.length c0_1), (.slice A0_2 l0_2.length c0_2), (.slice A0_3 l0_3.length c0_3)] 26 (0, 0))) ∧ Aside0 (w'.heap[gb326]? = some (.cells #[.bool a1_0, (.slice A1_1 l1_1.length c1_1), (.slice A1_2 l1_2.length c1_2), (.slice A1_3 l1_3.length c1_3)] 26 (0, 0))) ∧ Aside0 (Below w.heap.size w w'))
              case atStart => exact ⟨(0), (by first | rfl | (simp; done) | (simp [*]; done)), H', ⟨Nat.le_refl _⟩, ⟨by (with_reducible repeat (first | refine blk_drewN ?_ _ | refine blk_drew ?_ | refine blk_alloc ?_ _)); exact BK325.out⟩, ⟨by (with_reducible repeat (first | refine blk_drewN ?_ _ | refine blk_drew ?_ | refine blk_alloc ?_ _)); exact BK326.out⟩, ⟨by repeat (first | (with_reducible first | exact HB.out | apply below_alloc | apply pw_below_drewN | apply below_drew1 | refine below_set ?_ GE325.out | refine below_set ?_ GE326.out) | exact HB.out)⟩⟩
              case round =>
                clear H'
                try clear c1
                try clear c2
                try clear p2
                try clear c3
                try clear p3
                try clear q3
                try clear hx3
                try clear c6
                try clear c6b0
                try clear c6b1
                try clear c6b2
                try clear p6
                try clear c7
                try clear c10
                try clear c10b0
                try clear c10b1
                try clear c10b2
                try clear c11
                try clear c11b0
                try clear c11b1
                try clear c11b2
                try clear c12
                try clear c15
                try clear c18
                try clear c19
                try clear c21
                try clear c22
                try clear c22b0
                try clear c23
                try clear c23b0
                try clear c24
                try clear c24b0
                try clear c25
                try clear c25b0
                try clear c26
                try clear c29
                try clear c32
                try clear p32
                try clear q32
                try clear hx32
                try clear hcz13_0
                try clear hcz13_1
                try clear hcz13_2
                try clear hcz13_3
                try clear hcz14_0
                try clear hcz14_1
                try clear hcz14_2
                try clear hcz14_3
                try clear hcz16_0
                try clear hcz16_1
                try clear hcz16_2
                try clear hcz16_3
                try clear hcz17_0
                try clear hcz17_1
                try clear hcz17_2
                try clear hcz17_3
                try clear hcz19_0
                try clear hcz19_1
                try clear hcz19_2
                try clear hcz19_3
                try clear hcz20_0
                try clear hcz20_1
                try clear hcz20_2
                try clear hcz20_3
                try clear hcz27_0
                try clear hcz27_1
                try clear hcz27_2
                try clear hcz27_3
                try clear hcz28_0
                try clear hcz28_1
                try clear hcz28_2
                try clear hcz28_3
                try clear hcz30_0
                try clear hcz30_1
                try clear hcz30_2
                try clear hcz30_3
                try clear hcz31_0
                try clear hcz31_1
                try clear hcz31_2
                try clear hcz31_3
                try clear hcz33_0
                try clear hcz33_1
                try clear hcz33_2
                try clear hcz33_3
                try clear hcz8_0
                try clear hcz8_1
                try clear hcz8_2
                try clear hcz8_3
                try clear hcz9_0
                try clear hcz9_1
                try clear hcz9_2
                try clear hcz9_3
                try clear hfz13_0
                try clear hfz13_1
                try clear hfz13_2
                try clear hfz13_3
                try clear hfz14_0
                try clear hfz14_1
                try clear hfz14_2
                try clear hfz14_3
                try clear hfz16_0
                try clear hfz16_1
                try clear hfz16_2
                try clear hfz16_3
                try clear hfz17_0
                try clear hfz17_1
                try clear hfz17_2
                try clear hfz17_3
                try clear hfz19_0
                try clear hfz19_1
                try clear hfz19_2
                try clear hfz19_3
                try clear hfz20_0
                try clear hfz20_1
                try clear hfz20_2
                try clear hfz20_3
                try clear hfz27_0
                try clear hfz27_1
                try clear hfz27_2
                try clear hfz27_3
                try clear hfz28_0
                try clear hfz28_1
                try clear hfz28_2
                try clear hfz28_3
                try clear hfz30_0
                try clear hfz30_1
                try clear hfz30_2
                try clear hfz30_3
                try clear hfz31_0
                try clear hfz31_1
                try clear hfz31_2
                try clear hfz31_3
                try clear hfz33_0
                try clear hfz33_1
                try clear hfz33_2
                try clear hfz33_3
                try clear hfz8_0
                try clear hfz8_1
                try clear hfz8_2
                try clear hfz8_3
                try clear hfz9_0
                try clear hfz9_1
                try clear hfz9_2
                try clear hfz9_3
                try clear hx327_0
                try clear hx327_1
                try clear hx328_0
                try clear hx328_1
                try clear p2
                try clear p327
                try clear p328
                try clear q327
                try clear q328
                obtain ⟨x6_3, rfl, HA, HK3, BK325, BK326, HB⟩ := hrel
                cases gk with
                | zero => exact absurd HA.out (by simp [cisternref11_Same.l1])
                | succ k3 =>
                  have H := HA.out
                  clear HA
                  simp only [cisternref11_Same.l1] at H
                  by_cases c34 : x6_3 < (l0_2.length : Int)
                  · rw [if_pos c34] at H
                    have c34b0 : decide (x6_3 < (l0_2.length : Int)) = true := decide_eq_true c34
                    clear c34
                    by_cases c35 : 0 ≤ x6_3
                    · rw [if_pos c35] at H
                      have c35b0 : decide (0 ≤ x6_3) = true := decide_eq_true c35
                      clear c35
                      by_cases c36 : x6_3 < (l1_2.length : Int)
                      · rw [if_pos c36] at H
                        have c36b0 : decide (x6_3 < (l1_2.length : Int)) = true := decide_eq_true c36
                        clear c36
                        by_cases c37 : (rdOf ByteArray.empty l0_2 x6_3).toList = (rdOf ByteArray.empty l1_2 x6_3).toList
                        · rw [if_pos c37] at H
                          have c37b0 : ((rdOf ByteArray.empty l0_2 x6_3).toList == (rdOf ByteArray.empty l1_2 x6_3).toList) = true := beq_iff_eq.mpr c37
                          have c37b1 : ((rdOf ByteArray.empty l0_2 x6_3).toList != (rdOf ByteArray.empty l1_2 x6_3).toList) = false := bne_eq_false_iff_eq.mpr c37
                          clear c37
                          have H' := Aside0.mk H
                          clear H
                          have hnb38 := NB325_326.out
                          have hnc38 := NB326_325.out
                          have hcz39_0 : wr.cell? ⟨gb325, 0, none⟩ = some (.bool a0_0) := (blk_cell BK325.out 0).trans rfl
                          have hcz39_1 : wr.cell? ⟨gb325, 1, none⟩ = some (.slice A0_1 l0_1.length c0_1) := (blk_cell BK325.out 1).trans rfl
                          have hcz39_2 : wr.cell? ⟨gb325, 2, none⟩ = some (.slice A0_2 l0_2.length c0_2) := (blk_cell BK325.out 2).trans rfl
                          have hcz39_3 : wr.cell? ⟨gb325, 3, none⟩ = some (.slice A0_3 l0_3.length c0_3) := (blk_cell BK325.out 3).trans rfl
                          have hfz39_0 := blk_frozen BK325.out 0
                          have hfz39_1 := blk_frozen BK325.out 1
                          have hfz39_2 := blk_frozen BK325.out 2
                          have hfz39_3 := blk_frozen BK325.out 3
                          have p329 : 0 ≤ (x6_3 : Int) := of_decide_eq_true (by first | (with_reducible assumption) | assumption)
                          have q329 : x6_3 < (l0_2.length : Int) := of_decide_eq_true (by first | (with_reducible assumption) | assumption)
                          obtain ⟨ad329, e329, hx329_0⟩ := Kd.at_string HR0_2.out x6_3 p329 q329
                          cases e329
                          replace hx329_0 := (HB.out.cell (World.block_lt_of_cell? w _ hx329_0)).trans hx329_0
                          replace p329 := eq_true p329
                          replace q329 := eq_true q329
                          have hcz40_0 : wr.cell? ⟨gb326, 0, none⟩ = some (.bool a1_0) := (blk_cell BK326.out 0).trans rfl
                          have hcz40_1 : wr.cell? ⟨gb326, 1, none⟩ = some (.slice A1_1 l1_1.length c1_1) := (blk_cell BK326.out 1).trans rfl
                          have hcz40_2 : wr.cell? ⟨gb326, 2, none⟩ = some (.slice A1_2 l1_2.length c1_2) := (blk_cell BK326.out 2).trans rfl
                          have hcz40_3 : wr.cell? ⟨gb326, 3, none⟩ = some (.slice A1_3 l1_3.length c1_3) := (blk_cell BK326.out 3).trans rfl
                          have hfz40_0 := blk_frozen BK326.out 0
                          have hfz40_1 := blk_frozen BK326.out 1
                          have hfz40_2 := blk_frozen BK326.out 2
                          have hfz40_3 := blk_frozen BK326.out 3
                          have p330 : 0 ≤ (x6_3 : Int) := of_decide_eq_true (by first | (with_reducible assumption) | assumption)
                          have q330 : x6_3 < (l1_2.length : Int) := of_decide_eq_true (by first | (with_reducible assumption) | assumption)
                          obtain ⟨ad330, e330, hx330_0⟩ := Kd.at_string HR1_2.out x6_3 p330 q330
                          cases e330
                          replace hx330_0 := (HB.out.cell (World.block_lt_of_cell? w _ hx330_0)).trans hx330_0
                          replace p330 := eq_true p330
                          replace q330 := eq_true q330
                          go_wp2
                          repeat (go_quiet (fail); try go_wp2)
                          go_roundg k3
                          case measure => have := HJ2.out; have := HK2.out; have := HK3.out; omega
                          case rel => exact ⟨(wrap64 (x6_3 + 1)), (by first | rfl | (simp; done) | (simp [*]; done)), H', ⟨by have := HJ2.out; have := HK2.out; have := HK3.out; omega⟩, ⟨by (with_reducible repeat (first | refine blk_drewN ?_ _ | refine blk_drew ?_ | refine blk_alloc ?_ _)); exact BK325.out⟩, ⟨by (with_reducible repeat (first | refine blk_drewN ?_ _ | refine blk_drew ?_ | refine blk_alloc ?_ _)); exact BK326.out⟩, ⟨by repeat (first | (with_reducible first | exact HB.out | apply below_alloc | apply pw_below_drewN | apply below_drew1 | refine below_set ?_ GE325.out | refine below_set ?_ GE326.out) | exact HB.out)⟩⟩
                        · rw [if_neg c37] at H
                          have c37b0 : ((rdOf ByteArray.empty l0_2 x6_3).toList == (rdOf ByteArray.empty l1_2 x6_3).toList) = false := beq_eq_false_iff_ne.mpr c37
                          have c37b1 : ((rdOf ByteArray.empty l0_2 x6_3).toList != (rdOf ByteArray.empty l1_2 x6_3).toList) = true := bne_iff_ne.mpr c37
                          obtain rfl := Option.some.inj H
                          have hnb41 := NB325_326.out
                          have hnc41 := NB326_325.out
                          have hcz42_0 : wr.cell? ⟨gb325, 0, none⟩ = some (.bool a0_0) := (blk_cell BK325.out 0).trans rfl
                          have hcz42_1 : wr.cell? ⟨gb325, 1, none⟩ = some (.slice A0_1 l0_1.length c0_1) := (blk_cell BK325.out 1).trans rfl
                          have hcz42_2 : wr.cell? ⟨gb325, 2, none⟩ = some (.slice A0_2 l0_2.length c0_2) := (blk_cell BK325.out 2).trans rfl
                          have hcz42_3 : wr.cell? ⟨gb325, 3, none⟩ = some (.slice A0_3 l0_3.length c0_3) := (blk_cell BK325.out 3).trans rfl
                          have hfz42_0 := blk_frozen BK325.out 0
                          have hfz42_1 := blk_frozen BK325.out 1
                          have hfz42_2 := blk_frozen BK325.out 2
                          have hfz42_3 := blk_frozen BK325.out 3
                          have p329 : 0 ≤ (x6_3 : Int) := of_decide_eq_true (by first | (with_reducible assumption) | assumption)
                          have q329 : x6_3 < (l0_2.length : Int) := of_decide_eq_true (by first | (with_reducible assumption) | assumption)
                          obtain ⟨ad329, e329, hx329_0⟩ := Kd.at_string HR0_2.out x6_3 p329 q329
                          cases e329
                          replace hx329_0 := (HB.out.cell (World.block_lt_of_cell? w _ hx329_0)).trans hx329_0
                          replace p329 := eq_true p329
                          replace q329 := eq_true q329
                          have hcz43_0 : wr.cell? ⟨gb326, 0, none⟩ = some (.bool a1_0) := (blk_cell BK326.out 0).trans rfl
                          have hcz43_1 : wr.cell? ⟨gb326, 1, none⟩ = some (.slice A1_1 l1_1.length c1_1) := (blk_cell BK326.out 1).trans rfl
                          have hcz43_2 : wr.cell? ⟨gb326, 2, none⟩ = some (.slice A1_2 l1_2.length c1_2) := (blk_cell BK326.out 2).trans rfl
                          have hcz43_3 : wr.cell? ⟨gb326, 3, none⟩ = some (.slice A1_3 l1_3.length c1_3) := (blk_cell BK326.out 3).trans rfl
                          have hfz43_0 := blk_frozen BK326.out 0
                          have hfz43_1 := blk_frozen BK326.out 1
                          have hfz43_2 := blk_frozen BK326.out 2
                          have hfz43_3 := blk_frozen BK326.out 3
                          have p330 : 0 ≤ (x6_3 : Int) := of_decide_eq_true (by first | (with_reducible assumption) | assumption)
                          have q330 : x6_3 < (l1_2.length : Int) := of_decide_eq_true (by first | (with_reducible assumption) | assumption)
                          obtain ⟨ad330, e330, hx330_0⟩ := Kd.at_string HR1_2.out x6_3 p330 q330
                          cases e330
                          replace hx330_0 := (HB.out.cell (World.block_lt_of_cell? w _ hx330_0)).trans hx330_0
                          replace p330 := eq_true p330
                          replace q330 := eq_true q330
                          go_wp2
                          repeat (go_quiet (fail); try go_wp2)
                          go_ret
                          exact ⟨by first | rfl | (simp [errW_none, errW_some] <;> rfl) | (simp [*, errW_none, errW_some] <;> rfl), by repeat (first | (with_reducible first | exact HB.out | apply below_alloc | apply pw_below_drewN | apply below_drew1 | refine below_set ?_ GE325.out | refine below_set ?_ GE326.out) | exact HB.out)⟩
                      · rw [if_neg c36] at H
                        exact absurd H (by simp)
                    · rw [if_neg c35] at H
                      exact absurd H (by simp)
                  · rw [if_neg c34] at H
                    have c34b0 : decide (x6_3 < (l0_2.length : Int)) = false := decide_eq_false c34
                    clear c34
                    have H' := Aside0.mk H
                    clear H
                    have hnb44 := NB325_326.out
                    have hnc44 := NB326_325.out
                    have hcz45_0 : wr.cell? ⟨gb325, 0, none⟩ = some (.bool a0_0) := (blk_cell BK325.out 0).trans rfl
                    have hcz45_1 : wr.cell? ⟨gb325, 1, none⟩ = some (.slice A0_1 l0_1.length c0_1) := (blk_cell BK325.out 1).trans rfl
                    have hcz45_2 : wr.cell? ⟨gb325, 2, none⟩ = some (.slice A0_2 l0_2.length c0_2) := (blk_cell BK325.out 2).trans rfl
                    have hcz45_3 : wr.cell? ⟨gb325, 3, none⟩ = some (.slice A0_3 l0_3.length c0_3) := (blk_cell BK325.out 3).trans rfl
                    have hfz45_0 := blk_frozen BK325.out 0
                    have hfz45_1 := blk_frozen BK325.out 1
                    have hfz45_2 := blk_frozen BK325.out 2
                    have hfz45_3 := blk_frozen BK325.out 3
                    go_wp2
                    repeat (go_quiet (fail); try go_wp2)
                    go_loopg [7] k3 (fun kq v7 w' => ∃ (x7_4 : Int), v7 = .int .i64 x7_4 ∧ Aside0 (cisternref11_Same.l2 kq x7_4 a0_0 l0_1 l0_2 l0_3 a1_0 l1_1 l1_2 l1_3 = some r) ∧ Aside0 (kq ≤ k3) ∧ Aside0 (w'.heap[gb325]? = some (.cells #[.bool a0_0, (.slice A0_1 l0_1.length c0_1), (.slice A0_2 l0_2.length c0_2), (.slice A0_3 l0_3.length c0_3)] 26 (0, 0))) ∧ Aside0 (w'.heap[gb326]? = some (.cells #[.bool a1_0, (.slice A1_1 l1_1.length c1_1), (.slice A1_2 l1_2.length c1_2), (.slice A1_3 l1_3.length c1_3)] 26 (0, 0))) ∧ Aside0 (Below w.heap.size w w'))
                    case atStart => exact ⟨(0), (by first | rfl | (simp; done) | (simp [*]; done)), H', ⟨Nat.le_refl _⟩, ⟨by (with_reducible repeat (first | refine blk_drewN ?_ _ | refine blk_drew ?_ | refine blk_alloc ?_ _)); exact BK325.out⟩, ⟨by (with_reducible repeat (first | refine blk_drewN ?_ _ | refine blk_drew ?_ | refine blk_alloc ?_ _)); exact BK326.out⟩, ⟨by repeat (first | (with_reducible first | exact HB.out | apply below_alloc | apply pw_below_drewN | apply below_drew1 | refine below_set ?_ GE325.out | refine below_set ?_ GE326.out) | exact HB.out)⟩⟩
                    case round =>
                      clear H'
                      try clear c1
                      try clear c2
                      try clear p2
                      try clear c3
                      try clear p3
                      try clear q3
                      try clear hx3
                      try clear c4
                      try clear c6
                      try clear c6b0
                      try clear c6b1
                      try clear c6b2
                      try clear p6
                      try clear c7
                      try clear c10
                      try clear c10b0
                      try clear c10b1
                      try clear c10b2
                      try clear c11
                      try clear c11b0
                      try clear c11b1
                      try clear c11b2
                      try clear c12
                      try clear c15
                      try clear c18
                      try clear c19
                      try clear c21
                      try clear c22
                      try clear c22b0
                      try clear c23
                      try clear c23b0
                      try clear c24
                      try clear c24b0
                      try clear c25
                      try clear c25b0
                      try clear c26
                      try clear c29
                      try clear c32
                      try clear p32
                      try clear q32
                      try clear hx32
                      try clear p33
                      try clear q33
                      try clear hx33
                      try clear c34
                      try clear c34b0
                      try clear c35
                      try clear c35b0
                      try clear c36
                      try clear c36b0
                      try clear c37
                      try clear c37b0
                      try clear c37b1
                      try clear c38
                      try clear c41
                      try clear c44
                      try clear hcz13_0
                      try clear hcz13_1
                      try clear hcz13_2
                      try clear hcz13_3
                      try clear hcz14_0
                      try clear hcz14_1
                      try clear hcz14_2
                      try clear hcz14_3
                      try clear hcz16_0
                      try clear hcz16_1
                      try clear hcz16_2
                      try clear hcz16_3
                      try clear hcz17_0
                      try clear hcz17_1
                      try clear hcz17_2
                      try clear hcz17_3
                      try clear hcz19_0
                      try clear hcz19_1
                      try clear hcz19_2
                      try clear hcz19_3
                      try clear hcz20_0
                      try clear hcz20_1
                      try clear hcz20_2
                      try clear hcz20_3
                      try clear hcz27_0
                      try clear hcz27_1
                      try clear hcz27_2
                      try clear hcz27_3
                      try clear hcz28_0
                      try clear hcz28_1
                      try clear hcz28_2
                      try clear hcz28_3
                      try clear hcz30_0
                      try clear hcz30_1
                      try clear hcz30_2
                      try clear hcz30_3
                      try clear hcz31_0
                      try clear hcz31_1
                      try clear hcz31_2
                      try clear hcz31_3
                      try clear hcz33_0
                      try clear hcz33_1
                      try clear hcz33_2
                      try clear hcz33_3
                      try clear hcz39_0
                      try clear hcz39_1
                      try clear hcz39_2
                      try clear hcz39_3
                      try clear hcz40_0
                      try clear hcz40_1
                      try clear hcz40_2
                      try clear hcz40_3
                      try clear hcz42_0
                      try clear hcz42_1
                      try clear hcz42_2
                      try clear hcz42_3
                      try clear hcz43_0
                      try clear hcz43_1
                      try clear hcz43_2
                      try clear hcz43_3
                      try clear hcz45_0
                      try clear hcz45_1
                      try clear hcz45_2
                      try clear hcz45_3
                      try clear hcz8_0
                      try clear hcz8_1
                      try clear hcz8_2
                      try clear hcz8_3
                      try clear hcz9_0
                      try clear hcz9_1
                      try clear hcz9_2
                      try clear hcz9_3
                      try clear hfz13_0
                      try clear hfz13_1
                      try clear hfz13_2
                      try clear hfz13_3
                      try clear hfz14_0
                      try clear hfz14_1
                      try clear hfz14_2
                      try clear hfz14_3
                      try clear hfz16_0
                      try clear hfz16_1
                      try clear hfz16_2
                      try clear hfz16_3
                      try clear hfz17_0
                      try clear hfz17_1
                      try clear hfz17_2
                      try clear hfz17_3
                      try clear hfz19_0
                      try clear hfz19_1
                      try clear hfz19_2
                      try clear hfz19_3
                      try clear hfz20_0
                      try clear hfz20_1
                      try clear hfz20_2
                      try clear hfz20_3
                      try clear hfz27_0
                      try clear hfz27_1
                      try clear hfz27_2
                      try clear hfz27_3
                      try clear hfz28_0
                      try clear hfz28_1
                      try clear hfz28_2
                      try clear hfz28_3
                      try clear hfz30_0
                      try clear hfz30_1
                      try clear hfz30_2
                      try clear hfz30_3
                      try clear hfz31_0
                      try clear hfz31_1
                      try clear hfz31_2
                      try clear hfz31_3
                      try clear hfz33_0
                      try clear hfz33_1
                      try clear hfz33_2
                      try clear hfz33_3
                      try clear hfz39_0
                      try clear hfz39_1
                      try clear hfz39_2
                      try clear hfz39_3
                      try clear hfz40_0
                      try clear hfz40_1
                      try clear hfz40_2
                      try clear hfz40_3
                      try clear hfz42_0
                      try clear hfz42_1
                      try clear hfz42_2
                      try clear hfz42_3
                      try clear hfz43_0
                      try clear hfz43_1
                      try clear hfz43_2
                      try clear hfz43_3
                      try clear hfz45_0
                      try clear hfz45_1
                      try clear hfz45_2
                      try clear hfz45_3
                      try clear hfz8_0
                      try clear hfz8_1
                      try clear hfz8_2
                      try clear hfz8_3
                      try clear hfz9_0
                      try clear hfz9_1
                      try clear hfz9_2
                      try clear hfz9_3
                      try clear hx327_0
                      try clear hx327_1
                      try clear hx328_0
                      try clear hx328_1
                      try clear hx329_0
                      try clear hx330_0
                      try clear p2
                      try clear p3
                      try clear p32
                      try clear p327
                      try clear p328
                      try clear p329
                      try clear p330
                      try clear p6
                      try clear q3
                      try clear q32
                      try clear q327
                      try clear q328
                      try clear q329
                      try clear q330
                      obtain ⟨x7_4, rfl, HA, HK4, BK325, BK326, HB⟩ := hrel
                      cases gk with
                      | zero => exact absurd HA.out (by simp [cisternref11_Same.l2])
                      | succ k4 =>
                        have H := HA.out
                        clear HA
                        simp only [cisternref11_Same.l2] at H
                        by_cases c46 : x7_4 < (l0_3.length : Int)
                        · rw [if_pos c46] at H
                          have c46b0 : decide (x7_4 < (l0_3.length : Int)) = true := decide_eq_true c46
                          clear c46
                          by_cases c47 : 0 ≤ x7_4
                          · rw [if_pos c47] at H
                            have c47b0 : decide (0 ≤ x7_4) = true := decide_eq_true c47
                            clear c47
                            by_cases c48 : x7_4 < (l1_3.length : Int)
                            · rw [if_pos c48] at H
                              have c48b0 : decide (x7_4 < (l1_3.length : Int)) = true := decide_eq_true c48
                              clear c48
                              by_cases c49 : (rd l0_3 x7_4) = (rd l1_3 x7_4)
                              · rw [if_pos c49] at H
                                have c49b0 : ((rd l0_3 x7_4) == (rd l1_3 x7_4)) = true := beq_iff_eq.mpr c49
                                have c49b1 : ((rd l0_3 x7_4) != (rd l1_3 x7_4)) = false := bne_eq_false_iff_eq.mpr c49
                                clear c49
                                have H' := Aside0.mk H
                                clear H
                                have hnb50 := NB325_326.out
                                have hnc50 := NB326_325.out
                                have hcz51_0 : wr.cell? ⟨gb325, 0, none⟩ = some (.bool a0_0) := (blk_cell BK325.out 0).trans rfl
                                have hcz51_1 : wr.cell? ⟨gb325, 1, none⟩ = some (.slice A0_1 l0_1.length c0_1) := (blk_cell BK325.out 1).trans rfl
                                have hcz51_2 : wr.cell? ⟨gb325, 2, none⟩ = some (.slice A0_2 l0_2.length c0_2) := (blk_cell BK325.out 2).trans rfl
                                have hcz51_3 : wr.cell? ⟨gb325, 3, none⟩ = some (.slice A0_3 l0_3.length c0_3) := (blk_cell BK325.out 3).trans rfl
                                have hfz51_0 := blk_frozen BK325.out 0
                                have hfz51_1 := blk_frozen BK325.out 1
                                have hfz51_2 := blk_frozen BK325.out 2
                                have hfz51_3 := blk_frozen BK325.out 3
                                have p331 : 0 ≤ (x7_4 : Int) := of_decide_eq_true (by first | (with_reducible assumption) | assumption)
                                have q331 : x7_4 < (l0_3.length : Int) := of_decide_eq_true (by first | (with_reducible assumption) | assumption)
                                obtain ⟨ad331, e331, hx331_0⟩ := Kd.at_int HR0_3.out x7_4 p331 q331
                                cases e331
                                replace hx331_0 := (HB.out.cell (World.block_lt_of_cell? w _ hx331_0)).trans hx331_0
                                replace p331 := eq_true p331
                                replace q331 := eq_true q331
                                have hcz52_0 : wr.cell? ⟨gb326, 0, none⟩ = some (.bool a1_0) := (blk_cell BK326.out 0).trans rfl
                                have hcz52_1 : wr.cell? ⟨gb326, 1, none⟩ = some (.slice A1_1 l1_1.length c1_1) := (blk_cell BK326.out 1).trans rfl
                                have hcz52_2 : wr.cell? ⟨gb326, 2, none⟩ = some (.slice A1_2 l1_2.length c1_2) := (blk_cell BK326.out 2).trans rfl
                                have hcz52_3 : wr.cell? ⟨gb326, 3, none⟩ = some (.slice A1_3 l1_3.length c1_3) := (blk_cell BK326.out 3).trans rfl
                                have hfz52_0 := blk_frozen BK326.out 0
                                have hfz52_1 := blk_frozen BK326.out 1
                                have hfz52_2 := blk_frozen BK326.out 2
                                have hfz52_3 := blk_frozen BK326.out 3
                                have p332 : 0 ≤ (x7_4 : Int) := of_decide_eq_true (by first | (with_reducible assumption) | assumption)
                                have q332 : x7_4 < (l1_3.length : Int) := of_decide_eq_true (by first | (with_reducible assumption) | assumption)
                                obtain ⟨ad332, e332, hx332_0⟩ := Kd.at_int HR1_3.out x7_4 p332 q332
                                cases e332
                                replace hx332_0 := (HB.out.cell (World.block_lt_of_cell? w _ hx332_0)).trans hx332_0
                                replace p332 := eq_true p332
                                replace q332 := eq_true q332
                                go_wp2
                                repeat (go_quiet (fail); try go_wp2)
                                go_roundg k4
                                case measure => have := HJ2.out; have := HK2.out; have := HK3.out; have := HK4.out; omega
                                case rel => exact ⟨(wrap64 (x7_4 + 1)), (by first | rfl | (simp; done) | (simp [*]; done)), H', ⟨by have := HJ2.out; have := HK2.out; have := HK3.out; have := HK4.out; omega⟩, ⟨by (with_reducible repeat (first | refine blk_drewN ?_ _ | refine blk_drew ?_ | refine blk_alloc ?_ _)); exact BK325.out⟩, ⟨by (with_reducible repeat (first | refine blk_drewN ?_ _ | refine blk_drew ?_ | refine blk_alloc ?_ _)); exact BK326.out⟩, ⟨by repeat (first | (with_reducible first | exact HB.out | apply below_alloc | apply pw_below_drewN | apply below_drew1 | refine below_set ?_ GE325.out | refine below_set ?_ GE326.out) | exact HB.out)⟩⟩
                              · rw [if_neg c49] at H
                                have c49b0 : ((rd l0_3 x7_4) == (rd l1_3 x7_4)) = false := beq_eq_false_iff_ne.mpr c49
                                have c49b1 : ((rd l0_3 x7_4) != (rd l1_3 x7_4)) = true := bne_iff_ne.mpr c49
                                obtain rfl := Option.some.inj H
                                have hnb53 := NB325_326.out
                                have hnc53 := NB326_325.out
                                have hcz54_0 : wr.cell? ⟨gb325, 0, none⟩ = some (.bool a0_0) := (blk_cell BK325.out 0).trans rfl
                                have hcz54_1 : wr.cell? ⟨gb325, 1, none⟩ = some (.slice A0_1 l0_1.length c0_1) := (blk_cell BK325.out 1).trans rfl
                                have hcz54_2 : wr.cell? ⟨gb325, 2, none⟩ = some (.slice A0_2 l0_2.length c0_2) := (blk_cell BK325.out 2).trans rfl
                                have hcz54_3 : wr.cell? ⟨gb325, 3, none⟩ = some (.slice A0_3 l0_3.length c0_3) := (blk_cell BK325.out 3).trans rfl
                                have hfz54_0 := blk_frozen BK325.out 0
                                have hfz54_1 := blk_frozen BK325.out 1
                                have hfz54_2 := blk_frozen BK325.out 2
                                have hfz54_3 := blk_frozen BK325.out 3
                                have p331 : 0 ≤ (x7_4 : Int) := of_decide_eq_true (by first | (with_reducible assumption) | assumption)
                                have q331 : x7_4 < (l0_3.length : Int) := of_decide_eq_true (by first | (with_reducible assumption) | assumption)
                                obtain ⟨ad331, e331, hx331_0⟩ := Kd.at_int HR0_3.out x7_4 p331 q331
                                cases e331
                                replace hx331_0 := (HB.out.cell (World.block_lt_of_cell? w _ hx331_0)).trans hx331_0
                                replace p331 := eq_true p331
                                replace q331 := eq_true q331
                                have hcz55_0 : wr.cell? ⟨gb326, 0, none⟩ = some (.bool a1_0) := (blk_cell BK326.out 0).trans rfl
                                have hcz55_1 : wr.cell? ⟨gb326, 1, none⟩ = some (.slice A1_1 l1_1.length c1_1) := (blk_cell BK326.out 1).trans rfl
                                have hcz55_2 : wr.cell? ⟨gb326, 2, none⟩ = some (.slice A1_2 l1_2.length c1_2) := (blk_cell BK326.out 2).trans rfl
                                have hcz55_3 : wr.cell? ⟨gb326, 3, none⟩ = some (.slice A1_3 l1_3.length c1_3) := (blk_cell BK326.out 3).trans rfl
                                have hfz55_0 := blk_frozen BK326.out 0
                                have hfz55_1 := blk_frozen BK326.out 1
                                have hfz55_2 := blk_frozen BK326.out 2
                                have hfz55_3 := blk_frozen BK326.out 3
                                have p332 : 0 ≤ (x7_4 : Int) := of_decide_eq_true (by first | (with_reducible assumption) | assumption)
                                have q332 : x7_4 < (l1_3.length : Int) := of_decide_eq_true (by first | (with_reducible assumption) | assumption)
                                obtain ⟨ad332, e332, hx332_0⟩ := Kd.at_int HR1_3.out x7_4 p332 q332
                                cases e332
                                replace hx332_0 := (HB.out.cell (World.block_lt_of_cell? w _ hx332_0)).trans hx332_0
                                replace p332 := eq_true p332
                                replace q332 := eq_true q332
                                go_wp2
                                repeat (go_quiet (fail); try go_wp2)
                                go_ret
                                exact ⟨by first | rfl | (simp [errW_none, errW_some] <;> rfl) | (simp [*, errW_none, errW_some] <;> rfl), by repeat (first | (with_reducible first | exact HB.out | apply below_alloc | apply pw_below_drewN | apply below_drew1 | refine below_set ?_ GE325.out | refine below_set ?_ GE326.out) | exact HB.out)⟩
                            · rw [if_neg c48] at H
                              exact absurd H (by simp)
                          · rw [if_neg c47] at H
                            exact absurd H (by simp)
                        · rw [if_neg c46] at H
                          have c46b0 : decide (x7_4 < (l0_3.length : Int)) = false := decide_eq_false c46
                          clear c46
                          obtain rfl := Option.some.inj H
                          have hnb56 := NB325_326.out
                          have hnc56 := NB326_325.out
                          have hcz57_0 : wr.cell? ⟨gb325, 0, none⟩ = some (.bool a0_0) := (blk_cell BK325.out 0).trans rfl
                          have hcz57_1 : wr.cell? ⟨gb325, 1, none⟩ = some (.slice A0_1 l0_1.length c0_1) := (blk_cell BK325.out 1).trans rfl
                          have hcz57_2 : wr.cell? ⟨gb325, 2, none⟩ = some (.slice A0_2 l0_2.length c0_2) := (blk_cell BK325.out 2).trans rfl
                          have hcz57_3 : wr.cell? ⟨gb325, 3, none⟩ = some (.slice A0_3 l0_3.length c0_3) := (blk_cell BK325.out 3).trans rfl
                          have hfz57_0 := blk_frozen BK325.out 0
                          have hfz57_1 := blk_frozen BK325.out 1
                          have hfz57_2 := blk_frozen BK325.out 2
                          have hfz57_3 := blk_frozen BK325.out 3
                          go_wp2
                          repeat (go_quiet (fail); try go_wp2)
                          go_ret
                          exact ⟨by first | rfl | (simp [errW_none, errW_some] <;> rfl) | (simp [*, errW_none, errW_some] <;> rfl), by repeat (first | (with_reducible first | exact HB.out | apply below_alloc | apply pw_below_drewN | apply below_drew1 | refine below_set ?_ GE325.out | refine below_set ?_ GE326.out) | exact HB.out)⟩
end
end Go.Proofs.Ytjjfeoigjhbbpaa.PA
namespace Go.Proofs.Ytjjfeoigjhbbpaa.PA
section

open Go.RowKit Go.Proofs.YtjjfeoigjhbbpaaW.PrintWords Go.Proofs.YtjjfeoigjhbbpaaW.PrintLast Go.Proofs.YtjjfeoigjhbbpaaW.PrintMore
attribute [local go_sem] pr_leq pr_geq pr_gtr max2_int min2_int max_two min_two max_three min_three max_four min_four
set_option linter.unusedVariables false
set_option linter.unusedSimpArgs false
theorem wsuc {i : Nat} (h : i < 9223372036854775807) : wrap64 ((i : Int) + 1) = ((i + 1 : Nat) : Int) := by unfold wrap64; omega
theorem same_l2 (a b : Bool) (P Q : List S48) (K L : List ByteArray) (D : List Int) (hD : D.length ≤ 9223372036854775807) : ∀ (n i k : Nat), i + n = D.length → n < k → cisternref11_Same.l2 k (i : Int) a P K D b Q L D = some true
  | 0, i, k + 1, hi, _ => by
    unfold cisternref11_Same.l2
    rw [if_neg (by omega)]
  | n + 1, i, k + 1, hi, hk => by
    unfold cisternref11_Same.l2
    rw [if_pos (by omega), if_pos (by omega), if_pos (by omega), if_pos rfl, wsuc (by omega)]
    exact same_l2 a b P Q K L D hD n (i + 1) k (by omega) (by omega)
theorem same_l1 (a b : Bool) (P Q : List S48) (K : List ByteArray) (D : List Int) (hK : K.length ≤ 9223372036854775807) (hD : D.length ≤ 9223372036854775807) : ∀ (n i k : Nat), i + n = K.length → n + D.length + 1 < k → cisternref11_Same.l1 k (i : Int) a P K D b Q K D = some true
  | 0, i, k + 1, hi, hk => by
    unfold cisternref11_Same.l1
    rw [if_neg (by omega)]
    exact same_l2 a b P Q K K D hD D.length 0 k (by omega) (by omega)
  | n + 1, i, k + 1, hi, hk => by
    unfold cisternref11_Same.l1
    rw [if_pos (by omega), if_pos (by omega), if_pos (by omega), if_pos rfl, wsuc (by omega)]
    exact same_l1 a b P Q K D hK hD n (i + 1) k (by omega) (by omega)
theorem same_l0 (a b : Bool) (P : List S48) (K : List ByteArray) (D : List Int) (hP : P.length ≤ 9223372036854775807) (hK : K.length ≤ 9223372036854775807) (hD : D.length ≤ 9223372036854775807) : ∀ (n i k : Nat), i + n = P.length → n + K.length + D.length + 2 < k → cisternref11_Same.l0 k (i : Int) a P K D b P K D = some true
  | 0, i, k + 1, hi, hk => by
    unfold cisternref11_Same.l0
    rw [if_neg (by omega)]
    exact same_l1 a b P P K D hK hD K.length 0 k (by omega) (by omega)
  | n + 1, i, k + 1, hi, hk => by
    unfold cisternref11_Same.l0
    rw [if_pos (by omega), if_pos (by omega), if_pos (by omega), beq_self_eq_true, beq_self_eq_true, if_neg (by decide), wsuc (by omega)]
    exact same_l0 a b P K D hP hK hD n (i + 1) k (by omega) (by omega)
theorem same_self (a : Bool) (P : List S48) (K : List ByteArray) (D : List Int) (hP : P.length ≤ 9223372036854775807) (hK : K.length ≤ 9223372036854775807) (hD : D.length ≤ 9223372036854775807) (k : Nat) (hk : P.length + K.length + D.length + 3 < k) : cisternref11_Same.f k a P K D a P K D = some true := by
  obtain ⟨k, rfl⟩ : ∃ m, k = m + 1 := ⟨k - 1, by omega⟩
  unfold cisternref11_Same.f
  rw [if_neg (by simp), if_pos rfl, if_pos rfl]
  have : ((D.length : Int) != (D.length : Int)) = false := by simp
  rw [this, cisternref11_Same.j0, if_neg (by decide)]
  exact same_l0 a a P K D hP hK hD P.length 0 k (by omega) (by omega)
end
end Go.Proofs.Ytjjfeoigjhbbpaa.PA
namespace Go.Proofs.Ytjjfeoigjhbbpaa.PA
section

open Go.RowKit Go.Proofs.YtjjfeoigjhbbpaaW.PrintWords Go.Proofs.YtjjfeoigjhbbpaaW.PrintLast Go.Proofs.YtjjfeoigjhbbpaaW.PrintMore
attribute [local go_sem] pr_leq pr_geq pr_gtr max2_int min2_int max_two min_two max_three min_three max_four min_four
set_option linter.unusedVariables false
set_option linter.unusedSimpArgs false
set_option maxHeartbeats 4000000 in
set_option maxRecDepth 100000 in
theorem backW (a : Bool) (A1 : Option Addr) (n1 c1 : Nat) (A2 : Option Addr) (n2 c2 : Nat) (A3 : Option Addr) (n3 c3 : Nat) (w : World) : Calls Try.prog 20 #[.agg #[.bool a, .slice A1 n1 c1, .slice A2 n2 c2, .slice A3 n3 c3]] w fun e w' => e = .returned (.agg #[.bool a, .slice A1 n1 c1, .slice A2 n2 c2, .slice A3 n3 c3]) ∧ Below w.heap.size w w' := by
  obtain ⟨wy, hwy⟩ : ∃ wy, wy = w.alloc (.cells #[.bool a, .slice A1 n1 c1, .slice A2 n2 c2, .slice A3 n3 c3] 31) := ⟨_, rfl⟩
  obtain ⟨wx, hwx⟩ : ∃ wx, wx = wy.alloc (.cells #[.bool false, .slice none 0 0, .slice none 0 0, .slice none 0 0] 26) := ⟨_, rfl⟩
  have ny : wy.heap.size = w.heap.size + 1 := by rw [hwy]; simp
  have b0y := heap_alloc_new w (.cells #[.bool a, .slice A1 n1 c1, .slice A2 n2 c2, .slice A3 n3 c3] 31)
  have bel := below_alloc (Below.refl w.heap.size w) (.cells #[.bool a, .slice A1 n1 c1, .slice A2 n2 c2, .slice A3 n3 c3] 31)
  rw [← hwy] at b0y bel
  have bx := (Lib.alloc_old wy (.cells #[.bool false, .slice none 0 0, .slice none 0 0, .slice none 0 0] 26) w.heap.size (blk_lt b0y)).trans b0y
  have tx := heap_alloc_new wy (.cells #[.bool false, .slice none 0 0, .slice none 0 0, .slice none 0 0] 26)
  rw [← hwx] at bx tx
  rw [ny] at tx
  have BXX : Aside0 (Below w.heap.size w wx) := ⟨by rw [hwx]; exact below_alloc bel _⟩
  have HWX : Aside0 (wx = (w.alloc (.cells #[.bool a, .slice A1 n1 c1, .slice A2 n2 c2, .slice A3 n3 c3] 31)).alloc (.cells #[.bool false, .slice none 0 0, .slice none 0 0, .slice none 0 0] 26)) := ⟨by rw [hwx, hwy]⟩
  have b0 : wx.cell? ⟨w.heap.size, 0, none⟩ = some (.bool a) := blk_cell bx 0
  have b1 : wx.cell? ⟨w.heap.size, 1, none⟩ = some (.slice A1 n1 c1) := blk_cell bx 1
  have b2 : wx.cell? ⟨w.heap.size, 2, none⟩ = some (.slice A2 n2 c2) := blk_cell bx 2
  have b3 : wx.cell? ⟨w.heap.size, 3, none⟩ = some (.slice A3 n3 c3) := blk_cell bx 3
  have c0' : wx.cell? ⟨w.heap.size + 1, 0, none⟩ = some (.bool false) := blk_cell tx 0
  have c1' : wx.cell? ⟨w.heap.size + 1, 1, none⟩ = some (.slice none 0 0) := blk_cell tx 1
  have c2' : wx.cell? ⟨w.heap.size + 1, 2, none⟩ = some (.slice none 0 0) := blk_cell tx 2
  have c3' : wx.cell? ⟨w.heap.size + 1, 3, none⟩ = some (.slice none 0 0) := blk_cell tx 3
  have f0 : wx.frozen? ⟨w.heap.size + 1, 0, none⟩ = false := blk_frozen tx 0
  have f1 : wx.frozen? ⟨w.heap.size + 1, 1, none⟩ = false := blk_frozen tx 1
  have f2 : wx.frozen? ⟨w.heap.size + 1, 2, none⟩ = false := blk_frozen tx 2
  have f3 : wx.frozen? ⟨w.heap.size + 1, 3, none⟩ = false := blk_frozen tx 3
  have t7 := nd_put4 wx (w.heap.size + 1) 26 _ _ _ _ (.bool a) (.slice A1 n1 c1) (.slice A2 n2 c2) (.slice A3 n3 c3) tx
  have hg4 := nd_grown4 wx (w.heap.size + 1) (.bool a) (.slice A1 n1 c1) (.slice A2 n2 c2) (.slice A3 n3 c3)
  have T7 := Aside0.mk t7
  have B7 := Aside0.mk (nd_grown_below hg4 BXX.out BXX.out.size (by omega))
  clear hwx hwy ny b0y bel bx tx t7 hg4
  rw [HWX.out] at b0 b1 b2 b3 c0' c1' c2' c3' f0 f1 f2 f3
  go_enter Try.func20, Try.ntmps20
  go_wp2
  refine bodyPost_ret (results_cell_row rfl _ _ (w.heap.size + 1) 26 #[.bool a, .slice A1 n1 c1, .slice A2 n2 c2, .slice A3 n3 c3] (0, 0) _ rfl (by have h := heap_alloc_new (w.alloc (.cells #[.bool a, .slice A1 n1 c1, .slice A2 n2 c2, .slice A3 n3 c3] 31)) (.cells #[.bool a, .slice A1 n1 c1, .slice A2 n2 c2, .slice A3 n3 c3] 26); rw [show (w.alloc (.cells #[.bool a, .slice A1 n1 c1, .slice A2 n2 c2, .slice A3 n3 c3] 31)).heap.size = w.heap.size + 1 by simp] at h; exact h) Try.underlying26 rfl (by kernel_rfl)) rfl ?_
  exact ⟨rfl, below_alloc (below_alloc (Below.refl w.heap.size w) _) _⟩
end
end Go.Proofs.Ytjjfeoigjhbbpaa.PA
namespace Go.Proofs.Ytjjfeoigjhbbpaa.PA
section

open Go.RowKit Go.Proofs.YtjjfeoigjhbbpaaW.PrintWords Go.Proofs.YtjjfeoigjhbbpaaW.PrintLast Go.Proofs.YtjjfeoigjhbbpaaW.PrintMore
attribute [local go_sem] pr_leq pr_geq pr_gtr max2_int min2_int max_two min_two max_three min_three max_four min_four
set_option linter.unusedVariables false
set_option linter.unusedSimpArgs false
section
open Go.ChangeShapes Go.WideShapes Go.Deep
variable {H : Type} {enc : TypeId × Value → H} {P : Program} {w : World} {base : Nat} {spare : Nat → Bool} {held : Bool}
theorem ra_addr (a : Addr) (m i : Nat) : (a.add m).add i = a.add (m + i) := Go.Deep.add_add a m i
theorem open_rows {α : Type} [Inhabited α] (k : Kd α) (Wf : α → Prop) {t e : TypeId} {fuel : Nat} {A : Option Addr} {len cap : Nat} {x : DataW H × List MemPlace} (ht : P.underlying t = some (.slice e)) (hce : P.cellsOf e = k.sz)
    (He : ∀ n cs y, DataW.trod enc P w base spare held n e cs = some y → ∃ v, k.K w v cs ∧ Wf v)
    (h : DataW.trod enc P w base spare held fuel t [.slice A len cap] = some x) : ∃ l : List α, l.length = len ∧ k.C w A len l ∧ len ≤ cap ∧ ∀ v ∈ l, Wf v := by
  rcases open_slice ht h with ⟨hcs, _⟩ | ⟨a, l, c, m, n, D, Pl, hcs, _, hl, hm, hmm, _, hx⟩
  · simp at hcs
    obtain ⟨rfl, rfl, rfl⟩ := hcs
    exact ⟨[], rfl, ⟨rfl, by omega, fun h0 => absurd h0 (by omega)⟩, Nat.le_refl _, by simp⟩
  · simp at hcs
    obtain ⟨rfl, rfl, rfl⟩ := hcs
    have hlm : len ≤ m := by rw [hmm]; split <;> omega
    obtain ⟨f, hf⟩ := choose_lt (α := α) (n := len) (p := fun i v => ∃ cs, w.cells? base (a.add (i * k.sz)) k.sz = some cs ∧ k.K w v cs ∧ Wf v) (fun i hi => by
      obtain ⟨cs', h1, h2⟩ := hx i (by omega)
      rw [hce] at h1
      obtain ⟨v, h3, h4⟩ := He _ _ _ h2
      exact ⟨v, cs', h1, h3, h4⟩)
    refine ⟨(List.range len).map f, by simp, ⟨by simp, by simp only [maxLen] at hm; omega, fun _ => ⟨a, rfl, fun j p hj => ?_⟩⟩, hl, fun v hv => ?_⟩
    · have hjl : j < len := by
        rcases Nat.lt_or_ge j len with h' | h'
        · exact h'
        · rw [List.getElem?_eq_none (by simpa using h')] at hj; cases hj
      simp [hjl] at hj
      subst hj
      obtain ⟨cs, h1, h2, _⟩ := hf j hjl
      obtain ⟨_, h3, h4⟩ := World.cells?_some h1
      refine ⟨cs, h3, h2, fun i u hu => ?_⟩
      have hi : i < k.sz := by rw [← h3]; exact (List.getElem?_eq_some_iff.1 hu).1
      rw [← ra_addr, h4 i hi, hu]
    · simp only [List.mem_map, List.mem_range] at hv
      obtain ⟨j, hj, rfl⟩ := hv
      exact (hf j hj).choose_spec.2.2
end
section
open Go.ChangeShapes Go.WideShapes Go.Deep
variable {H : Type} {enc : TypeId × Value → H} {P : Program} {w : World} {base : Nat} {spare : Nat → Bool} {held : Bool}
theorem struct_rows_sized {ts : List TypeId} {ds : List (DataW H)} {ps : List MemPlace} {d : DataW H} {j i off : Nat} {t ft e : TypeId} {fs : Array Field} {f : Field} {cs : List Value} {v : Value} {A : Option Addr} {len cap : Nat}
    (hsz : (DataW.weightsEach P ts ds).all (· ≤ reachBytes) = true) (htj : ts[j]? = some t) (hdj : ds[j]? = some d) (ht : P.underlying t = some (.struct fs)) (hf : fs[i]? = some f) (hft : f.type = ft) (ho : f.offset = off) (hfe : P.underlying ft = some (.slice e)) (hco : P.cellsOf ft = 1) {B : Nat} (hB : P.bytesOf e = B)
    (h : DataW.Trod enc P w base spare held t v d ps) (hv : v.cells.toList = cs) (hc : cs[off]? = some (.slice A len cap)) : len * B ≤ 140737488351232 := by
  subst hv; subst hft; subst ho
  obtain ⟨fuel, hx⟩ := h
  obtain ⟨xs, n, _, he, _, hl, hh⟩ := DataW.trod_struct ht hx
  have hi := hh i f hf
  have hlt : i < xs.length := by rw [hl]; exact (Array.getElem?_eq_some_iff.1 hf).1
  rw [List.getElem?_eq_getElem hlt, hco] at hi
  have h1 : (v.cells.toList.drop f.offset).take 1 = [.slice A len cap] := by
    obtain ⟨hlo, hco'⟩ := List.getElem?_eq_some_iff.1 hc
    rw [List.drop_eq_getElem_cons hlo, hco']
    rfl
  rw [h1] at hi
  rcases open_slice hfe hi with ⟨hcs, _⟩ | ⟨a, l, c, m, n, D, Pl, hcs, _, hl', hm, hmm, hx', _⟩
  · simp at hcs
    obtain ⟨rfl, rfl, rfl⟩ := hcs
    simp
  · simp at hcs
    obtain ⟨rfl, rfl, rfl⟩ := hcs
    have hd : d = .agg (xs.map (·.1)) := by injection he
    have hmem : (len + (m - len)) * P.bytesOf e ∈ DataW.weightsEach P ts ds := by
      refine DataW.weights_mem_each htj hdj _ ?_
      rw [hd]
      simp only [DataW.weights, ht]
      refine DataW.weights_mem_each (j := i) (t := f.type) (d := xs[i].1) ?_ ?_ _ ?_
      · rw [List.getElem?_map, Array.getElem?_toList, hf]
        rfl
      · rw [List.getElem?_map, List.getElem?_eq_getElem hlt]
        rfl
      · rw [hx']
        simp [DataW.weights, hfe]
    have z := List.all_eq_true.1 hsz _ hmem
    rw [hB] at z
    have z' : (len + (m - len)) * B ≤ reachBytes := by simpa using z
    have h3 : len ≤ len + (m - len) := by omega
    exact Nat.le_trans (Nat.mul_le_mul_right _ h3) z'
end
end
end Go.Proofs.Ytjjfeoigjhbbpaa.PA
namespace Go.Proofs.Ytjjfeoigjhbbpaa.PA
section

open Go.RowKit Go.Proofs.YtjjfeoigjhbbpaaW.PrintWords Go.Proofs.YtjjfeoigjhbbpaaW.PrintLast Go.Proofs.YtjjfeoigjhbbpaaW.PrintMore
attribute [local go_sem] pr_leq pr_geq pr_gtr max2_int min2_int max_two min_two max_three min_three max_four min_four
set_option linter.unusedVariables false
set_option linter.unusedSimpArgs false
theorem known_enc : node_Encode.f true [(⟨⟨#[97]⟩, ⟨#[49]⟩⟩ : S48)] [] [] = some (⟨#[1, 1, 1, 97, 1, 49]⟩, 0) := by
  have e0 : keyB ⟨#[97]⟩ = true := by
    unfold keyB
    rw [nd_toList]
    rfl
  have e1 : leafV true [(⟨⟨#[97]⟩, ⟨#[49]⟩⟩ : S48)] [] [] = true := by
    unfold leafV badP
    simp only [List.any_cons, List.any_nil, e0]
    rfl
  unfold node_Encode.f
  rw [e1]
  rfl
theorem known_val : cisternlaw11_known.f = some true := by
  unfold cisternlaw11_known.f
  rw [known_enc, Option.bind_some, if_pos rfl, nd_toList]
  rfl
end
end Go.Proofs.Ytjjfeoigjhbbpaa.PA
namespace Go.Proofs.Ytjjfeoigjhbbpaa.PA
section

open Go.RowKit Go.Proofs.YtjjfeoigjhbbpaaW.PrintWords Go.Proofs.YtjjfeoigjhbbpaaW.PrintLast Go.Proofs.YtjjfeoigjhbbpaaW.PrintMore
attribute [local go_sem] pr_leq pr_geq pr_gtr max2_int min2_int max_two min_two max_three min_three max_four min_four
set_option linter.unusedVariables false
set_option linter.unusedSimpArgs false
/-- A row of the calls' own of which only its length is known. -/
def OwnC (e sz : Nat) (w : World) (b : Nat) (A : Option Addr) (n : Nat) : Prop := 0 < n → ∃ g cs, A = some ⟨g, 0, none⟩ ∧ b ≤ g ∧ w.heap[g]? = some (.cells cs e (0, 0)) ∧ n * sz ≤ cs.size
theorem OwnC.of_R {α : Type} {d : Kd α} {e : Nat} {w : World} {b : Nat} {ok : Nat → Prop} {A : Option Addr} {n c : Nat} {ys : List α} (h : d.R e w b ok (.slice A n c) ys) (hn : n = ys.length) : OwnC e d.sz w b A n := fun h0 => by
  obtain ⟨inner, ho⟩ := Kd.R_own h
  rcases ho.2 with ⟨hv, h1⟩ | ⟨g, cap, cur, hv, hg, hh, hc, _, hs, _⟩
  · omega
  · rw [Value.slice.injEq] at hv
    exact ⟨g, cur, hv.1, hg, hh, by rw [hs]; exact Nat.mul_le_mul_right _ (by omega)⟩
theorem OwnC.set {e sz : Nat} {w : World} {b : Nat} {A : Option Addr} {n : Nat} (h : OwnC e sz w b A n) (g i : Nat) (u : Value) : OwnC e sz (w.setCell ⟨g, i, none⟩ u) b A n := fun h0 => by
  obtain ⟨g', cs, h1, h2, h3, h4⟩ := h h0
  by_cases hg : g' = g
  · subst hg
    exact ⟨g', _, h1, h2, heap_setCell_same w g' i _ e u h3, by simpa using h4⟩
  · exact ⟨g', cs, h1, h2, (Below.heap_setCell w ⟨g, i, none⟩ u g' hg).trans h3, h4⟩
def sel {α : Type} (a b c d e : α) : Nat → α
  | 0 => a
  | 1 => b
  | 2 => c
  | 3 => d
  | _ => e
/-- Five nodes in a row, their rows of the calls' own. -/
structure LAt (AP AK AD : Nat → Option Addr) (nP nK nD cP cK cD : Nat → Nat) (b gl : Nat) (W : World) : Prop where
  blk : ∃ cs, W.heap[gl]? = some (.cells cs 31 (0, 0)) ∧ ∀ i, i < 5 → cs[i * 4 + 1]? = some (.slice (AP i) (nP i) (cP i)) ∧ cs[i * 4 + 2]? = some (.slice (AK i) (nK i) (cK i)) ∧ cs[i * 4 + 3]? = some (.slice (AD i) (nD i) (cD i))
  own : ∀ i, i < 5 → OwnC 48 2 W b (AP i) (nP i) ∧ OwnC 9 1 W b (AK i) (nK i) ∧ OwnC 3 1 W b (AD i) (nD i)
  len : ∀ i, i < 5 → nP i ≤ 9223372036854775807 ∧ nK i ≤ 9223372036854775807 ∧ nD i ≤ 9223372036854775807
section
variable {AP AK AD : Nat → Option Addr} {nP nK nD cP cK cD : Nat → Nat} {b gl : Nat} {W : World}
theorem LAt.set (h : LAt AP AK AD nP nK nD cP cK cD b gl W) {g e : Nat} {cs : Array Value} (hg : W.heap[g]? = some (.cells cs e (0, 0))) (he : e ≠ 31) (i : Nat) (u : Value) : LAt AP AK AD nP nK nD cP cK cD b gl (W.setCell ⟨g, i, none⟩ u) := by
  obtain ⟨cl, h1, h2⟩ := h.blk
  have hn : gl ≠ g := fun e' => by
    subst e'
    rw [hg] at h1
    injection h1 with h1; injection h1 with h1 h3
    exact he h3
  exact ⟨⟨cl, (Below.heap_setCell W ⟨g, i, none⟩ u gl hn).trans h1, h2⟩, fun j hj => ⟨(h.own j hj).1.set g i u, (h.own j hj).2.1.set g i u, (h.own j hj).2.2.set g i u⟩, h.len⟩
theorem LAt.c1 (h : LAt AP AK AD nP nK nD cP cK cD b gl W) (i : Nat) (hi : i < 5) : W.cell? ⟨gl, i * 4 + 1, none⟩ = some (.slice (AP i) (nP i) (cP i)) := by
  obtain ⟨cl, h1, h2⟩ := h.blk
  exact (blk_cell h1 _).trans (h2 i hi).1
theorem LAt.c2 (h : LAt AP AK AD nP nK nD cP cK cD b gl W) (i : Nat) (hi : i < 5) : W.cell? ⟨gl, i * 4 + 2, none⟩ = some (.slice (AK i) (nK i) (cK i)) := by
  obtain ⟨cl, h1, h2⟩ := h.blk
  exact (blk_cell h1 _).trans (h2 i hi).2.1
theorem LAt.c3 (h : LAt AP AK AD nP nK nD cP cK cD b gl W) (i : Nat) (hi : i < 5) : W.cell? ⟨gl, i * 4 + 3, none⟩ = some (.slice (AD i) (nD i) (cD i)) := by
  obtain ⟨cl, h1, h2⟩ := h.blk
  exact (blk_cell h1 _).trans (h2 i hi).2.2
theorem LAt.at1 (h : LAt AP AK AD nP nK nD cP cK cD b gl W) (i : Nat) (hi : i < 5) (k : Nat) (hk : k < nP i) : ∃ g, AP i = some ⟨g, 0, none⟩ ∧ (∃ u, W.cell? ⟨g, k * 2, none⟩ = some u) ∧ (∃ u, W.cell? ⟨g, k * 2 + 1, none⟩ = some u) ∧ W.frozen? ⟨g, k * 2, none⟩ = false ∧ W.frozen? ⟨g, k * 2 + 1, none⟩ = false ∧
    Aside0 (∀ x y, LAt AP AK AD nP nK nD cP cK cD b gl ((W.setCell ⟨g, k * 2, none⟩ x).setCell ⟨g, k * 2 + 1, none⟩ y)) ∧ Aside0 (∀ w0 x y, Below b w0 W → Below b w0 ((W.setCell ⟨g, k * 2, none⟩ x).setCell ⟨g, k * 2 + 1, none⟩ y)) := by
  obtain ⟨g, cs, e, h2, h3, h4⟩ := (h.own i hi).1 (by omega)
  have z0 : k * 2 < cs.size := by omega
  have z1 : k * 2 + 1 < cs.size := by omega
  exact ⟨g, e, ⟨_, (blk_cell h3 _).trans (Array.getElem?_eq_getElem z0)⟩, ⟨_, (blk_cell h3 _).trans (Array.getElem?_eq_getElem z1)⟩, blk_frozen h3 _, blk_frozen h3 _, ⟨fun x y => (h.set h3 (by decide) (k * 2) x).set (heap_setCell_same W g (k * 2) _ 48 x h3) (by decide) (k * 2 + 1) y⟩, ⟨fun w0 x y hb => (hb.setCell (p := ⟨g, k * 2, none⟩) h2 x).setCell (p := ⟨g, k * 2 + 1, none⟩) h2 y⟩⟩
theorem LAt.at2 (h : LAt AP AK AD nP nK nD cP cK cD b gl W) (i : Nat) (hi : i < 5) (k : Nat) (hk : k < nK i) : ∃ g, AK i = some ⟨g, 0, none⟩ ∧ (∃ u, W.cell? ⟨g, k, none⟩ = some u) ∧ W.frozen? ⟨g, k, none⟩ = false ∧
    Aside0 (∀ x, LAt AP AK AD nP nK nD cP cK cD b gl (W.setCell ⟨g, k, none⟩ x)) ∧ Aside0 (∀ w0 x, Below b w0 W → Below b w0 (W.setCell ⟨g, k, none⟩ x)) := by
  obtain ⟨g, cs, e, h2, h3, h4⟩ := (h.own i hi).2.1 (by omega)
  have z0 : k < cs.size := by omega
  exact ⟨g, e, ⟨_, (blk_cell h3 _).trans (Array.getElem?_eq_getElem z0)⟩, blk_frozen h3 _, ⟨fun x => h.set h3 (by decide) k x⟩, ⟨fun w0 x hb => hb.setCell (p := ⟨g, k, none⟩) h2 x⟩⟩
theorem LAt.at3 (h : LAt AP AK AD nP nK nD cP cK cD b gl W) (i : Nat) (hi : i < 5) (k : Nat) (hk : k < nD i) : ∃ g, AD i = some ⟨g, 0, none⟩ ∧ (∃ u, W.cell? ⟨g, k, none⟩ = some u) ∧ W.frozen? ⟨g, k, none⟩ = false ∧
    Aside0 (∀ x, LAt AP AK AD nP nK nD cP cK cD b gl (W.setCell ⟨g, k, none⟩ x)) ∧ Aside0 (∀ w0 x, Below b w0 W → Below b w0 (W.setCell ⟨g, k, none⟩ x)) := by
  obtain ⟨g, cs, e, h2, h3, h4⟩ := (h.own i hi).2.2 (by omega)
  have z0 : k < cs.size := by omega
  exact ⟨g, e, ⟨_, (blk_cell h3 _).trans (Array.getElem?_eq_getElem z0)⟩, blk_frozen h3 _, ⟨fun x => h.set h3 (by decide) k x⟩, ⟨fun w0 x hb => hb.setCell (p := ⟨g, k, none⟩) h2 x⟩⟩
end
theorem Sp.z48 {l : List S48} {g : Nat} {W : World} (h : Sp k48 48 (.agg #[(.string ⟨#[]⟩), (.string ⟨#[]⟩)]) l g W) : W.cell? ⟨g, l.length * 2, none⟩ = some (.string ⟨#[]⟩) ∧ W.cell? ⟨g, l.length * 2 + 1, none⟩ = some (.string ⟨#[]⟩) := by
  obtain ⟨_, cs, h1, h2, h3⟩ := h
  have a := h3 (l.length * 2) (Nat.le_refl _) (show _ < (l.length + 1) * 2 by omega)
  have b := h3 (l.length * 2 + 1) (show l.length * 2 ≤ _ by omega) (show _ < (l.length + 1) * 2 by omega)
  rw [show l.length * 2 % k48.sz = 0 from Nat.mul_mod_left _ _] at a
  rw [show (l.length * 2 + 1) % k48.sz = 1 by show (l.length * 2 + 1) % 2 = 1; omega] at b
  exact ⟨(blk_cell h1 _).trans a, (blk_cell h1 _).trans b⟩
theorem Sp.z1 {α : Type} {d : Kd α} (hd : d.sz = 1) {e : Nat} {z : Value} {l : List α} {g : Nat} {W : World} (h : Sp d e z l g W) : W.cell? ⟨g, l.length, none⟩ = some (z.cells[0]!) := by
  obtain ⟨_, cs, h1, h2, h3⟩ := h
  have a := h3 l.length (by rw [hd]; omega) (by rw [hd]; omega)
  rw [hd, Nat.mod_one] at a
  exact (blk_cell h1 _).trans a
set_option maxHeartbeats 4000000 in
set_option maxRecDepth 100000 in
theorem cisternlaw11_NodeApart.walk (a : Bool) (A1 : Option Addr) (c1 : Nat) (l1 : List S48) (A2 : Option Addr) (c2 : Nat) (l2 : List ByteArray) (A3 : Option Addr) (c3 : Nat) (l3 : List Int) (key val : ByteArray) (w : World)
    (_wa0 : True ∧ (∀ x_ ∈ l1, (x_.f0.size ≤ maxLen) ∧ (x_.f1.size ≤ maxLen)) ∧ (∀ x_ ∈ l2, x_.size ≤ maxLen) ∧ (∀ x_ ∈ l3, (Lit.int .i64 x_).wf = true)) (hr1 : Kd.C k48 w A1 l1.length l1) (hc1 : l1.length ≤ c1) (y1 : l1.length * 32 ≤ 140737488351232) (hr2 : Kd.C Kd.string w A2 l2.length l2) (hc2 : l2.length ≤ c2) (y2 : l2.length * 16 ≤ 140737488351232) (hr3 : Kd.C (Kd.int .i64) w A3 l3.length l3) (hc3 : l3.length ≤ c3) (y3 : l3.length * 8 ≤ 140737488351232) (_wk : key.size ≤ 140737488351232) (_wv : val.size ≤ 140737488351232) :
    Calls Try.prog 11 #[.agg #[.bool a, .slice A1 l1.length c1, .slice A2 l2.length c2, .slice A3 l3.length c3], .string key, .string val] w fun e w' => e = .returned (.bool true) ∧ Below w.heap.size w w' := by
  obtain ⟨KK, hK⟩ : ∃ K : Nat, K = 281474976710656 := ⟨_, rfl⟩
  have OB : Aside0 (32 * (l1.length + 1) ≤ 281474976710656 ∧ 16 * (l2.length + 1) ≤ 281474976710656 ∧ 8 * (l3.length + 1) ≤ 281474976710656) := ⟨by omega⟩
  have OM : Aside0 (l1.length < maxLen ∧ l2.length < maxLen ∧ l3.length < maxLen) := ⟨by simp only [maxLen]; omega⟩
  have SS : Aside0 (cisternref11_Same.f KK a l1 l2 l3 a l1 l2 l3 = some true) := ⟨same_self a l1 l2 l3 (by omega) (by omega) (by omega) KK (by omega)⟩
  have HR1 := Aside0.mk hr1
  have HR2 := Aside0.mk hr2
  have HR3 := Aside0.mk hr3
  obtain ⟨pb, P1, P2, P3, pe, hp⟩ : ∃ b x y z e, node_Put.f a l1 l2 l3 key val = some (b, x, y, z, e) := ⟨_, _, _, _, _, rfl⟩
  obtain ⟨db, D1, D2, D3, de, hd⟩ : ∃ b x y z e, node_Drop.f a l1 l2 l3 key = some (b, x, y, z, e) := ⟨_, _, _, _, _, rfl⟩
  obtain ⟨sb, S1, S2, S3, sk, tb, T1, T2, T3, se, hs⟩ : ∃ b x y z k b' x' y' z' e, node_Split.f a l1 l2 l3 = some (b, x, y, z, k, b', x', y', z', e) := ⟨_, _, _, _, _, _, _, _, _, _, rfl⟩
  obtain ⟨mb, M1, M2, M3, me, hm⟩ : ∃ b x y z e, node_Merge.f a l1 l2 l3 key a l1 l2 l3 = some (b, x, y, z, e) := ⟨_, _, _, _, _, rfl⟩
  have PV := Aside0.mk hp
  have DV := Aside0.mk hd
  have SV := Aside0.mk hs
  have MV := Aside0.mk hm
  clear hp hd hs hm hr1 hr2 hr3 y1 y2 y3 _wa0 hK _wk _wv
  have BB0 := Below.refl w.heap.size w
  obtain ⟨wp0, hwp0⟩ : ∃ x, x = w.alloc (.cells #[.bool a, .slice A1 l1.length c1, .slice A2 l2.length c2, .slice A3 l3.length c3] 26) := ⟨_, rfl⟩
  have t_n := heap_alloc_new w (.cells #[.bool a, .slice A1 l1.length c1, .slice A2 l2.length c2, .slice A3 l3.length c3] 26)
  rw [← hwp0] at t_n
  have BB1 : Below w.heap.size w wp0 := by rw [hwp0]; exact below_alloc BB0 _
  have sz0 : wp0.heap.size = w.heap.size + 1 := by rw [hwp0]; simp
  have HW0 : Aside0 (wp0 = (w.alloc (.cells #[.bool a, .slice A1 l1.length c1, .slice A2 l2.length c2, .slice A3 l3.length c3] 26))) := ⟨by rw [hwp0]⟩
  have T_n := Aside0.mk t_n
  have BB := Aside0.mk BB1
  have SZ0 := Aside0.mk sz0
  clear t_n BB0 BB1 sz0 hwp0
  go_enter Try.func11, Try.ntmps11
  go_wp2_with fail
  rw [← HW0.out]
  refine (cisternlaw11_known.calls true _ known_val).mono ?_
  rintro e w101 ⟨rfl, hB⟩
  replace T_n := Aside0.mk ((hB.block _ (blk_lt T_n.out)).trans T_n.out)
  replace BB := Aside0.mk (BB.out.trans (hB.mono BB.out.size))
  clear hB
  have c_n0 : w101.cell? ⟨w.heap.size, 0, none⟩ = some (.bool a) := blk_cell T_n.out 0
  have c_n1 : w101.cell? ⟨w.heap.size, 1, none⟩ = some (.slice A1 l1.length c1) := blk_cell T_n.out 1
  have c_n2 : w101.cell? ⟨w.heap.size, 2, none⟩ = some (.slice A2 l2.length c2) := blk_cell T_n.out 2
  have c_n3 : w101.cell? ⟨w.heap.size, 3, none⟩ = some (.slice A3 l3.length c3) := blk_cell T_n.out 3
  go_wp2_with fail
  have BBo := BB
  refine (of_strong a A1 c1 l1 A2 c2 l2 A3 c3 l3 _ (Kd.C_below HR1.out BB.out) (Kd.C_below HR2.out BB.out) (Kd.C_below HR3.out BB.out) OB.out.1 OB.out.2.1 OB.out.2.2).mono ?_
  rintro e w102 ⟨g1, g2, g3, rfl, z1, z2, z3, _, _, _, S1, S2, S3, hB⟩
  replace T_n := Aside0.mk ((hB.block _ (blk_lt T_n.out)).trans T_n.out)
  replace BB := Aside0.mk (BB.out.trans (hB.mono BB.out.size))
  clear hB
  clear c_n0 c_n1 c_n2 c_n3
  have BO := Aside0.mk (Below.refl w102.heap.size w102)
  have SP1 := Aside0.mk S1
  have R_i1 := Aside0.mk (Sp.R (b := w.heap.size) flat48 (by decide) S1 (Nat.le_trans BBo.out.size z1) OM.out.1)
  have SP2 := Aside0.mk S2
  have R_i2 := Aside0.mk (Sp.R (b := w.heap.size) flatS (by decide) S2 (Nat.le_trans BBo.out.size z2) OM.out.2.1)
  have SP3 := Aside0.mk S3
  have R_i3 := Aside0.mk (Sp.R (b := w.heap.size) flatI (by decide) S3 (Nat.le_trans BBo.out.size z3) OM.out.2.2)
  clear BBo S1 S2 S3 z1 z2 z3
  go_upto_region 4 with fail
  obtain ⟨g104, hg104⟩ : ∃ n, n = w102.heap.size := ⟨_, rfl⟩
  obtain ⟨w103, hw103⟩ : ∃ x, x = w102.alloc (.cells #[.bool a, .slice (some ⟨g1, 0, none⟩) (l1).length (l1.length + 1), .slice (some ⟨g2, 0, none⟩) (l2).length (l2.length + 1), .slice (some ⟨g3, 0, none⟩) (l3).length (l3.length + 1)] 31) := ⟨_, rfl⟩
  have tn := heap_alloc_new w102 (.cells #[.bool a, .slice (some ⟨g1, 0, none⟩) (l1).length (l1.length + 1), .slice (some ⟨g2, 0, none⟩) (l2).length (l2.length + 1), .slice (some ⟨g3, 0, none⟩) (l3).length (l3.length + 1)] 31)
  have hB := below_alloc (Below.refl w102.heap.size w102) (.cells #[.bool a, .slice (some ⟨g1, 0, none⟩) (l1).length (l1.length + 1), .slice (some ⟨g2, 0, none⟩) (l2).length (l2.length + 1), .slice (some ⟨g3, 0, none⟩) (l3).length (l3.length + 1)] 31)
  rw [← hw103] at tn hB
  rw [← hg104] at tn
  have GBB_in : Aside0 (w.heap.size ≤ g104) := ⟨by rw [hg104]; exact BB.out.size⟩
  have GBO_in : Aside0 (w102.heap.size ≤ g104) := ⟨by rw [hg104]; exact BO.out.size⟩
  have NE_in_n : Aside0 (w.heap.size ≠ g104) := ⟨by have := blk_lt T_n.out; omega⟩
  replace T_n := Aside0.mk ((hB.block _ (blk_lt T_n.out)).trans T_n.out)
  replace R_i1 := Aside0.mk (Kd.R_below R_i1.out hB)
  replace R_i2 := Aside0.mk (Kd.R_below R_i2.out hB)
  replace R_i3 := Aside0.mk (Kd.R_below R_i3.out hB)
  replace BB := Aside0.mk (BB.out.trans (hB.mono BB.out.size))
  replace BO := Aside0.mk (BO.out.trans (hB.mono BO.out.size))
  have T_in := Aside0.mk tn
  clear tn hB
  rw [← hw103]
  try rw [← hg104]
  clear hw103 hg104
  have B1 := Aside0.mk (Below.refl w103.heap.size w103)
  have T1_n := T_n
  have T1_in := T_in
  have R1_1 := R_i1
  have R1_2 := R_i2
  have R1_3 := R_i3
  have BB1 := BB
  have BO1 := BO
  have c_in0 : w103.cell? ⟨g104, 0, none⟩ = some (.bool a) := blk_cell T_in.out 0
  have c_in1 : w103.cell? ⟨g104, 1, none⟩ = some (.slice (some ⟨g1, 0, none⟩) (l1).length (l1.length + 1)) := blk_cell T_in.out 1
  have c_in2 : w103.cell? ⟨g104, 2, none⟩ = some (.slice (some ⟨g2, 0, none⟩) (l2).length (l2.length + 1)) := blk_cell T_in.out 2
  have c_in3 : w103.cell? ⟨g104, 3, none⟩ = some (.slice (some ⟨g3, 0, none⟩) (l3).length (l3.length + 1)) := blk_cell T_in.out 3
  go_wp2_with fail
  have B1o := B1
  refine (node_Put.calls a (some ⟨g1, 0, none⟩) (l1.length + 1) l1 (some ⟨g2, 0, none⟩) (l2.length + 1) l2 (some ⟨g3, 0, none⟩) (l3.length + 1) l3 key val pb P1 P2 P3 pe _ (Kd.R_reads' R_i1.out).2.2 (Kd.R_reads' R_i1.out).2.1 (Kd.R_reads' R_i2.out).2.2 (Kd.R_reads' R_i2.out).2.1 (Kd.R_reads' R_i3.out).2.2 (Kd.R_reads' R_i3.out).2.1 PV.out).mono ?_
  rintro e w105 ⟨v1, v2, v3, rfl, h1, h2, h3, hB⟩
  replace T_n := Aside0.mk ((hB.block _ (blk_lt T_n.out)).trans T_n.out)
  replace T_in := Aside0.mk ((hB.block _ (blk_lt T_in.out)).trans T_in.out)
  replace R_i1 := Aside0.mk (Kd.R_below R_i1.out hB)
  replace R_i2 := Aside0.mk (Kd.R_below R_i2.out hB)
  replace R_i3 := Aside0.mk (Kd.R_below R_i3.out hB)
  replace BB := Aside0.mk (BB.out.trans (hB.mono BB.out.size))
  replace BO := Aside0.mk (BO.out.trans (hB.mono BO.out.size))
  replace B1 := Aside0.mk (B1.out.trans (hB.mono B1.out.size))
  clear hB
  clear c_in0 c_in1 c_in2 c_in3
  obtain ⟨A106, c107, rfl⟩ := Kd.R_slice h1
  have R_p1 := Aside0.mk (Kd.R_lower h1 B1o.out.size)
  obtain ⟨A108, c109, rfl⟩ := Kd.R_slice h2
  have R_p2 := Aside0.mk (Kd.R_lower h2 B1o.out.size)
  obtain ⟨A110, c111, rfl⟩ := Kd.R_slice h3
  have R_p3 := Aside0.mk (Kd.R_lower h3 B1o.out.size)
  clear B1o h1 h2 h3
  go_upto_region 5 with fail
  obtain ⟨g113, hg113⟩ : ∃ n, n = w105.heap.size := ⟨_, rfl⟩
  obtain ⟨w112, hw112⟩ : ∃ x, x = w105.alloc (.cells #[.bool pb, .slice A106 (P1).length c107, .slice A108 (P2).length c109, .slice A110 (P3).length c111] 31) := ⟨_, rfl⟩
  have tn := heap_alloc_new w105 (.cells #[.bool pb, .slice A106 (P1).length c107, .slice A108 (P2).length c109, .slice A110 (P3).length c111] 31)
  have hB := below_alloc (Below.refl w105.heap.size w105) (.cells #[.bool pb, .slice A106 (P1).length c107, .slice A108 (P2).length c109, .slice A110 (P3).length c111] 31)
  rw [← hw112] at tn hB
  rw [← hg113] at tn
  have GBB_pa : Aside0 (w.heap.size ≤ g113) := ⟨by rw [hg113]; exact BB.out.size⟩
  have GBO_pa : Aside0 (w102.heap.size ≤ g113) := ⟨by rw [hg113]; exact BO.out.size⟩
  have GB1_pa : Aside0 (w103.heap.size ≤ g113) := ⟨by rw [hg113]; exact B1.out.size⟩
  have NE_pa_n : Aside0 (w.heap.size ≠ g113) := ⟨by have := blk_lt T_n.out; omega⟩
  have NE_pa_in : Aside0 (g104 ≠ g113) := ⟨by have := blk_lt T_in.out; omega⟩
  replace T_n := Aside0.mk ((hB.block _ (blk_lt T_n.out)).trans T_n.out)
  replace T_in := Aside0.mk ((hB.block _ (blk_lt T_in.out)).trans T_in.out)
  replace R_i1 := Aside0.mk (Kd.R_below R_i1.out hB)
  replace R_i2 := Aside0.mk (Kd.R_below R_i2.out hB)
  replace R_i3 := Aside0.mk (Kd.R_below R_i3.out hB)
  replace R_p1 := Aside0.mk (Kd.R_below R_p1.out hB)
  replace R_p2 := Aside0.mk (Kd.R_below R_p2.out hB)
  replace R_p3 := Aside0.mk (Kd.R_below R_p3.out hB)
  replace BB := Aside0.mk (BB.out.trans (hB.mono BB.out.size))
  replace BO := Aside0.mk (BO.out.trans (hB.mono BO.out.size))
  replace B1 := Aside0.mk (B1.out.trans (hB.mono B1.out.size))
  have T_pa := Aside0.mk tn
  clear tn hB
  rw [← hw112]
  try rw [← hg113]
  clear hw112 hg113
  have c_in0 : w112.cell? ⟨g104, 0, none⟩ = some (.bool a) := blk_cell T_in.out 0
  have c_in1 : w112.cell? ⟨g104, 1, none⟩ = some (.slice (some ⟨g1, 0, none⟩) (l1).length (l1.length + 1)) := blk_cell T_in.out 1
  have c_in2 : w112.cell? ⟨g104, 2, none⟩ = some (.slice (some ⟨g2, 0, none⟩) (l2).length (l2.length + 1)) := blk_cell T_in.out 2
  have c_in3 : w112.cell? ⟨g104, 3, none⟩ = some (.slice (some ⟨g3, 0, none⟩) (l3).length (l3.length + 1)) := blk_cell T_in.out 3
  go_wp2_with fail
  have B1o := B1
  refine (node_Drop.calls a (some ⟨g1, 0, none⟩) (l1.length + 1) l1 (some ⟨g2, 0, none⟩) (l2.length + 1) l2 (some ⟨g3, 0, none⟩) (l3.length + 1) l3 key db D1 D2 D3 de _ (Kd.R_reads' R_i1.out).2.2 (Kd.R_reads' R_i1.out).2.1 (Kd.R_reads' R_i2.out).2.2 (Kd.R_reads' R_i2.out).2.1 (Kd.R_reads' R_i3.out).2.2 (Kd.R_reads' R_i3.out).2.1 DV.out).mono ?_
  rintro e w114 ⟨v1, v2, v3, rfl, h1, h2, h3, hB⟩
  replace T_n := Aside0.mk ((hB.block _ (blk_lt T_n.out)).trans T_n.out)
  replace T_in := Aside0.mk ((hB.block _ (blk_lt T_in.out)).trans T_in.out)
  replace T_pa := Aside0.mk ((hB.block _ (blk_lt T_pa.out)).trans T_pa.out)
  replace R_i1 := Aside0.mk (Kd.R_below R_i1.out hB)
  replace R_i2 := Aside0.mk (Kd.R_below R_i2.out hB)
  replace R_i3 := Aside0.mk (Kd.R_below R_i3.out hB)
  replace R_p1 := Aside0.mk (Kd.R_below R_p1.out hB)
  replace R_p2 := Aside0.mk (Kd.R_below R_p2.out hB)
  replace R_p3 := Aside0.mk (Kd.R_below R_p3.out hB)
  replace BB := Aside0.mk (BB.out.trans (hB.mono BB.out.size))
  replace BO := Aside0.mk (BO.out.trans (hB.mono BO.out.size))
  replace B1 := Aside0.mk (B1.out.trans (hB.mono B1.out.size))
  clear hB
  clear c_in0 c_in1 c_in2 c_in3
  obtain ⟨A115, c116, rfl⟩ := Kd.R_slice h1
  have R_d1 := Aside0.mk (Kd.R_lower h1 B1o.out.size)
  obtain ⟨A117, c118, rfl⟩ := Kd.R_slice h2
  have R_d2 := Aside0.mk (Kd.R_lower h2 B1o.out.size)
  obtain ⟨A119, c120, rfl⟩ := Kd.R_slice h3
  have R_d3 := Aside0.mk (Kd.R_lower h3 B1o.out.size)
  clear B1o h1 h2 h3
  go_upto_region 6 with fail
  obtain ⟨g122, hg122⟩ : ∃ n, n = w114.heap.size := ⟨_, rfl⟩
  obtain ⟨w121, hw121⟩ : ∃ x, x = w114.alloc (.cells #[.bool db, .slice A115 (D1).length c116, .slice A117 (D2).length c118, .slice A119 (D3).length c120] 31) := ⟨_, rfl⟩
  have tn := heap_alloc_new w114 (.cells #[.bool db, .slice A115 (D1).length c116, .slice A117 (D2).length c118, .slice A119 (D3).length c120] 31)
  have hB := below_alloc (Below.refl w114.heap.size w114) (.cells #[.bool db, .slice A115 (D1).length c116, .slice A117 (D2).length c118, .slice A119 (D3).length c120] 31)
  rw [← hw121] at tn hB
  rw [← hg122] at tn
  have GBB_da : Aside0 (w.heap.size ≤ g122) := ⟨by rw [hg122]; exact BB.out.size⟩
  have GBO_da : Aside0 (w102.heap.size ≤ g122) := ⟨by rw [hg122]; exact BO.out.size⟩
  have GB1_da : Aside0 (w103.heap.size ≤ g122) := ⟨by rw [hg122]; exact B1.out.size⟩
  have NE_da_n : Aside0 (w.heap.size ≠ g122) := ⟨by have := blk_lt T_n.out; omega⟩
  have NE_da_in : Aside0 (g104 ≠ g122) := ⟨by have := blk_lt T_in.out; omega⟩
  have NE_da_pa : Aside0 (g113 ≠ g122) := ⟨by have := blk_lt T_pa.out; omega⟩
  replace T_n := Aside0.mk ((hB.block _ (blk_lt T_n.out)).trans T_n.out)
  replace T_in := Aside0.mk ((hB.block _ (blk_lt T_in.out)).trans T_in.out)
  replace T_pa := Aside0.mk ((hB.block _ (blk_lt T_pa.out)).trans T_pa.out)
  replace R_i1 := Aside0.mk (Kd.R_below R_i1.out hB)
  replace R_i2 := Aside0.mk (Kd.R_below R_i2.out hB)
  replace R_i3 := Aside0.mk (Kd.R_below R_i3.out hB)
  replace R_p1 := Aside0.mk (Kd.R_below R_p1.out hB)
  replace R_p2 := Aside0.mk (Kd.R_below R_p2.out hB)
  replace R_p3 := Aside0.mk (Kd.R_below R_p3.out hB)
  replace R_d1 := Aside0.mk (Kd.R_below R_d1.out hB)
  replace R_d2 := Aside0.mk (Kd.R_below R_d2.out hB)
  replace R_d3 := Aside0.mk (Kd.R_below R_d3.out hB)
  replace BB := Aside0.mk (BB.out.trans (hB.mono BB.out.size))
  replace BO := Aside0.mk (BO.out.trans (hB.mono BO.out.size))
  replace B1 := Aside0.mk (B1.out.trans (hB.mono B1.out.size))
  have T_da := Aside0.mk tn
  clear tn hB
  rw [← hw121]
  try rw [← hg122]
  clear hw121 hg122
  have c_in0 : w121.cell? ⟨g104, 0, none⟩ = some (.bool a) := blk_cell T_in.out 0
  have c_in1 : w121.cell? ⟨g104, 1, none⟩ = some (.slice (some ⟨g1, 0, none⟩) (l1).length (l1.length + 1)) := blk_cell T_in.out 1
  have c_in2 : w121.cell? ⟨g104, 2, none⟩ = some (.slice (some ⟨g2, 0, none⟩) (l2).length (l2.length + 1)) := blk_cell T_in.out 2
  have c_in3 : w121.cell? ⟨g104, 3, none⟩ = some (.slice (some ⟨g3, 0, none⟩) (l3).length (l3.length + 1)) := blk_cell T_in.out 3
  go_wp2_with fail
  have B1o := B1
  refine (node_Split.calls a (some ⟨g1, 0, none⟩) (l1.length + 1) l1 (some ⟨g2, 0, none⟩) (l2.length + 1) l2 (some ⟨g3, 0, none⟩) (l3.length + 1) l3 sb S1 S2 S3 sk tb T1 T2 T3 se _ (Kd.R_reads' R_i1.out).2.2 (Kd.R_reads' R_i1.out).2.1 (Kd.R_reads' R_i2.out).2.2 (Kd.R_reads' R_i2.out).2.1 (Kd.R_reads' R_i3.out).2.2 (Kd.R_reads' R_i3.out).2.1 SV.out).mono ?_
  rintro e w123 ⟨v1, v2, v3, u1, u2, u3, rfl, h1, h2, h3, h4, h5, h6, hB⟩
  replace T_n := Aside0.mk ((hB.block _ (blk_lt T_n.out)).trans T_n.out)
  replace T_in := Aside0.mk ((hB.block _ (blk_lt T_in.out)).trans T_in.out)
  replace T_pa := Aside0.mk ((hB.block _ (blk_lt T_pa.out)).trans T_pa.out)
  replace T_da := Aside0.mk ((hB.block _ (blk_lt T_da.out)).trans T_da.out)
  replace R_i1 := Aside0.mk (Kd.R_below R_i1.out hB)
  replace R_i2 := Aside0.mk (Kd.R_below R_i2.out hB)
  replace R_i3 := Aside0.mk (Kd.R_below R_i3.out hB)
  replace R_p1 := Aside0.mk (Kd.R_below R_p1.out hB)
  replace R_p2 := Aside0.mk (Kd.R_below R_p2.out hB)
  replace R_p3 := Aside0.mk (Kd.R_below R_p3.out hB)
  replace R_d1 := Aside0.mk (Kd.R_below R_d1.out hB)
  replace R_d2 := Aside0.mk (Kd.R_below R_d2.out hB)
  replace R_d3 := Aside0.mk (Kd.R_below R_d3.out hB)
  replace BB := Aside0.mk (BB.out.trans (hB.mono BB.out.size))
  replace BO := Aside0.mk (BO.out.trans (hB.mono BO.out.size))
  replace B1 := Aside0.mk (B1.out.trans (hB.mono B1.out.size))
  clear hB
  clear c_in0 c_in1 c_in2 c_in3
  obtain ⟨A124, c125, rfl⟩ := Kd.R_slice h1
  have R_s1 := Aside0.mk (Kd.R_lower h1 B1o.out.size)
  obtain ⟨A126, c127, rfl⟩ := Kd.R_slice h2
  have R_s2 := Aside0.mk (Kd.R_lower h2 B1o.out.size)
  obtain ⟨A128, c129, rfl⟩ := Kd.R_slice h3
  have R_s3 := Aside0.mk (Kd.R_lower h3 B1o.out.size)
  obtain ⟨A130, c131, rfl⟩ := Kd.R_slice h4
  have R_t1 := Aside0.mk (Kd.R_lower h4 B1o.out.size)
  obtain ⟨A132, c133, rfl⟩ := Kd.R_slice h5
  have R_t2 := Aside0.mk (Kd.R_lower h5 B1o.out.size)
  obtain ⟨A134, c135, rfl⟩ := Kd.R_slice h6
  have R_t3 := Aside0.mk (Kd.R_lower h6 B1o.out.size)
  clear B1o h1 h2 h3 h4 h5 h6
  go_upto_region 7 with fail
  obtain ⟨g138, hg138⟩ : ∃ n, n = w123.heap.size := ⟨_, rfl⟩
  obtain ⟨w136, hw136⟩ : ∃ x, x = w123.alloc (.cells #[.bool sb, .slice A124 (S1).length c125, .slice A126 (S2).length c127, .slice A128 (S3).length c129] 31) := ⟨_, rfl⟩
  have tn1 := heap_alloc_new w123 (.cells #[.bool sb, .slice A124 (S1).length c125, .slice A126 (S2).length c127, .slice A128 (S3).length c129] 31)
  have hB1 := below_alloc (Below.refl w123.heap.size w123) (.cells #[.bool sb, .slice A124 (S1).length c125, .slice A126 (S2).length c127, .slice A128 (S3).length c129] 31)
  have sz1 : w136.heap.size = w123.heap.size + 1 := by rw [hw136]; simp
  rw [← hw136] at tn1 hB1
  obtain ⟨w137, hw137⟩ : ∃ x, x = w136.alloc (.cells #[.bool tb, .slice A130 (T1).length c131, .slice A132 (T2).length c133, .slice A134 (T3).length c135] 31) := ⟨_, rfl⟩
  have tn2 := heap_alloc_new w136 (.cells #[.bool tb, .slice A130 (T1).length c131, .slice A132 (T2).length c133, .slice A134 (T3).length c135] 31)
  rw [sz1] at tn2
  have hB2 := below_alloc (Below.refl w136.heap.size w136) (.cells #[.bool tb, .slice A130 (T1).length c131, .slice A132 (T2).length c133, .slice A134 (T3).length c135] 31)
  rw [← hw137] at tn2 hB2
  have hB : Below w123.heap.size w123 w137 := hB1.trans (hB2.mono hB1.size)
  have tn1' := (hB2.block _ (blk_lt tn1)).trans tn1
  rw [← hw136, ← hw137, ← hg138]
  rw [← hg138] at tn1' tn2
  replace T_n := Aside0.mk ((hB.block _ (blk_lt T_n.out)).trans T_n.out)
  replace T_in := Aside0.mk ((hB.block _ (blk_lt T_in.out)).trans T_in.out)
  replace T_pa := Aside0.mk ((hB.block _ (blk_lt T_pa.out)).trans T_pa.out)
  replace T_da := Aside0.mk ((hB.block _ (blk_lt T_da.out)).trans T_da.out)
  replace R_i1 := Aside0.mk (Kd.R_below R_i1.out hB)
  replace R_i2 := Aside0.mk (Kd.R_below R_i2.out hB)
  replace R_i3 := Aside0.mk (Kd.R_below R_i3.out hB)
  replace R_p1 := Aside0.mk (Kd.R_below R_p1.out hB)
  replace R_p2 := Aside0.mk (Kd.R_below R_p2.out hB)
  replace R_p3 := Aside0.mk (Kd.R_below R_p3.out hB)
  replace R_d1 := Aside0.mk (Kd.R_below R_d1.out hB)
  replace R_d2 := Aside0.mk (Kd.R_below R_d2.out hB)
  replace R_d3 := Aside0.mk (Kd.R_below R_d3.out hB)
  replace R_s1 := Aside0.mk (Kd.R_below R_s1.out hB)
  replace R_s2 := Aside0.mk (Kd.R_below R_s2.out hB)
  replace R_s3 := Aside0.mk (Kd.R_below R_s3.out hB)
  replace R_t1 := Aside0.mk (Kd.R_below R_t1.out hB)
  replace R_t2 := Aside0.mk (Kd.R_below R_t2.out hB)
  replace R_t3 := Aside0.mk (Kd.R_below R_t3.out hB)
  replace BB := Aside0.mk (BB.out.trans (hB.mono BB.out.size))
  replace BO := Aside0.mk (BO.out.trans (hB.mono BO.out.size))
  replace B1 := Aside0.mk (B1.out.trans (hB.mono B1.out.size))
  have T_sa := Aside0.mk tn1'
  have T_ta := Aside0.mk tn2
  clear tn1 tn1' tn2 hB1 hB2 hB sz1 hw136 hw137 hg138
  have c_in0 : w137.cell? ⟨g104, 0, none⟩ = some (.bool a) := blk_cell T_in.out 0
  have c_in1 : w137.cell? ⟨g104, 1, none⟩ = some (.slice (some ⟨g1, 0, none⟩) (l1).length (l1.length + 1)) := blk_cell T_in.out 1
  have c_in2 : w137.cell? ⟨g104, 2, none⟩ = some (.slice (some ⟨g2, 0, none⟩) (l2).length (l2.length + 1)) := blk_cell T_in.out 2
  have c_in3 : w137.cell? ⟨g104, 3, none⟩ = some (.slice (some ⟨g3, 0, none⟩) (l3).length (l3.length + 1)) := blk_cell T_in.out 3
  go_wp2_with fail
  have B1o := B1
  refine (node_Merge.calls a (some ⟨g1, 0, none⟩) (l1.length + 1) l1 (some ⟨g2, 0, none⟩) (l2.length + 1) l2 (some ⟨g3, 0, none⟩) (l3.length + 1) l3 key a (some ⟨g1, 0, none⟩) (l1.length + 1) l1 (some ⟨g2, 0, none⟩) (l2.length + 1) l2 (some ⟨g3, 0, none⟩) (l3.length + 1) l3 mb M1 M2 M3 me _ (Kd.R_reads' R_i1.out).2.2 (Kd.R_reads' R_i1.out).2.1 (Kd.R_reads' R_i2.out).2.2 (Kd.R_reads' R_i2.out).2.1 (Kd.R_reads' R_i3.out).2.2 (Kd.R_reads' R_i3.out).2.1 (Kd.R_reads' R_i1.out).2.2 (Kd.R_reads' R_i1.out).2.1 (Kd.R_reads' R_i2.out).2.2 (Kd.R_reads' R_i2.out).2.1 (Kd.R_reads' R_i3.out).2.2 (Kd.R_reads' R_i3.out).2.1 MV.out).mono ?_
  rintro e w139 ⟨v1, v2, v3, rfl, h1, h2, h3, hB⟩
  replace T_n := Aside0.mk ((hB.block _ (blk_lt T_n.out)).trans T_n.out)
  replace T_in := Aside0.mk ((hB.block _ (blk_lt T_in.out)).trans T_in.out)
  replace T_pa := Aside0.mk ((hB.block _ (blk_lt T_pa.out)).trans T_pa.out)
  replace T_da := Aside0.mk ((hB.block _ (blk_lt T_da.out)).trans T_da.out)
  replace T_sa := Aside0.mk ((hB.block _ (blk_lt T_sa.out)).trans T_sa.out)
  replace T_ta := Aside0.mk ((hB.block _ (blk_lt T_ta.out)).trans T_ta.out)
  replace R_i1 := Aside0.mk (Kd.R_below R_i1.out hB)
  replace R_i2 := Aside0.mk (Kd.R_below R_i2.out hB)
  replace R_i3 := Aside0.mk (Kd.R_below R_i3.out hB)
  replace R_p1 := Aside0.mk (Kd.R_below R_p1.out hB)
  replace R_p2 := Aside0.mk (Kd.R_below R_p2.out hB)
  replace R_p3 := Aside0.mk (Kd.R_below R_p3.out hB)
  replace R_d1 := Aside0.mk (Kd.R_below R_d1.out hB)
  replace R_d2 := Aside0.mk (Kd.R_below R_d2.out hB)
  replace R_d3 := Aside0.mk (Kd.R_below R_d3.out hB)
  replace R_s1 := Aside0.mk (Kd.R_below R_s1.out hB)
  replace R_s2 := Aside0.mk (Kd.R_below R_s2.out hB)
  replace R_s3 := Aside0.mk (Kd.R_below R_s3.out hB)
  replace R_t1 := Aside0.mk (Kd.R_below R_t1.out hB)
  replace R_t2 := Aside0.mk (Kd.R_below R_t2.out hB)
  replace R_t3 := Aside0.mk (Kd.R_below R_t3.out hB)
  replace BB := Aside0.mk (BB.out.trans (hB.mono BB.out.size))
  replace BO := Aside0.mk (BO.out.trans (hB.mono BO.out.size))
  replace B1 := Aside0.mk (B1.out.trans (hB.mono B1.out.size))
  clear hB
  clear c_in0 c_in1 c_in2 c_in3
  obtain ⟨A140, c141, rfl⟩ := Kd.R_slice h1
  have R_m1 := Aside0.mk (Kd.R_lower h1 B1o.out.size)
  obtain ⟨A142, c143, rfl⟩ := Kd.R_slice h2
  have R_m2 := Aside0.mk (Kd.R_lower h2 B1o.out.size)
  obtain ⟨A144, c145, rfl⟩ := Kd.R_slice h3
  have R_m3 := Aside0.mk (Kd.R_lower h3 B1o.out.size)
  clear B1o h1 h2 h3
  go_upto_region 8 with fail
  obtain ⟨g147, hg147⟩ : ∃ n, n = w139.heap.size := ⟨_, rfl⟩
  obtain ⟨w146, hw146⟩ : ∃ x, x = w139.alloc (.cells #[.bool mb, .slice A140 (M1).length c141, .slice A142 (M2).length c143, .slice A144 (M3).length c145] 31) := ⟨_, rfl⟩
  have tn := heap_alloc_new w139 (.cells #[.bool mb, .slice A140 (M1).length c141, .slice A142 (M2).length c143, .slice A144 (M3).length c145] 31)
  have hB := below_alloc (Below.refl w139.heap.size w139) (.cells #[.bool mb, .slice A140 (M1).length c141, .slice A142 (M2).length c143, .slice A144 (M3).length c145] 31)
  rw [← hw146] at tn hB
  rw [← hg147] at tn
  have GBB_ma : Aside0 (w.heap.size ≤ g147) := ⟨by rw [hg147]; exact BB.out.size⟩
  have GBO_ma : Aside0 (w102.heap.size ≤ g147) := ⟨by rw [hg147]; exact BO.out.size⟩
  have GB1_ma : Aside0 (w103.heap.size ≤ g147) := ⟨by rw [hg147]; exact B1.out.size⟩
  have NE_ma_n : Aside0 (w.heap.size ≠ g147) := ⟨by have := blk_lt T_n.out; omega⟩
  have NE_ma_in : Aside0 (g104 ≠ g147) := ⟨by have := blk_lt T_in.out; omega⟩
  have NE_ma_pa : Aside0 (g113 ≠ g147) := ⟨by have := blk_lt T_pa.out; omega⟩
  have NE_ma_da : Aside0 (g122 ≠ g147) := ⟨by have := blk_lt T_da.out; omega⟩
  have NE_ma_sa : Aside0 (g138 ≠ g147) := ⟨by have := blk_lt T_sa.out; omega⟩
  have NE_ma_ta : Aside0 ((g138 + 1) ≠ g147) := ⟨by have := blk_lt T_ta.out; omega⟩
  replace T_n := Aside0.mk ((hB.block _ (blk_lt T_n.out)).trans T_n.out)
  replace T_in := Aside0.mk ((hB.block _ (blk_lt T_in.out)).trans T_in.out)
  replace T_pa := Aside0.mk ((hB.block _ (blk_lt T_pa.out)).trans T_pa.out)
  replace T_da := Aside0.mk ((hB.block _ (blk_lt T_da.out)).trans T_da.out)
  replace T_sa := Aside0.mk ((hB.block _ (blk_lt T_sa.out)).trans T_sa.out)
  replace T_ta := Aside0.mk ((hB.block _ (blk_lt T_ta.out)).trans T_ta.out)
  replace R_i1 := Aside0.mk (Kd.R_below R_i1.out hB)
  replace R_i2 := Aside0.mk (Kd.R_below R_i2.out hB)
  replace R_i3 := Aside0.mk (Kd.R_below R_i3.out hB)
  replace R_p1 := Aside0.mk (Kd.R_below R_p1.out hB)
  replace R_p2 := Aside0.mk (Kd.R_below R_p2.out hB)
  replace R_p3 := Aside0.mk (Kd.R_below R_p3.out hB)
  replace R_d1 := Aside0.mk (Kd.R_below R_d1.out hB)
  replace R_d2 := Aside0.mk (Kd.R_below R_d2.out hB)
  replace R_d3 := Aside0.mk (Kd.R_below R_d3.out hB)
  replace R_s1 := Aside0.mk (Kd.R_below R_s1.out hB)
  replace R_s2 := Aside0.mk (Kd.R_below R_s2.out hB)
  replace R_s3 := Aside0.mk (Kd.R_below R_s3.out hB)
  replace R_t1 := Aside0.mk (Kd.R_below R_t1.out hB)
  replace R_t2 := Aside0.mk (Kd.R_below R_t2.out hB)
  replace R_t3 := Aside0.mk (Kd.R_below R_t3.out hB)
  replace R_m1 := Aside0.mk (Kd.R_below R_m1.out hB)
  replace R_m2 := Aside0.mk (Kd.R_below R_m2.out hB)
  replace R_m3 := Aside0.mk (Kd.R_below R_m3.out hB)
  replace BB := Aside0.mk (BB.out.trans (hB.mono BB.out.size))
  replace BO := Aside0.mk (BO.out.trans (hB.mono BO.out.size))
  replace B1 := Aside0.mk (B1.out.trans (hB.mono B1.out.size))
  have T_ma := Aside0.mk tn
  clear tn hB
  rw [← hw146]
  try rw [← hg147]
  clear hw146 hg147
  have c_pa0 : w146.cell? ⟨g113, 0, none⟩ = some (.bool pb) := blk_cell T_pa.out 0
  have c_pa1 : w146.cell? ⟨g113, 1, none⟩ = some (.slice A106 (P1).length c107) := blk_cell T_pa.out 1
  have c_pa2 : w146.cell? ⟨g113, 2, none⟩ = some (.slice A108 (P2).length c109) := blk_cell T_pa.out 2
  have c_pa3 : w146.cell? ⟨g113, 3, none⟩ = some (.slice A110 (P3).length c111) := blk_cell T_pa.out 3
  have c_da0 : w146.cell? ⟨g122, 0, none⟩ = some (.bool db) := blk_cell T_da.out 0
  have c_da1 : w146.cell? ⟨g122, 1, none⟩ = some (.slice A115 (D1).length c116) := blk_cell T_da.out 1
  have c_da2 : w146.cell? ⟨g122, 2, none⟩ = some (.slice A117 (D2).length c118) := blk_cell T_da.out 2
  have c_da3 : w146.cell? ⟨g122, 3, none⟩ = some (.slice A119 (D3).length c120) := blk_cell T_da.out 3
  have c_sa0 : w146.cell? ⟨g138, 0, none⟩ = some (.bool sb) := blk_cell T_sa.out 0
  have c_sa1 : w146.cell? ⟨g138, 1, none⟩ = some (.slice A124 (S1).length c125) := blk_cell T_sa.out 1
  have c_sa2 : w146.cell? ⟨g138, 2, none⟩ = some (.slice A126 (S2).length c127) := blk_cell T_sa.out 2
  have c_sa3 : w146.cell? ⟨g138, 3, none⟩ = some (.slice A128 (S3).length c129) := blk_cell T_sa.out 3
  have c_ta0 : w146.cell? ⟨(g138 + 1), 0, none⟩ = some (.bool tb) := blk_cell T_ta.out 0
  have c_ta1 : w146.cell? ⟨(g138 + 1), 1, none⟩ = some (.slice A130 (T1).length c131) := blk_cell T_ta.out 1
  have c_ta2 : w146.cell? ⟨(g138 + 1), 2, none⟩ = some (.slice A132 (T2).length c133) := blk_cell T_ta.out 2
  have c_ta3 : w146.cell? ⟨(g138 + 1), 3, none⟩ = some (.slice A134 (T3).length c135) := blk_cell T_ta.out 3
  have c_ma0 : w146.cell? ⟨g147, 0, none⟩ = some (.bool mb) := blk_cell T_ma.out 0
  have c_ma1 : w146.cell? ⟨g147, 1, none⟩ = some (.slice A140 (M1).length c141) := blk_cell T_ma.out 1
  have c_ma2 : w146.cell? ⟨g147, 2, none⟩ = some (.slice A142 (M2).length c143) := blk_cell T_ma.out 2
  have c_ma3 : w146.cell? ⟨g147, 3, none⟩ = some (.slice A144 (M3).length c145) := blk_cell T_ma.out 3
  go_upto_region 9 with fail
  clear c_pa0 c_pa1 c_pa2 c_pa3 c_da0 c_da1 c_da2 c_da3 c_sa0 c_sa1 c_sa2 c_sa3 c_ta0 c_ta1 c_ta2 c_ta3 c_ma0 c_ma1 c_ma2 c_ma3
  obtain ⟨g149, hg149⟩ : ∃ n, n = w146.heap.size := ⟨_, rfl⟩
  obtain ⟨w148, hw148⟩ : ∃ x, x = w146.alloc (.cells #[.bool pb, .slice A106 (P1).length c107, .slice A108 (P2).length c109, .slice A110 (P3).length c111, .bool db, .slice A115 (D1).length c116, .slice A117 (D2).length c118, .slice A119 (D3).length c120, .bool sb, .slice A124 (S1).length c125, .slice A126 (S2).length c127, .slice A128 (S3).length c129, .bool tb, .slice A130 (T1).length c131, .slice A132 (T2).length c133, .slice A134 (T3).length c135, .bool mb, .slice A140 (M1).length c141, .slice A142 (M2).length c143, .slice A144 (M3).length c145] 31) := ⟨_, rfl⟩
  have tn := heap_alloc_new w146 (.cells #[.bool pb, .slice A106 (P1).length c107, .slice A108 (P2).length c109, .slice A110 (P3).length c111, .bool db, .slice A115 (D1).length c116, .slice A117 (D2).length c118, .slice A119 (D3).length c120, .bool sb, .slice A124 (S1).length c125, .slice A126 (S2).length c127, .slice A128 (S3).length c129, .bool tb, .slice A130 (T1).length c131, .slice A132 (T2).length c133, .slice A134 (T3).length c135, .bool mb, .slice A140 (M1).length c141, .slice A142 (M2).length c143, .slice A144 (M3).length c145] 31)
  have hB := below_alloc (Below.refl w146.heap.size w146) (.cells #[.bool pb, .slice A106 (P1).length c107, .slice A108 (P2).length c109, .slice A110 (P3).length c111, .bool db, .slice A115 (D1).length c116, .slice A117 (D2).length c118, .slice A119 (D3).length c120, .bool sb, .slice A124 (S1).length c125, .slice A126 (S2).length c127, .slice A128 (S3).length c129, .bool tb, .slice A130 (T1).length c131, .slice A132 (T2).length c133, .slice A134 (T3).length c135, .bool mb, .slice A140 (M1).length c141, .slice A142 (M2).length c143, .slice A144 (M3).length c145] 31)
  rw [← hw148] at tn hB
  rw [← hg149] at tn
  have GBB_l : Aside0 (w.heap.size ≤ g149) := ⟨by rw [hg149]; exact BB.out.size⟩
  have GBO_l : Aside0 (w102.heap.size ≤ g149) := ⟨by rw [hg149]; exact BO.out.size⟩
  have GB1_l : Aside0 (w103.heap.size ≤ g149) := ⟨by rw [hg149]; exact B1.out.size⟩
  have NE_l_n : Aside0 (w.heap.size ≠ g149) := ⟨by have := blk_lt T_n.out; omega⟩
  have NE_l_in : Aside0 (g104 ≠ g149) := ⟨by have := blk_lt T_in.out; omega⟩
  have NE_l_pa : Aside0 (g113 ≠ g149) := ⟨by have := blk_lt T_pa.out; omega⟩
  have NE_l_da : Aside0 (g122 ≠ g149) := ⟨by have := blk_lt T_da.out; omega⟩
  have NE_l_sa : Aside0 (g138 ≠ g149) := ⟨by have := blk_lt T_sa.out; omega⟩
  have NE_l_ta : Aside0 ((g138 + 1) ≠ g149) := ⟨by have := blk_lt T_ta.out; omega⟩
  have NE_l_ma : Aside0 (g147 ≠ g149) := ⟨by have := blk_lt T_ma.out; omega⟩
  replace T_n := Aside0.mk ((hB.block _ (blk_lt T_n.out)).trans T_n.out)
  replace T_in := Aside0.mk ((hB.block _ (blk_lt T_in.out)).trans T_in.out)
  replace T_pa := Aside0.mk ((hB.block _ (blk_lt T_pa.out)).trans T_pa.out)
  replace T_da := Aside0.mk ((hB.block _ (blk_lt T_da.out)).trans T_da.out)
  replace T_sa := Aside0.mk ((hB.block _ (blk_lt T_sa.out)).trans T_sa.out)
  replace T_ta := Aside0.mk ((hB.block _ (blk_lt T_ta.out)).trans T_ta.out)
  replace T_ma := Aside0.mk ((hB.block _ (blk_lt T_ma.out)).trans T_ma.out)
  replace R_i1 := Aside0.mk (Kd.R_below R_i1.out hB)
  replace R_i2 := Aside0.mk (Kd.R_below R_i2.out hB)
  replace R_i3 := Aside0.mk (Kd.R_below R_i3.out hB)
  replace R_p1 := Aside0.mk (Kd.R_below R_p1.out hB)
  replace R_p2 := Aside0.mk (Kd.R_below R_p2.out hB)
  replace R_p3 := Aside0.mk (Kd.R_below R_p3.out hB)
  replace R_d1 := Aside0.mk (Kd.R_below R_d1.out hB)
  replace R_d2 := Aside0.mk (Kd.R_below R_d2.out hB)
  replace R_d3 := Aside0.mk (Kd.R_below R_d3.out hB)
  replace R_s1 := Aside0.mk (Kd.R_below R_s1.out hB)
  replace R_s2 := Aside0.mk (Kd.R_below R_s2.out hB)
  replace R_s3 := Aside0.mk (Kd.R_below R_s3.out hB)
  replace R_t1 := Aside0.mk (Kd.R_below R_t1.out hB)
  replace R_t2 := Aside0.mk (Kd.R_below R_t2.out hB)
  replace R_t3 := Aside0.mk (Kd.R_below R_t3.out hB)
  replace R_m1 := Aside0.mk (Kd.R_below R_m1.out hB)
  replace R_m2 := Aside0.mk (Kd.R_below R_m2.out hB)
  replace R_m3 := Aside0.mk (Kd.R_below R_m3.out hB)
  replace BB := Aside0.mk (BB.out.trans (hB.mono BB.out.size))
  replace BO := Aside0.mk (BO.out.trans (hB.mono BO.out.size))
  replace B1 := Aside0.mk (B1.out.trans (hB.mono B1.out.size))
  have T_l := Aside0.mk tn
  clear tn hB
  rw [← hw148]
  try rw [← hg149]
  clear hw148 hg149
  have LX : ∃ AP AK AD nP nK nD cP cK cD, LAt AP AK AD nP nK nD cP cK cD w103.heap.size g149 w148 := ⟨(sel A106 A115 A124 A130 A140), (sel A108 A117 A126 A132 A142), (sel A110 A119 A128 A134 A144), (sel P1.length D1.length S1.length T1.length M1.length), (sel P2.length D2.length S2.length T2.length M2.length), (sel P3.length D3.length S3.length T3.length M3.length), (sel c107 c116 c125 c131 c141), (sel c109 c118 c127 c133 c143), (sel c111 c120 c129 c135 c145), ⟨⟨_, T_l.out, (fun i hi => match i, hi with | 0, _ => ⟨rfl, rfl, rfl⟩ | 1, _ => ⟨rfl, rfl, rfl⟩ | 2, _ => ⟨rfl, rfl, rfl⟩ | 3, _ => ⟨rfl, rfl, rfl⟩ | 4, _ => ⟨rfl, rfl, rfl⟩)⟩, (fun i hi => match i, hi with | 0, _ => ⟨OwnC.of_R R_p1.out rfl, OwnC.of_R R_p2.out rfl, OwnC.of_R R_p3.out rfl⟩ | 1, _ => ⟨OwnC.of_R R_d1.out rfl, OwnC.of_R R_d2.out rfl, OwnC.of_R R_d3.out rfl⟩ | 2, _ => ⟨OwnC.of_R R_s1.out rfl, OwnC.of_R R_s2.out rfl, OwnC.of_R R_s3.out rfl⟩ | 3, _ => ⟨OwnC.of_R R_t1.out rfl, OwnC.of_R R_t2.out rfl, OwnC.of_R R_t3.out rfl⟩ | 4, _ => ⟨OwnC.of_R R_m1.out rfl, OwnC.of_R R_m2.out rfl, OwnC.of_R R_m3.out rfl⟩), (fun i hi => match i, hi with | 0, _ => ⟨(Kd.R_reads' R_p1.out).2.2.2.1, (Kd.R_reads' R_p2.out).2.2.2.1, (Kd.R_reads' R_p3.out).2.2.2.1⟩ | 1, _ => ⟨(Kd.R_reads' R_d1.out).2.2.2.1, (Kd.R_reads' R_d2.out).2.2.2.1, (Kd.R_reads' R_d3.out).2.2.2.1⟩ | 2, _ => ⟨(Kd.R_reads' R_s1.out).2.2.2.1, (Kd.R_reads' R_s2.out).2.2.2.1, (Kd.R_reads' R_s3.out).2.2.2.1⟩ | 3, _ => ⟨(Kd.R_reads' R_t1.out).2.2.2.1, (Kd.R_reads' R_t2.out).2.2.2.1, (Kd.R_reads' R_t3.out).2.2.2.1⟩ | 4, _ => ⟨(Kd.R_reads' R_m1.out).2.2.2.1, (Kd.R_reads' R_m2.out).2.2.2.1, (Kd.R_reads' R_m3.out).2.2.2.1⟩)⟩⟩
  obtain ⟨AP, AK, AD, nP, nK, nD, cP, cK, cD, hLA⟩ := LX
  have LA0 := Aside0.mk hLA
  clear hLA
  clear T_n T_in T_pa T_da T_sa T_ta T_ma T_l R_i1 R_i2 R_i3 R_p1 R_p2 R_p3 R_d1 R_d2 R_d3 R_s1 R_s2 R_s3 R_t1 R_t2 R_t3 R_m1 R_m2 R_m3
  go_wp2_with fail
  go_loopw [19, 20, 21, 22] (fun v19 v20 v21 v22 W => ∃ i : Nat, i ≤ 5 ∧ v19 = .int .i64 (i : Int) ∧ Aside0 (LAt AP AK AD nP nK nD cP cK cD w103.heap.size g149 W) ∧ Aside0 (Below w103.heap.size w103 W)) (fun v19 _ _ _ _ => (5 - intOf v19).toNat)
  case atStart => exact ⟨0, by omega, rfl, LA0, B1⟩
  case round =>
    clear LA0 B1 BB BO
    obtain ⟨i, hi, rfl, LA, BL⟩ := hrel
    by_cases h : i < 5
    · have d1 : decide (i < 5) = true := decide_eq_true h
      have d1i : decide ((i : Int) < 5) = true := decide_eq_true (by omega)
      have hw19 : IntKind.i64.wrap ((i : Int) + 1) = (i : Int) + 1 := by rw [IntKind.wrap_i64]; omega
      have LN := Aside0.mk (LA.out.len i h)
      go_wp2_with fail
      go_loopw [20] (fun v W => ∃ k : Nat, k ≤ nP i ∧ v = .int .i64 (k : Int) ∧ Aside0 (LAt AP AK AD nP nK nD cP cK cD w103.heap.size g149 W) ∧ Aside0 (Below w103.heap.size w103 W)) (fun v _ => (nP i - intOf v).toNat)
      case atStart => exact ⟨0, Nat.zero_le _, rfl, LA, BL⟩
      case round =>
        clear LA BL
        obtain ⟨k, hk, rfl, LA, BL⟩ := hrel
        have c1 := LA.out.c1 i h
        by_cases h2 : k < nP i
        · obtain ⟨g, hA, ⟨u0, k1⟩, ⟨u1, k2⟩, k3, k4, NX, NB⟩ := LA.out.at1 i h k h2
          rw [hA] at c1
          have e1 : decide ((k : Int) < (nP i : Int)) = true := decide_eq_true (by omega)
          have e2 : decide (k < nP i) = true := decide_eq_true h2
          have hw20 : IntKind.i64.wrap ((k : Int) + 1) = (k : Int) + 1 := by have := LN.out.1; rw [IntKind.wrap_i64]; omega
          have HK := Aside0.mk h2
          clear hA hk
          go_wp2_with fail
          go_roundw
          case rel => exact ⟨k + 1, HK.out, rfl, ⟨NX.out _ _⟩, ⟨NB.out _ _ _ BL.out⟩⟩
          case measure => simp [intOf]; omega
        · have hk2 : k = nP i := by omega
          subst hk2
          have e1 : decide ((nP i : Int) < (nP i : Int)) = false := decide_eq_false (by omega)
          clear h2 hk
          go_wp2_with fail
          clear c1 e1
          go_loopw [21] (fun v W => ∃ k : Nat, k ≤ nK i ∧ v = .int .i64 (k : Int) ∧ Aside0 (LAt AP AK AD nP nK nD cP cK cD w103.heap.size g149 W) ∧ Aside0 (Below w103.heap.size w103 W)) (fun v _ => (nK i - intOf v).toNat)
          case atStart => exact ⟨0, Nat.zero_le _, rfl, LA, BL⟩
          case round =>
            clear LA BL
            obtain ⟨k, hk, rfl, LA, BL⟩ := hrel
            have c1 := LA.out.c2 i h
            by_cases h2 : k < nK i
            · obtain ⟨g, hA, ⟨u0, k1⟩, k3, NX, NB⟩ := LA.out.at2 i h k h2
              rw [hA] at c1
              have e1 : decide ((k : Int) < (nK i : Int)) = true := decide_eq_true (by omega)
              have e2 : decide (k < nK i) = true := decide_eq_true h2
              have hw20 : IntKind.i64.wrap ((k : Int) + 1) = (k : Int) + 1 := by have := LN.out.2.1; rw [IntKind.wrap_i64]; omega
              have HK := Aside0.mk h2
              clear hA hk
              go_wp2_with fail
              go_roundw
              case rel => exact ⟨k + 1, HK.out, rfl, ⟨NX.out _⟩, ⟨NB.out _ _ BL.out⟩⟩
              case measure => simp [intOf]; omega
            · have hk2 : k = nK i := by omega
              subst hk2
              have e1 : decide ((nK i : Int) < (nK i : Int)) = false := decide_eq_false (by omega)
              clear h2 hk
              go_wp2_with fail
              clear c1 e1
              go_loopw [22] (fun v W => ∃ k : Nat, k ≤ nD i ∧ v = .int .i64 (k : Int) ∧ Aside0 (LAt AP AK AD nP nK nD cP cK cD w103.heap.size g149 W) ∧ Aside0 (Below w103.heap.size w103 W)) (fun v _ => (nD i - intOf v).toNat)
              case atStart => exact ⟨0, Nat.zero_le _, rfl, LA, BL⟩
              case round =>
                clear LA BL
                obtain ⟨k, hk, rfl, LA, BL⟩ := hrel
                have c1 := LA.out.c3 i h
                by_cases h2 : k < nD i
                · obtain ⟨g, hA, ⟨u0, k1⟩, k3, NX, NB⟩ := LA.out.at3 i h k h2
                  rw [hA] at c1
                  have e1 : decide ((k : Int) < (nD i : Int)) = true := decide_eq_true (by omega)
                  have e2 : decide (k < nD i) = true := decide_eq_true h2
                  have hw20 : IntKind.i64.wrap ((k : Int) + 1) = (k : Int) + 1 := by have := LN.out.2.2; rw [IntKind.wrap_i64]; omega
                  have HK := Aside0.mk h2
                  clear hA hk
                  go_wp2_with fail
                  go_roundw
                  case rel => exact ⟨k + 1, HK.out, rfl, ⟨NX.out _⟩, ⟨NB.out _ _ BL.out⟩⟩
                  case measure => simp [intOf]; omega
                · have hk2 : k = nD i := by omega
                  subst hk2
                  have e1 : decide ((nD i : Int) < (nD i : Int)) = false := decide_eq_false (by omega)
                  clear h2 hk
                  go_wp2_with fail
                  clear c1 e1
                  go_roundw
                  case rel => exact ⟨i + 1, h, rfl, LA, BL⟩
                  case measure => simp [intOf]; omega
    · have hi5 : i = 5 := by omega
      subst hi5
      have T_n := Aside0.mk ((BL.out.block _ (blk_lt T1_n.out)).trans T1_n.out)
      have T_in := Aside0.mk ((BL.out.block _ (blk_lt T1_in.out)).trans T1_in.out)
      have R_i1 := Aside0.mk (Kd.R_below R1_1.out BL.out)
      have R_i2 := Aside0.mk (Kd.R_below R1_2.out BL.out)
      have R_i3 := Aside0.mk (Kd.R_below R1_3.out BL.out)
      have BB := Aside0.mk (BB1.out.trans (BL.out.mono BB1.out.size))
      have BO := Aside0.mk (BO1.out.trans (BL.out.mono BO1.out.size))
      clear T1_n T1_in R1_1 R1_2 R1_3 BB1 BO1 BL LA hi h
      go_upto_region 24 with fail
      have c_n0 : wr.cell? ⟨w.heap.size, 0, none⟩ = some (.bool a) := blk_cell T_n.out 0
      have c_n1 : wr.cell? ⟨w.heap.size, 1, none⟩ = some (.slice A1 l1.length c1) := blk_cell T_n.out 1
      have c_n2 : wr.cell? ⟨w.heap.size, 2, none⟩ = some (.slice A2 l2.length c2) := blk_cell T_n.out 2
      have c_n3 : wr.cell? ⟨w.heap.size, 3, none⟩ = some (.slice A3 l3.length c3) := blk_cell T_n.out 3
      have c_in0 : wr.cell? ⟨g104, 0, none⟩ = some (.bool a) := blk_cell T_in.out 0
      have c_in1 : wr.cell? ⟨g104, 1, none⟩ = some (.slice (some ⟨g1, 0, none⟩) (l1).length (l1.length + 1)) := blk_cell T_in.out 1
      have c_in2 : wr.cell? ⟨g104, 2, none⟩ = some (.slice (some ⟨g2, 0, none⟩) (l2).length (l2.length + 1)) := blk_cell T_in.out 2
      have c_in3 : wr.cell? ⟨g104, 3, none⟩ = some (.slice (some ⟨g3, 0, none⟩) (l3).length (l3.length + 1)) := blk_cell T_in.out 3
      have MK : Aside0 (∀ W, Below wr.heap.size wr W → Below wr.heap.size wr W ∧ W.cell? ⟨w.heap.size, 0, none⟩ = some (.bool a) ∧ W.cell? ⟨w.heap.size, 1, none⟩ = some (.slice A1 l1.length c1) ∧ W.cell? ⟨w.heap.size, 2, none⟩ = some (.slice A2 l2.length c2) ∧ W.cell? ⟨w.heap.size, 3, none⟩ = some (.slice A3 l3.length c3) ∧ W.cell? ⟨g104, 0, none⟩ = some (.bool a) ∧ W.cell? ⟨g104, 1, none⟩ = some (.slice (some ⟨g1, 0, none⟩) (l1).length (l1.length + 1)) ∧ W.cell? ⟨g104, 2, none⟩ = some (.slice (some ⟨g2, 0, none⟩) (l2).length (l2.length + 1)) ∧ W.cell? ⟨g104, 3, none⟩ = some (.slice (some ⟨g3, 0, none⟩) (l3).length (l3.length + 1))) := ⟨fun W hb => ⟨hb, nd_cell hb c_n0, nd_cell hb c_n1, nd_cell hb c_n2, nd_cell hb c_n3, nd_cell hb c_in0, nd_cell hb c_in1, nd_cell hb c_in2, nd_cell hb c_in3⟩⟩
      clear c_n0 c_n1 c_n2 c_n3 c_in0 c_in1 c_in2 c_in3
      have SB := Aside0.mk (Below.refl wr.heap.size wr)
      refine wp_region_held_drew (S := fun W => Below wr.heap.size wr W ∧ W.cell? ⟨w.heap.size, 0, none⟩ = some (.bool a) ∧ W.cell? ⟨w.heap.size, 1, none⟩ = some (.slice A1 l1.length c1) ∧ W.cell? ⟨w.heap.size, 2, none⟩ = some (.slice A2 l2.length c2) ∧ W.cell? ⟨w.heap.size, 3, none⟩ = some (.slice A3 l3.length c3) ∧ W.cell? ⟨g104, 0, none⟩ = some (.bool a) ∧ W.cell? ⟨g104, 1, none⟩ = some (.slice (some ⟨g1, 0, none⟩) (l1).length (l1.length + 1)) ∧ W.cell? ⟨g104, 2, none⟩ = some (.slice (some ⟨g2, 0, none⟩) (l2).length (l2.length + 1)) ∧ W.cell? ⟨g104, 3, none⟩ = some (.slice (some ⟨g3, 0, none⟩) (l3).length (l3.length + 1))) (by kernel_rfl) ?_ (fun hHeld => ?_)
      · try dsimp only
        exact MK.out _ (Below.drew (Below.refl _ _))
      have hB : Below wr.heap.size wr wr.drew := below_drew1 (Below.refl _ _)
      clear hHeld
      obtain ⟨w150, hw150⟩ : ∃ x, x = wr.drew := ⟨_, rfl⟩
      rw [← hw150] at hB ⊢
      clear hw150
      replace T_n := Aside0.mk ((hB.block _ (blk_lt T_n.out)).trans T_n.out)
      replace T_in := Aside0.mk ((hB.block _ (blk_lt T_in.out)).trans T_in.out)
      replace R_i1 := Aside0.mk (Kd.R_below R_i1.out hB)
      replace R_i2 := Aside0.mk (Kd.R_below R_i2.out hB)
      replace R_i3 := Aside0.mk (Kd.R_below R_i3.out hB)
      replace BB := Aside0.mk (BB.out.trans (hB.mono BB.out.size))
      replace BO := Aside0.mk (BO.out.trans (hB.mono BO.out.size))
      replace SB := Aside0.mk (SB.out.trans (hB.mono SB.out.size))
      clear hB
      have hHeld := MK.out _ SB.out
      refine nd_take 0 hHeld ?_
      refine nd_take 2 hHeld ?_
      refine wpAnyH_ready (rs := [1]) (by kernel_rfl) (by simp) ?_
      refine (AllReadyH.cons rfl (fun K hK => ?_) AllReadyH.nil)
      go_simp
      refine (backW a (some ⟨g1, 0, none⟩) _ (l1.length + 1) (some ⟨g2, 0, none⟩) _ (l2.length + 1) (some ⟨g3, 0, none⟩) _ (l3.length + 1) _).mono ?_
      rintro e w151 ⟨rfl, hB⟩
      replace T_n := Aside0.mk ((hB.block _ (blk_lt T_n.out)).trans T_n.out)
      replace T_in := Aside0.mk ((hB.block _ (blk_lt T_in.out)).trans T_in.out)
      replace R_i1 := Aside0.mk (Kd.R_below R_i1.out hB)
      replace R_i2 := Aside0.mk (Kd.R_below R_i2.out hB)
      replace R_i3 := Aside0.mk (Kd.R_below R_i3.out hB)
      replace BB := Aside0.mk (BB.out.trans (hB.mono BB.out.size))
      replace BO := Aside0.mk (BO.out.trans (hB.mono BO.out.size))
      replace SB := Aside0.mk (SB.out.trans (hB.mono SB.out.size))
      clear hB
      go_simp
      refine hK.out _ _ ?_ (fun hNew => ?_)
      · try dsimp only
        exact MK.out _ SB.out
      clear hK K hHeld hNew
      have hHeld := MK.out _ SB.out
      refine wpAnyH_ready (rs := [3]) (by kernel_rfl) (by simp) ?_
      refine (AllReadyH.cons rfl (fun K hK => ?_) AllReadyH.nil)
      go_simp
      refine (cisternref11_Same.calls KK a (some ⟨g1, 0, none⟩) (l1.length + 1) l1 (some ⟨g2, 0, none⟩) (l2.length + 1) l2 (some ⟨g3, 0, none⟩) (l3.length + 1) l3 a A1 c1 l1 A2 c2 l2 A3 c3 l3 true _ (Kd.R_reads' R_i1.out).2.2 (Kd.R_reads' R_i1.out).2.1 (Kd.R_reads' R_i2.out).2.2 (Kd.R_reads' R_i2.out).2.1 (Kd.R_reads' R_i3.out).2.2 (Kd.R_reads' R_i3.out).2.1 (Kd.C_below HR1.out BB.out) hc1 (Kd.C_below HR2.out BB.out) hc2 (Kd.C_below HR3.out BB.out) hc3 SS.out).mono ?_
      rintro e w152 ⟨rfl, hB⟩
      replace T_n := Aside0.mk ((hB.block _ (blk_lt T_n.out)).trans T_n.out)
      replace T_in := Aside0.mk ((hB.block _ (blk_lt T_in.out)).trans T_in.out)
      replace R_i1 := Aside0.mk (Kd.R_below R_i1.out hB)
      replace R_i2 := Aside0.mk (Kd.R_below R_i2.out hB)
      replace R_i3 := Aside0.mk (Kd.R_below R_i3.out hB)
      replace BB := Aside0.mk (BB.out.trans (hB.mono BB.out.size))
      replace BO := Aside0.mk (BO.out.trans (hB.mono BO.out.size))
      replace SB := Aside0.mk (SB.out.trans (hB.mono SB.out.size))
      clear hB
      go_simp
      refine hK.out _ _ ?_ (fun hNew => ?_)
      · try dsimp only
        exact MK.out _ SB.out
      clear hK K hHeld hNew
      have hHeld := MK.out _ SB.out
      refine nd_take 4 hHeld ?_
      refine wpAnyH_done (by kernel_rfl) ?_ _
      clear hHeld MK
      clear SB
      go_upto_region 26 with fail
      have c_in0 : w152.cell? ⟨g104, 0, none⟩ = some (.bool a) := blk_cell T_in.out 0
      have c_in1 : w152.cell? ⟨g104, 1, none⟩ = some (.slice (some ⟨g1, 0, none⟩) (l1).length (l1.length + 1)) := blk_cell T_in.out 1
      have c_in2 : w152.cell? ⟨g104, 2, none⟩ = some (.slice (some ⟨g2, 0, none⟩) (l2).length (l2.length + 1)) := blk_cell T_in.out 2
      have c_in3 : w152.cell? ⟨g104, 3, none⟩ = some (.slice (some ⟨g3, 0, none⟩) (l3).length (l3.length + 1)) := blk_cell T_in.out 3
      have n1 : (0 : Int) ≤ (l1.length : Int) + 1 := by omega
      have n2 : (0 : Int) ≤ (l2.length : Int) + 1 := by omega
      have n3 : (0 : Int) ≤ (l3.length : Int) + 1 := by omega
      have MK : Aside0 (∀ W, Below w152.heap.size w152 W → Below w152.heap.size w152 W ∧ W.cell? ⟨g104, 0, none⟩ = some (.bool a) ∧ W.cell? ⟨g104, 1, none⟩ = some (.slice (some ⟨g1, 0, none⟩) (l1).length (l1.length + 1)) ∧ W.cell? ⟨g104, 2, none⟩ = some (.slice (some ⟨g2, 0, none⟩) (l2).length (l2.length + 1)) ∧ W.cell? ⟨g104, 3, none⟩ = some (.slice (some ⟨g3, 0, none⟩) (l3).length (l3.length + 1))) := ⟨fun W hb => ⟨hb, nd_cell hb c_in0, nd_cell hb c_in1, nd_cell hb c_in2, nd_cell hb c_in3⟩⟩
      clear c_in0 c_in1 c_in2 c_in3
      have SB := Aside0.mk (Below.refl w152.heap.size w152)
      refine wp_region_held_drew (S := fun W => Below w152.heap.size w152 W ∧ W.cell? ⟨g104, 0, none⟩ = some (.bool a) ∧ W.cell? ⟨g104, 1, none⟩ = some (.slice (some ⟨g1, 0, none⟩) (l1).length (l1.length + 1)) ∧ W.cell? ⟨g104, 2, none⟩ = some (.slice (some ⟨g2, 0, none⟩) (l2).length (l2.length + 1)) ∧ W.cell? ⟨g104, 3, none⟩ = some (.slice (some ⟨g3, 0, none⟩) (l3).length (l3.length + 1))) (by kernel_rfl) ?_ (fun hHeld => ?_)
      · try dsimp only
        exact MK.out _ (Below.drew (Below.refl _ _))
      have hB : Below w152.heap.size w152 w152.drew := below_drew1 (Below.refl _ _)
      clear hHeld
      obtain ⟨w153, hw153⟩ : ∃ x, x = w152.drew := ⟨_, rfl⟩
      rw [← hw153] at hB ⊢
      clear hw153
      replace T_n := Aside0.mk ((hB.block _ (blk_lt T_n.out)).trans T_n.out)
      replace T_in := Aside0.mk ((hB.block _ (blk_lt T_in.out)).trans T_in.out)
      replace R_i1 := Aside0.mk (Kd.R_below R_i1.out hB)
      replace R_i2 := Aside0.mk (Kd.R_below R_i2.out hB)
      replace R_i3 := Aside0.mk (Kd.R_below R_i3.out hB)
      replace BB := Aside0.mk (BB.out.trans (hB.mono BB.out.size))
      replace BO := Aside0.mk (BO.out.trans (hB.mono BO.out.size))
      replace SB := Aside0.mk (SB.out.trans (hB.mono SB.out.size))
      clear hB
      have hHeld := MK.out _ SB.out
      refine nd_take 0 hHeld ?_
      refine nd_take 1 hHeld ?_
      refine nd_take 2 hHeld ?_
      refine nd_take 3 hHeld ?_
      refine nd_take 4 hHeld ?_
      refine nd_take 5 hHeld ?_
      refine nd_take 6 hHeld ?_
      refine nd_take 7 hHeld ?_
      refine nd_take 8 hHeld ?_
      refine nd_take 9 hHeld ?_
      refine nd_take 10 hHeld ?_
      refine nd_take 11 hHeld ?_
      refine nd_take 12 hHeld ?_
      refine nd_take 13 hHeld ?_
      refine nd_take 14 hHeld ?_
      refine nd_take 15 hHeld ?_
      refine nd_take 16 hHeld ?_
      refine nd_take 17 hHeld ?_
      refine nd_take 18 hHeld ?_
      refine nd_take 19 hHeld ?_
      refine nd_take 20 hHeld ?_
      refine wpAnyH_done (by kernel_rfl) ?_ _
      clear hHeld MK
      clear SB
      have c_in0 : w153.cell? ⟨g104, 0, none⟩ = some (.bool a) := blk_cell T_in.out 0
      have c_in1 : w153.cell? ⟨g104, 1, none⟩ = some (.slice (some ⟨g1, 0, none⟩) (l1).length (l1.length + 1)) := blk_cell T_in.out 1
      have c_in2 : w153.cell? ⟨g104, 2, none⟩ = some (.slice (some ⟨g2, 0, none⟩) (l2).length (l2.length + 1)) := blk_cell T_in.out 2
      have c_in3 : w153.cell? ⟨g104, 3, none⟩ = some (.slice (some ⟨g3, 0, none⟩) (l3).length (l3.length + 1)) := blk_cell T_in.out 3
      have ZZ1 := Aside0.mk (Sp.same flat48 SP1.out (BO.out.block _ SP1.out.lt)).z48
      have ZZ2 := Aside0.mk (Sp.z1 rfl (Sp.same flatS SP2.out (BO.out.block _ SP2.out.lt)))
      have ZZ3 := Aside0.mk (Sp.z1 rfl (Sp.same flatI SP3.out (BO.out.block _ SP3.out.lt)))
      go_wp2_with fail
      go_loopw [26] (fun v W => ∃ i : Nat, l1.length ≤ i ∧ i ≤ l1.length + 1 ∧ v = .int .i64 (i : Int) ∧ w153 = W) (fun v _ => (l1.length + 1 - intOf v).toNat)
      case atStart => exact ⟨l1.length, Nat.le_refl _, Nat.le_succ _, rfl, by first | rfl | trivial⟩
      case round =>
        obtain ⟨i, hi0, hi, rfl, hWW⟩ := hrel
        subst hWW
        by_cases h : i = l1.length
        · subst h
          have y0 := ZZ1.out.1
          have y1 := ZZ1.out.2
          have hw26 : IntKind.i64.wrap ((l1.length : Int) + 1) = (l1.length : Int) + 1 := by have := OM.out.1; simp only [maxLen] at this; rw [IntKind.wrap_i64]; omega
          have e1 : decide ((l1.length : Int) < (l1.length : Int) + 1) = true := decide_eq_true (by omega)
          clear hi0 hi
          go_wp2_with fail
          go_roundw
          case rel => exact ⟨l1.length + 1, Nat.le_succ _, Nat.le_refl _, rfl, by first | rfl | trivial⟩
          case measure => simp [intOf]
        · have h9 : i = l1.length + 1 := by omega
          subst h9
          have e1 : decide ((l1.length : Int) + 1 < (l1.length : Int) + 1) = false := decide_eq_false (by omega)
          clear h hi0 hi
          go_wp2_with fail
          go_loopw [27] (fun v W => ∃ i : Nat, l2.length ≤ i ∧ i ≤ l2.length + 1 ∧ v = .int .i64 (i : Int) ∧ w153 = W) (fun v _ => (l2.length + 1 - intOf v).toNat)
          case atStart => exact ⟨l2.length, Nat.le_refl _, Nat.le_succ _, rfl, by first | rfl | trivial⟩
          case round =>
            obtain ⟨i, hi0, hi, rfl, hWW⟩ := hrel
            subst hWW
            by_cases h : i = l2.length
            · subst h
              have y0 : w153.cell? ⟨g2, l2.length, none⟩ = some (.string ⟨#[]⟩) := ZZ2.out
              have hw26 : IntKind.i64.wrap ((l2.length : Int) + 1) = (l2.length : Int) + 1 := by have := OM.out.2.1; simp only [maxLen] at this; rw [IntKind.wrap_i64]; omega
              have e1 : decide ((l2.length : Int) < (l2.length : Int) + 1) = true := decide_eq_true (by omega)
              clear hi0 hi
              go_wp2_with fail
              go_roundw
              case rel => exact ⟨l2.length + 1, Nat.le_succ _, Nat.le_refl _, rfl, by first | rfl | trivial⟩
              case measure => simp [intOf]
            · have h9 : i = l2.length + 1 := by omega
              subst h9
              have e1 : decide ((l2.length : Int) + 1 < (l2.length : Int) + 1) = false := decide_eq_false (by omega)
              clear h hi0 hi
              go_wp2_with fail
              go_loopw [28] (fun v W => ∃ i : Nat, l3.length ≤ i ∧ i ≤ l3.length + 1 ∧ v = .int .i64 (i : Int) ∧ w153 = W) (fun v _ => (l3.length + 1 - intOf v).toNat)
              case atStart => exact ⟨l3.length, Nat.le_refl _, Nat.le_succ _, rfl, by first | rfl | trivial⟩
              case round =>
                obtain ⟨i, hi0, hi, rfl, hWW⟩ := hrel
                subst hWW
                by_cases h : i = l3.length
                · subst h
                  have y0 : w153.cell? ⟨g3, l3.length, none⟩ = some (.int .i64 0) := ZZ3.out
                  have hw26 : IntKind.i64.wrap ((l3.length : Int) + 1) = (l3.length : Int) + 1 := by have := OM.out.2.2; simp only [maxLen] at this; rw [IntKind.wrap_i64]; omega
                  have e1 : decide ((l3.length : Int) < (l3.length : Int) + 1) = true := decide_eq_true (by omega)
                  clear hi0 hi
                  go_wp2_with fail
                  go_roundw
                  case rel => exact ⟨l3.length + 1, Nat.le_succ _, Nat.le_refl _, rfl, by first | rfl | trivial⟩
                  case measure => simp [intOf]
                · have h9 : i = l3.length + 1 := by omega
                  subst h9
                  have e1 : decide ((l3.length : Int) + 1 < (l3.length : Int) + 1) = false := decide_eq_false (by omega)
                  clear h hi0 hi
                  go_wp2_with fail
                  go_ret
                  exact ⟨rfl, BB.out⟩
end
end Go.Proofs.Ytjjfeoigjhbbpaa.PA
