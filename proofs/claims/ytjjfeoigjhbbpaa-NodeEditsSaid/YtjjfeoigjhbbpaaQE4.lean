/- Texts of this claim: contracts of the functions that the statement reaches, and plain laws of what they compute. -/
import Derived.Test.YtjjfeoigjhbbpaaQE3
set_option linter.unusedVariables false
set_option linter.unusedSimpArgs false
namespace Go.Proofs.Ytjjfeoigjhbbpaa.PA
section

open Go.RowKit Go.Proofs.YtjjfeoigjhbbpaaW.PrintWords Go.Proofs.YtjjfeoigjhbbpaaW.PrintLast Go.Proofs.YtjjfeoigjhbbpaaW.PrintMore
attribute [local go_sem] pr_leq pr_geq pr_gtr max2_int min2_int max_two min_two max_three min_three max_four min_four
set_option linter.unusedVariables false
set_option linter.unusedSimpArgs false
mutual
def cisternref11_DocFind.l0 : Nat → ByteArray → Int → Int → Bool → List (S48) → List ByteArray → List Int → Option (Int × Int)
  | 0, _, _, _, _, _, _, _ => none
  | k + 1, x1, x6, x7, x535000, x535001, x535002, x535003 => if x7 < (x535001.length : Int) then (if 0 ≤ x7 then (if (Op.bytesLess (((rd_T48 x535001 x7).f0).toList) x1.toList) = true then (cisternref11_DocFind.l0 k x1 (wrap64 (x6 + 1)) (wrap64 (x7 + 1)) x535000 x535001 x535002 x535003) else (cisternref11_DocFind.l0 k x1 x6 (wrap64 (x7 + 1)) x535000 x535001 x535002 x535003)) else (none)) else (cisternref11_DocFind.l1 k x1 x6 0 x535000 x535001 x535002 x535003)
def cisternref11_DocFind.l1 : Nat → ByteArray → Int → Int → Bool → List (S48) → List ByteArray → List Int → Option (Int × Int)
  | 0, _, _, _, _, _, _, _ => none
  | k + 1, x1, x6, x8, x535000, x535001, x535002, x535003 => if x8 < (x535002.length : Int) then (if 0 ≤ x8 then (if ((Op.bytesLess x1.toList ((rdOf ByteArray.empty x535002 x8).toList)) = true) then (cisternref11_DocFind.l1 k x1 x6 (wrap64 (x8 + 1)) x535000 x535001 x535002 x535003) else (cisternref11_DocFind.l1 k x1 (wrap64 (x6 + 1)) (wrap64 (x8 + 1)) x535000 x535001 x535002 x535003)) else (none)) else (some (x6, 0))
end
def cisternref11_DocFind.f (k : Nat) (a0_0 : Bool) (l0_1 : List (S48)) (l0_2 : List ByteArray) (l0_3 : List Int) (a1 : ByteArray) : Option (Int × Int) := (cisternref11_Right.f a0_0 l0_1 l0_2 l0_3).bind fun t535 => (if t535 = true then (cisternref11_DocFind.l0 k a1 0 0 a0_0 l0_1 l0_2 l0_3) else (some (0, 2)))
set_option maxHeartbeats 8000000 in
set_option maxRecDepth 100000 in
theorem cisternref11_DocFind.calls (k : Nat) (a0_0 : Bool) (A0_1 : Option Addr) (c0_1 : Nat) (l0_1 : List (S48)) (A0_2 : Option Addr) (c0_2 : Nat) (l0_2 : List ByteArray) (A0_3 : Option Addr) (c0_3 : Nat) (l0_3 : List Int) (a1 : ByteArray) (r1 : Int) (r2 : Int) (w : World) (hr0_1 : Kd.C k48 w A0_1 l0_1.length l0_1) (hc0_1 : l0_1.length ≤ c0_1) (hr0_2 : Kd.C Kd.string w A0_2 l0_2.length l0_2) (hc0_2 : l0_2.length ≤ c0_2) (hr0_3 : Kd.C (Kd.int .i64) w A0_3 l0_3.length l0_3) (hc0_3 : l0_3.length ≤ c0_3) (h : cisternref11_DocFind.f k a0_0 l0_1 l0_2 l0_3 a1 = some (r1, r2)) :
    Calls Try.prog 31 #[.agg #[.bool a0_0, .slice A0_1 l0_1.length c0_1, .slice A0_2 l0_2.length c0_2, .slice A0_3 l0_3.length c0_3], .string a1] w fun e w' => e = .returned (.tuple #[.int .i64 r1, .int .i64 r2]) ∧ Below w.heap.size w w' := by
  have hu26 := Try.underlying26
  have HR0_1 := Aside0.mk hr0_1
  have HC0_1 := Aside0.mk hc0_1
  clear hr0_1 hc0_1
  have HR0_2 := Aside0.mk hr0_2
  have HC0_2 := Aside0.mk hc0_2
  clear hr0_2 hc0_2
  have HR0_3 := Aside0.mk hr0_3
  have HC0_3 := Aside0.mk hc0_3
  clear hr0_3 hc0_3
  have HB := Aside0.mk (Below.refl w.heap.size w)
  have H : ((cisternref11_Right.f a0_0 l0_1 l0_2 l0_3).bind fun t535 => (if t535 = true then (cisternref11_DocFind.l0 k a1 0 0 a0_0 l0_1 l0_2 l0_3) else (some (0, 2)))) = some (r1, r2) := h
  clear h
  replace H := Option.bind_eq_some_iff.mp H
  obtain ⟨t535, A30, H⟩ := H
  replace H : (if t535 = true then (cisternref11_DocFind.l0 k a1 0 0 a0_0 l0_1 l0_2 l0_3) else (some (0, 2))) = some (r1, r2) := H
  have A3 := Aside0.mk A30
  clear A30
  by_cases c4 : t535 = true
  · subst c4
    have H1 : (cisternref11_DocFind.l0 k a1 0 0 a0_0 l0_1 l0_2 l0_3) = some (r1, r2) := by rw [if_pos rfl] at H; exact H
    clear H
    have H := H1
    clear H1
    have H' := Aside0.mk H
    clear H
    go_enter Try.func31, Try.ntmps31
    go_wp2_with (first | ((with_reducible refine gate_dst (N := 2) rfl ?_); refine box_event ?hg (N := 2) ?hd (cs := #[.bool a0_0, .slice A0_1 l0_1.length c0_1, .slice A0_2 l0_2.length c0_2, .slice A0_3 l0_3.length c0_3]) (t := 26) ?hr ?_; (case hd => rfl); (case hg => rfl); (case hr => first | (go_simp; done) | (go_simp; rfl)); intro gb534 hg w5 hbox hb; have n0_ := Aside0.mk (below_step (by repeat (first | (with_reducible first | exact HB.out | apply below_alloc | apply pw_below_drewN | apply below_drew1) | exact HB.out)) hb); have n1_ := Aside0.mk (hbox); have n2_ := Aside0.mk ((by rw [hg]; exact (below_size (by repeat (first | (with_reducible first | exact HB.out | apply below_alloc | apply pw_below_drewN | apply below_drew1) | exact HB.out))) : w.heap.size ≤ gb534)); have n3_ := Aside0.mk ((by rw [hg]; exact (below_size (by repeat (first | (with_reducible first | exact HB.out | apply below_alloc | apply pw_below_drewN | apply below_drew1) | exact HB.out))) : w.heap.size ≤ gb534)); clear HB; have HB := n0_; have BK534 := n1_; have GW534 := n2_; have GE534 := n3_; clear n0_ n1_ n2_ n3_; clear hb hbox hg; have hcz6_0 : w5.cell? ⟨gb534, 0, none⟩ = some (.bool a0_0) := (blk_cell BK534.out 0).trans rfl; have hcz6_1 : w5.cell? ⟨gb534, 1, none⟩ = some (.slice A0_1 l0_1.length c0_1) := (blk_cell BK534.out 1).trans rfl; have hcz6_2 : w5.cell? ⟨gb534, 2, none⟩ = some (.slice A0_2 l0_2.length c0_2) := (blk_cell BK534.out 2).trans rfl; have hcz6_3 : w5.cell? ⟨gb534, 3, none⟩ = some (.slice A0_3 l0_3.length c0_3) := (blk_cell BK534.out 3).trans rfl; have hfz6_0 := blk_frozen BK534.out 0; have hfz6_1 := blk_frozen BK534.out 1; have hfz6_2 := blk_frozen BK534.out 2; have hfz6_3 := blk_frozen BK534.out 3) | ((with_reducible refine gate_callee (f := 26) rfl ?_); refine goesL_ (some 10) rfl rfl Try.func26 (by kernel_rfl) rfl #[.agg #[.bool a0_0, .slice A0_1 l0_1.length c0_1, .slice A0_2 l0_2.length c0_2, .slice A0_3 l0_3.length c0_3]] rfl (by (try simp only [List.map_toArray, List.map_cons, List.map_nil]); first | done | rfl | (simp only [List.length_drop, List.length_take]; rfl)) ?_; (with_reducible refine (cisternref11_Right.calls a0_0 _ _ l0_1 _ _ l0_2 _ _ l0_3 true _ ?side1 ?side2 ?side3 ?side4 ?side5 ?side6 A3.out).mono ?_); (case side1 => repeat (first | exact (Kd.C_below HR0_1.out HB.out) | (with_reducible refine Kd.C_alloc ?_ _) | (with_reducible refine Kd.C_drewN ?_ _) | (with_reducible refine Kd.C_drew ?_))); (case side2 => exact HC0_1.out); (case side3 => repeat (first | exact (Kd.C_below HR0_2.out HB.out) | (with_reducible refine Kd.C_alloc ?_ _) | (with_reducible refine Kd.C_drewN ?_ _) | (with_reducible refine Kd.C_drew ?_))); (case side4 => exact HC0_2.out); (case side5 => repeat (first | exact (Kd.C_below HR0_3.out HB.out) | (with_reducible refine Kd.C_alloc ?_ _) | (with_reducible refine Kd.C_drewN ?_ _) | (with_reducible refine Kd.C_drew ?_))); (case side6 => exact HC0_3.out); rintro e w7 ⟨rfl, hb⟩; refine ⟨_, rfl, ?_⟩; have n0_ := Aside0.mk (blk_below (g := gb534) (o := .cells #[.bool a0_0, .slice A0_1 l0_1.length c0_1, .slice A0_2 l0_2.length c0_2, .slice A0_3 l0_3.length c0_3] 26 (0, 0)) (by (with_reducible repeat (first | refine blk_drewN ?_ _ | refine blk_drew ?_ | refine blk_alloc ?_ _)); exact BK534.out) hb); have n1_ := Aside0.mk (below_step (by repeat (first | (with_reducible first | exact HB.out | apply below_alloc | apply pw_below_drewN | apply below_drew1 | refine below_set ?_ GE534.out) | exact HB.out)) hb); clear BK534; clear HB; have BK534 := n0_; have HB := n1_; clear n0_ n1_; (try clear hb); (try clear hb2); (try clear hk); (try clear hi)))
    go_loopg [6, 7] k (fun kq v6 v7 w' => ∃ (x6_1 : Int) (x7_1 : Int), v6 = .int .i64 x6_1 ∧ v7 = .int .i64 x7_1 ∧ Aside0 (cisternref11_DocFind.l0 kq a1 x6_1 x7_1 a0_0 l0_1 l0_2 l0_3 = some (r1, r2)) ∧ Aside0 (kq ≤ k) ∧ Aside0 (w'.heap[gb534]? = some (.cells #[.bool a0_0, (.slice A0_1 l0_1.length c0_1), (.slice A0_2 l0_2.length c0_2), (.slice A0_3 l0_3.length c0_3)] 26 (0, 0))) ∧ Aside0 (Below w.heap.size w w'))
    case atStart => exact ⟨(0), (0), (by first | rfl | (simp; done) | (simp [*]; done)), (by first | rfl | (simp; done) | (simp [*]; done)), H', ⟨Nat.le_refl _⟩, ⟨by (with_reducible repeat (first | refine blk_drewN ?_ _ | refine blk_drew ?_ | refine blk_alloc ?_ _)); exact BK534.out⟩, ⟨by repeat (first | (with_reducible first | exact HB.out | apply below_alloc | apply pw_below_drewN | apply below_drew1 | refine below_set ?_ GE534.out) | exact HB.out)⟩⟩
    case round =>
      clear H'
      try clear c2
      try clear p2
      try clear c3
      try clear c4
      try clear hcz6_0
      try clear hcz6_1
      try clear hcz6_2
      try clear hcz6_3
      try clear hfz6_0
      try clear hfz6_1
      try clear hfz6_2
      try clear hfz6_3
      obtain ⟨x6_1, x7_1, rfl, rfl, HA, HK1, BK534, HB⟩ := hrel
      cases gk with
      | zero => exact absurd HA.out (by simp [cisternref11_DocFind.l0])
      | succ k1 =>
        have H := HA.out
        clear HA
        simp only [cisternref11_DocFind.l0] at H
        by_cases c8 : x7_1 < (l0_1.length : Int)
        · rw [if_pos c8] at H
          have c8b0 : decide (x7_1 < (l0_1.length : Int)) = true := decide_eq_true c8
          clear c8
          by_cases c9 : 0 ≤ x7_1
          · rw [if_pos c9] at H
            have c9b0 : decide (0 ≤ x7_1) = true := decide_eq_true c9
            clear c9
            by_cases c10 : (Op.bytesLess (((rd_T48 l0_1 x7_1).f0).toList) a1.toList) = true
            · rw [if_pos c10] at H
              have c10b0 : (Op.bytesLess (((rd_T48 l0_1 x7_1).f0).toList) a1.toList) = true := c10
              clear c10
              have H' := Aside0.mk H
              clear H
              have hcz11_0 : wr.cell? ⟨gb534, 0, none⟩ = some (.bool a0_0) := (blk_cell BK534.out 0).trans rfl
              have hcz11_1 : wr.cell? ⟨gb534, 1, none⟩ = some (.slice A0_1 l0_1.length c0_1) := (blk_cell BK534.out 1).trans rfl
              have hcz11_2 : wr.cell? ⟨gb534, 2, none⟩ = some (.slice A0_2 l0_2.length c0_2) := (blk_cell BK534.out 2).trans rfl
              have hcz11_3 : wr.cell? ⟨gb534, 3, none⟩ = some (.slice A0_3 l0_3.length c0_3) := (blk_cell BK534.out 3).trans rfl
              have hfz11_0 := blk_frozen BK534.out 0
              have hfz11_1 := blk_frozen BK534.out 1
              have hfz11_2 := blk_frozen BK534.out 2
              have hfz11_3 := blk_frozen BK534.out 3
              have p536 : 0 ≤ (x7_1 : Int) := of_decide_eq_true (by first | (with_reducible assumption) | assumption)
              have q536 : x7_1 < (l0_1.length : Int) := of_decide_eq_true (by first | (with_reducible assumption) | assumption)
              obtain ⟨ad536, e536, hx536_0, hx536_1⟩ := at_T48 HR0_1.out x7_1 p536 q536
              cases e536
              replace hx536_0 := (HB.out.cell (World.block_lt_of_cell? w _ hx536_0)).trans hx536_0
              replace hx536_1 := (HB.out.cell (World.block_lt_of_cell? w _ hx536_1)).trans hx536_1
              replace p536 := eq_true p536
              replace q536 := eq_true q536
              go_wp2
              go_roundg k1
              case measure => have := HK1.out; omega
              case rel => exact ⟨(wrap64 (x6_1 + 1)), (wrap64 (x7_1 + 1)), (by first | rfl | (simp; done) | (simp [*]; done)), (by first | rfl | (simp; done) | (simp [*]; done)), H', ⟨by have := HK1.out; omega⟩, ⟨by (with_reducible repeat (first | refine blk_drewN ?_ _ | refine blk_drew ?_ | refine blk_alloc ?_ _)); exact BK534.out⟩, ⟨by repeat (first | (with_reducible first | exact HB.out | apply below_alloc | apply pw_below_drewN | apply below_drew1 | refine below_set ?_ GE534.out) | exact HB.out)⟩⟩
            · rw [if_neg c10] at H
              have c10b0 : (Op.bytesLess (((rd_T48 l0_1 x7_1).f0).toList) a1.toList) = false := by simpa using c10
              clear c10
              have H' := Aside0.mk H
              clear H
              have hcz12_0 : wr.cell? ⟨gb534, 0, none⟩ = some (.bool a0_0) := (blk_cell BK534.out 0).trans rfl
              have hcz12_1 : wr.cell? ⟨gb534, 1, none⟩ = some (.slice A0_1 l0_1.length c0_1) := (blk_cell BK534.out 1).trans rfl
              have hcz12_2 : wr.cell? ⟨gb534, 2, none⟩ = some (.slice A0_2 l0_2.length c0_2) := (blk_cell BK534.out 2).trans rfl
              have hcz12_3 : wr.cell? ⟨gb534, 3, none⟩ = some (.slice A0_3 l0_3.length c0_3) := (blk_cell BK534.out 3).trans rfl
              have hfz12_0 := blk_frozen BK534.out 0
              have hfz12_1 := blk_frozen BK534.out 1
              have hfz12_2 := blk_frozen BK534.out 2
              have hfz12_3 := blk_frozen BK534.out 3
              have p536 : 0 ≤ (x7_1 : Int) := of_decide_eq_true (by first | (with_reducible assumption) | assumption)
              have q536 : x7_1 < (l0_1.length : Int) := of_decide_eq_true (by first | (with_reducible assumption) | assumption)
              obtain ⟨ad536, e536, hx536_0, hx536_1⟩ := at_T48 HR0_1.out x7_1 p536 q536
              cases e536
              replace hx536_0 := (HB.out.cell (World.block_lt_of_cell? w _ hx536_0)).trans hx536_0
              replace hx536_1 := (HB.out.cell (World.block_lt_of_cell? w _ hx536_1)).trans hx536_1
              replace p536 := eq_true p536
              replace q536 := eq_true q536
              go_wp2
              go_roundg k1
              case measure => have := HK1.out; omega
              case rel => exact ⟨(x6_1), (wrap64 (x7_1 + 1)), (by first | rfl | (simp; done) | (simp [*]; done)), (by first | rfl | (simp; done) | (simp [*]; done)), H', ⟨by have := HK1.out; omega⟩, ⟨by (with_reducible repeat (first | refine blk_drewN ?_ _ | refine blk_drew ?_ | refine blk_alloc ?_ _)); exact BK534.out⟩, ⟨by repeat (first | (with_reducible first | exact HB.out | apply below_alloc | apply pw_below_drewN | apply below_drew1 | refine below_set ?_ GE534.out) | exact HB.out)⟩⟩
          · rw [if_neg c9] at H
            exact absurd H (by simp)
        · rw [if_neg c8] at H
          have c8b0 : decide (x7_1 < (l0_1.length : Int)) = false := decide_eq_false c8
          clear c8
          have H' := Aside0.mk H
          clear H
          have hcz13_0 : wr.cell? ⟨gb534, 0, none⟩ = some (.bool a0_0) := (blk_cell BK534.out 0).trans rfl
          have hcz13_1 : wr.cell? ⟨gb534, 1, none⟩ = some (.slice A0_1 l0_1.length c0_1) := (blk_cell BK534.out 1).trans rfl
          have hcz13_2 : wr.cell? ⟨gb534, 2, none⟩ = some (.slice A0_2 l0_2.length c0_2) := (blk_cell BK534.out 2).trans rfl
          have hcz13_3 : wr.cell? ⟨gb534, 3, none⟩ = some (.slice A0_3 l0_3.length c0_3) := (blk_cell BK534.out 3).trans rfl
          have hfz13_0 := blk_frozen BK534.out 0
          have hfz13_1 := blk_frozen BK534.out 1
          have hfz13_2 := blk_frozen BK534.out 2
          have hfz13_3 := blk_frozen BK534.out 3
          go_wp2
          go_loopg [6, 8] k1 (fun kq v6 v8 w' => ∃ (x6_2 : Int) (x8_2 : Int), v6 = .int .i64 x6_2 ∧ v8 = .int .i64 x8_2 ∧ Aside0 (cisternref11_DocFind.l1 kq a1 x6_2 x8_2 a0_0 l0_1 l0_2 l0_3 = some (r1, r2)) ∧ Aside0 (kq ≤ k1) ∧ Aside0 (w'.heap[gb534]? = some (.cells #[.bool a0_0, (.slice A0_1 l0_1.length c0_1), (.slice A0_2 l0_2.length c0_2), (.slice A0_3 l0_3.length c0_3)] 26 (0, 0))) ∧ Aside0 (Below w.heap.size w w'))
          case atStart => exact ⟨(x6_1), (0), (by first | rfl | (simp; done) | (simp [*]; done)), (by first | rfl | (simp; done) | (simp [*]; done)), H', ⟨Nat.le_refl _⟩, ⟨by (with_reducible repeat (first | refine blk_drewN ?_ _ | refine blk_drew ?_ | refine blk_alloc ?_ _)); exact BK534.out⟩, ⟨by repeat (first | (with_reducible first | exact HB.out | apply below_alloc | apply pw_below_drewN | apply below_drew1 | refine below_set ?_ GE534.out) | exact HB.out)⟩⟩
          case round =>
            clear H'
            try clear c1
            try clear c2
            try clear p2
            try clear c3
            try clear c4
            try clear p5
            try clear q5
            try clear hx5
            try clear p6
            try clear c8
            try clear c8b0
            try clear c9
            try clear c9b0
            try clear c10
            try clear c10b0
            try clear hcz11_0
            try clear hcz11_1
            try clear hcz11_2
            try clear hcz11_3
            try clear hcz12_0
            try clear hcz12_1
            try clear hcz12_2
            try clear hcz12_3
            try clear hcz13_0
            try clear hcz13_1
            try clear hcz13_2
            try clear hcz13_3
            try clear hcz6_0
            try clear hcz6_1
            try clear hcz6_2
            try clear hcz6_3
            try clear hfz11_0
            try clear hfz11_1
            try clear hfz11_2
            try clear hfz11_3
            try clear hfz12_0
            try clear hfz12_1
            try clear hfz12_2
            try clear hfz12_3
            try clear hfz13_0
            try clear hfz13_1
            try clear hfz13_2
            try clear hfz13_3
            try clear hfz6_0
            try clear hfz6_1
            try clear hfz6_2
            try clear hfz6_3
            try clear hx536_0
            try clear hx536_1
            try clear p2
            try clear p536
            try clear q536
            obtain ⟨x6_2, x8_2, rfl, rfl, HA, HK2, BK534, HB⟩ := hrel
            cases gk with
            | zero => exact absurd HA.out (by simp [cisternref11_DocFind.l1])
            | succ k2 =>
              have H := HA.out
              clear HA
              simp only [cisternref11_DocFind.l1] at H
              by_cases c14 : x8_2 < (l0_2.length : Int)
              · rw [if_pos c14] at H
                have c14b0 : decide (x8_2 < (l0_2.length : Int)) = true := decide_eq_true c14
                clear c14
                by_cases c15 : 0 ≤ x8_2
                · rw [if_pos c15] at H
                  have c15b0 : decide (0 ≤ x8_2) = true := decide_eq_true c15
                  clear c15
                  by_cases c16 : ((Op.bytesLess a1.toList ((rdOf ByteArray.empty l0_2 x8_2).toList)) = true)
                  · rw [if_pos c16] at H
                    have c16b0 : (Op.bytesLess a1.toList ((rdOf ByteArray.empty l0_2 x8_2).toList)) = true := c16
                    clear c16
                    have H' := Aside0.mk H
                    clear H
                    have hcz17_0 : wr.cell? ⟨gb534, 0, none⟩ = some (.bool a0_0) := (blk_cell BK534.out 0).trans rfl
                    have hcz17_1 : wr.cell? ⟨gb534, 1, none⟩ = some (.slice A0_1 l0_1.length c0_1) := (blk_cell BK534.out 1).trans rfl
                    have hcz17_2 : wr.cell? ⟨gb534, 2, none⟩ = some (.slice A0_2 l0_2.length c0_2) := (blk_cell BK534.out 2).trans rfl
                    have hcz17_3 : wr.cell? ⟨gb534, 3, none⟩ = some (.slice A0_3 l0_3.length c0_3) := (blk_cell BK534.out 3).trans rfl
                    have hfz17_0 := blk_frozen BK534.out 0
                    have hfz17_1 := blk_frozen BK534.out 1
                    have hfz17_2 := blk_frozen BK534.out 2
                    have hfz17_3 := blk_frozen BK534.out 3
                    have p537 : 0 ≤ (x8_2 : Int) := of_decide_eq_true (by first | (with_reducible assumption) | assumption)
                    have q537 : x8_2 < (l0_2.length : Int) := of_decide_eq_true (by first | (with_reducible assumption) | assumption)
                    obtain ⟨ad537, e537, hx537_0⟩ := Kd.at_string HR0_2.out x8_2 p537 q537
                    cases e537
                    replace hx537_0 := (HB.out.cell (World.block_lt_of_cell? w _ hx537_0)).trans hx537_0
                    replace p537 := eq_true p537
                    replace q537 := eq_true q537
                    go_wp2
                    go_roundg k2
                    case measure => have := HK1.out; have := HK2.out; omega
                    case rel => exact ⟨(x6_2), (wrap64 (x8_2 + 1)), (by first | rfl | (simp; done) | (simp [*]; done)), (by first | rfl | (simp; done) | (simp [*]; done)), H', ⟨by have := HK1.out; have := HK2.out; omega⟩, ⟨by (with_reducible repeat (first | refine blk_drewN ?_ _ | refine blk_drew ?_ | refine blk_alloc ?_ _)); exact BK534.out⟩, ⟨by repeat (first | (with_reducible first | exact HB.out | apply below_alloc | apply pw_below_drewN | apply below_drew1 | refine below_set ?_ GE534.out) | exact HB.out)⟩⟩
                  · rw [if_neg c16] at H
                    have c16b0 : (Op.bytesLess a1.toList ((rdOf ByteArray.empty l0_2 x8_2).toList)) = false := by simpa using c16
                    clear c16
                    have H' := Aside0.mk H
                    clear H
                    have hcz18_0 : wr.cell? ⟨gb534, 0, none⟩ = some (.bool a0_0) := (blk_cell BK534.out 0).trans rfl
                    have hcz18_1 : wr.cell? ⟨gb534, 1, none⟩ = some (.slice A0_1 l0_1.length c0_1) := (blk_cell BK534.out 1).trans rfl
                    have hcz18_2 : wr.cell? ⟨gb534, 2, none⟩ = some (.slice A0_2 l0_2.length c0_2) := (blk_cell BK534.out 2).trans rfl
                    have hcz18_3 : wr.cell? ⟨gb534, 3, none⟩ = some (.slice A0_3 l0_3.length c0_3) := (blk_cell BK534.out 3).trans rfl
                    have hfz18_0 := blk_frozen BK534.out 0
                    have hfz18_1 := blk_frozen BK534.out 1
                    have hfz18_2 := blk_frozen BK534.out 2
                    have hfz18_3 := blk_frozen BK534.out 3
                    have p537 : 0 ≤ (x8_2 : Int) := of_decide_eq_true (by first | (with_reducible assumption) | assumption)
                    have q537 : x8_2 < (l0_2.length : Int) := of_decide_eq_true (by first | (with_reducible assumption) | assumption)
                    obtain ⟨ad537, e537, hx537_0⟩ := Kd.at_string HR0_2.out x8_2 p537 q537
                    cases e537
                    replace hx537_0 := (HB.out.cell (World.block_lt_of_cell? w _ hx537_0)).trans hx537_0
                    replace p537 := eq_true p537
                    replace q537 := eq_true q537
                    go_wp2
                    go_roundg k2
                    case measure => have := HK1.out; have := HK2.out; omega
                    case rel => exact ⟨(wrap64 (x6_2 + 1)), (wrap64 (x8_2 + 1)), (by first | rfl | (simp; done) | (simp [*]; done)), (by first | rfl | (simp; done) | (simp [*]; done)), H', ⟨by have := HK1.out; have := HK2.out; omega⟩, ⟨by (with_reducible repeat (first | refine blk_drewN ?_ _ | refine blk_drew ?_ | refine blk_alloc ?_ _)); exact BK534.out⟩, ⟨by repeat (first | (with_reducible first | exact HB.out | apply below_alloc | apply pw_below_drewN | apply below_drew1 | refine below_set ?_ GE534.out) | exact HB.out)⟩⟩
                · rw [if_neg c15] at H
                  exact absurd H (by simp)
              · rw [if_neg c14] at H
                have c14b0 : decide (x8_2 < (l0_2.length : Int)) = false := decide_eq_false c14
                clear c14
                simp only [Option.some.injEq, Prod.mk.injEq] at H
                obtain ⟨rfl, rfl⟩ := H
                have hcz19_0 : wr.cell? ⟨gb534, 0, none⟩ = some (.bool a0_0) := (blk_cell BK534.out 0).trans rfl
                have hcz19_1 : wr.cell? ⟨gb534, 1, none⟩ = some (.slice A0_1 l0_1.length c0_1) := (blk_cell BK534.out 1).trans rfl
                have hcz19_2 : wr.cell? ⟨gb534, 2, none⟩ = some (.slice A0_2 l0_2.length c0_2) := (blk_cell BK534.out 2).trans rfl
                have hcz19_3 : wr.cell? ⟨gb534, 3, none⟩ = some (.slice A0_3 l0_3.length c0_3) := (blk_cell BK534.out 3).trans rfl
                have hfz19_0 := blk_frozen BK534.out 0
                have hfz19_1 := blk_frozen BK534.out 1
                have hfz19_2 := blk_frozen BK534.out 2
                have hfz19_3 := blk_frozen BK534.out 3
                go_wp2
                go_ret2
                exact ⟨by first | rfl | (simp [errW_none, errW_some] <;> rfl) | (simp [*, errW_none, errW_some] <;> rfl), by repeat (first | (with_reducible first | exact HB.out | apply below_alloc | apply pw_below_drewN | apply below_drew1 | refine below_set ?_ GE534.out) | exact HB.out)⟩
  · replace c4 := Bool.eq_false_iff.mpr c4
    subst c4
    have H1 : (some (0, 2)) = some (r1, r2) := by rw [if_neg (show ¬ (false = true) by decide)] at H; exact H
    clear H
    have H := H1
    clear H1
    simp only [Option.some.injEq, Prod.mk.injEq] at H
    obtain ⟨rfl, rfl⟩ := H
    go_enter Try.func31, Try.ntmps31
    go_wp2_with (first | ((with_reducible refine gate_dst (N := 2) rfl ?_); refine box_event ?hg (N := 2) ?hd (cs := #[.bool a0_0, .slice A0_1 l0_1.length c0_1, .slice A0_2 l0_2.length c0_2, .slice A0_3 l0_3.length c0_3]) (t := 26) ?hr ?_; (case hd => rfl); (case hg => rfl); (case hr => first | (go_simp; done) | (go_simp; rfl)); intro gb534 hg w20 hbox hb; have n0_ := Aside0.mk (below_step (by repeat (first | (with_reducible first | exact HB.out | apply below_alloc | apply pw_below_drewN | apply below_drew1) | exact HB.out)) hb); have n1_ := Aside0.mk (hbox); have n2_ := Aside0.mk ((by rw [hg]; exact (below_size (by repeat (first | (with_reducible first | exact HB.out | apply below_alloc | apply pw_below_drewN | apply below_drew1) | exact HB.out))) : w.heap.size ≤ gb534)); have n3_ := Aside0.mk ((by rw [hg]; exact (below_size (by repeat (first | (with_reducible first | exact HB.out | apply below_alloc | apply pw_below_drewN | apply below_drew1) | exact HB.out))) : w.heap.size ≤ gb534)); clear HB; have HB := n0_; have BK534 := n1_; have GW534 := n2_; have GE534 := n3_; clear n0_ n1_ n2_ n3_; clear hb hbox hg; have hcz21_0 : w20.cell? ⟨gb534, 0, none⟩ = some (.bool a0_0) := (blk_cell BK534.out 0).trans rfl; have hcz21_1 : w20.cell? ⟨gb534, 1, none⟩ = some (.slice A0_1 l0_1.length c0_1) := (blk_cell BK534.out 1).trans rfl; have hcz21_2 : w20.cell? ⟨gb534, 2, none⟩ = some (.slice A0_2 l0_2.length c0_2) := (blk_cell BK534.out 2).trans rfl; have hcz21_3 : w20.cell? ⟨gb534, 3, none⟩ = some (.slice A0_3 l0_3.length c0_3) := (blk_cell BK534.out 3).trans rfl; have hfz21_0 := blk_frozen BK534.out 0; have hfz21_1 := blk_frozen BK534.out 1; have hfz21_2 := blk_frozen BK534.out 2; have hfz21_3 := blk_frozen BK534.out 3) | ((with_reducible refine gate_callee (f := 26) rfl ?_); refine goesL_ (some 10) rfl rfl Try.func26 (by kernel_rfl) rfl #[.agg #[.bool a0_0, .slice A0_1 l0_1.length c0_1, .slice A0_2 l0_2.length c0_2, .slice A0_3 l0_3.length c0_3]] rfl (by (try simp only [List.map_toArray, List.map_cons, List.map_nil]); first | done | rfl | (simp only [List.length_drop, List.length_take]; rfl)) ?_; (with_reducible refine (cisternref11_Right.calls a0_0 _ _ l0_1 _ _ l0_2 _ _ l0_3 false _ ?side1 ?side2 ?side3 ?side4 ?side5 ?side6 A3.out).mono ?_); (case side1 => repeat (first | exact (Kd.C_below HR0_1.out HB.out) | (with_reducible refine Kd.C_alloc ?_ _) | (with_reducible refine Kd.C_drewN ?_ _) | (with_reducible refine Kd.C_drew ?_))); (case side2 => exact HC0_1.out); (case side3 => repeat (first | exact (Kd.C_below HR0_2.out HB.out) | (with_reducible refine Kd.C_alloc ?_ _) | (with_reducible refine Kd.C_drewN ?_ _) | (with_reducible refine Kd.C_drew ?_))); (case side4 => exact HC0_2.out); (case side5 => repeat (first | exact (Kd.C_below HR0_3.out HB.out) | (with_reducible refine Kd.C_alloc ?_ _) | (with_reducible refine Kd.C_drewN ?_ _) | (with_reducible refine Kd.C_drew ?_))); (case side6 => exact HC0_3.out); rintro e w22 ⟨rfl, hb⟩; refine ⟨_, rfl, ?_⟩; have n0_ := Aside0.mk (blk_below (g := gb534) (o := .cells #[.bool a0_0, .slice A0_1 l0_1.length c0_1, .slice A0_2 l0_2.length c0_2, .slice A0_3 l0_3.length c0_3] 26 (0, 0)) (by (with_reducible repeat (first | refine blk_drewN ?_ _ | refine blk_drew ?_ | refine blk_alloc ?_ _)); exact BK534.out) hb); have n1_ := Aside0.mk (below_step (by repeat (first | (with_reducible first | exact HB.out | apply below_alloc | apply pw_below_drewN | apply below_drew1 | refine below_set ?_ GE534.out) | exact HB.out)) hb); clear BK534; clear HB; have BK534 := n0_; have HB := n1_; clear n0_ n1_; (try clear hb); (try clear hb2); (try clear hk); (try clear hi)))
    go_ret2
    exact ⟨by first | rfl | (simp [errW_none, errW_some] <;> rfl) | (simp [*, errW_none, errW_some] <;> rfl), by repeat (first | (with_reducible first | exact HB.out | apply below_alloc | apply pw_below_drewN | apply below_drew1 | refine below_set ?_ GE534.out) | exact HB.out)⟩
end
end Go.Proofs.Ytjjfeoigjhbbpaa.PA
namespace Go.Proofs.Ytjjfeoigjhbbpaa.PA
section

open Go.RowKit Go.Proofs.YtjjfeoigjhbbpaaW.PrintWords Go.Proofs.YtjjfeoigjhbbpaaW.PrintLast Go.Proofs.YtjjfeoigjhbbpaaW.PrintMore
attribute [local go_sem] pr_leq pr_geq pr_gtr max2_int min2_int max_two min_two max_three min_three max_four min_four
set_option linter.unusedVariables false
set_option linter.unusedSimpArgs false
def cisternref11_without.l0 : Nat → List (S48) → ByteArray → List (S48) → Int → Option ((List (S48)))
  | 0, _, _, _, _ => none
  | k + 1, x0, x1, x5, x6 => if x6 < (x0.length : Int) then (if 0 ≤ x6 then (if ((rd_T48 x0 x6).f0).toList = x1.toList then (cisternref11_without.l0 k x0 x1 x5 (wrap64 (x6 + 1))) else (if x5.length < 4398046511104 then (cisternref11_without.l0 k x0 x1 (x5 ++ [(⟨(rd_T48 x0 x6).f0, (rd_T48 x0 x6).f1⟩ : S48)]) (wrap64 (x6 + 1))) else (none))) else (none)) else (some x5)
def cisternref11_without.f (k : Nat) (l0 : List (S48)) (a1 : ByteArray) : Option ((List (S48))) := cisternref11_without.l0 k l0 a1 ([] : List (S48)) 0
set_option maxHeartbeats 8000000 in
set_option maxRecDepth 100000 in
theorem cisternref11_without.calls (k : Nat) (A0 : Option Addr) (c0 : Nat) (l0 : List (S48)) (a1 : ByteArray) (r : List (S48)) (w : World) (hr0 : Kd.C k48 w A0 l0.length l0) (hc0 : l0.length ≤ c0) (h : cisternref11_without.f k l0 a1 = some r) :
    Calls Try.prog 56 #[.slice A0 l0.length c0, .string a1] w fun e w' => ∃ v0_ : Value, e = .returned (v0_) ∧ Kd.R k48 48 w' w.heap.size (fun _ => True) v0_ r ∧ Below w.heap.size w w' := by
  have hu48 := Try.underlying48
  have HR0 := Aside0.mk hr0
  have HC0 := Aside0.mk hc0
  clear hr0 hc0
  have HB := Aside0.mk (Below.refl w.heap.size w)
  have H : (cisternref11_without.l0 k l0 a1 ([] : List (S48)) 0) = some r := h
  clear h
  have H' := Aside0.mk H
  clear H
  go_enter Try.func56, Try.ntmps56
  go_wp2
  go_loopg [5, 6] k (fun kq v5 v6 w' => ∃ (x5_1 : List (S48)) (x6_1 : Int), v6 = .int .i64 x6_1 ∧ Aside0 (cisternref11_without.l0 kq l0 a1 x5_1 x6_1 = some r) ∧ Aside0 (kq ≤ k) ∧ Aside0 (Kd.R k48 48 w' w.heap.size (fun _ => True) v5 x5_1) ∧ Aside0 (Below w.heap.size w w'))
  case atStart => exact ⟨(([] : List (S48))), (0), (by first | rfl | (simp; done) | (simp [*]; done)), H', ⟨Nat.le_refl _⟩, ⟨by first | exact Kd.R_nil _ _ _ _ _ | exact Kd.N_nil _ _ _ _ _ | exact Kd.V_nil _ _ _ _ _ | exact Kd.Q_nil _ _ _ _ _ | exact Kd.S_nil _ _ _ _ _⟩, ⟨by repeat (first | (with_reducible first | exact HB.out | apply below_alloc | apply pw_below_drewN | apply below_drew1) | exact HB.out)⟩⟩
  case round =>
    clear H'
    try clear p2
    obtain ⟨x5_1, x6_1, rfl, HA, HK1, HO_5, HB⟩ := hrel
    cases gk with
    | zero => exact absurd HA.out (by simp [cisternref11_without.l0])
    | succ k1 =>
      have H := HA.out
      clear HA
      simp only [cisternref11_without.l0] at H
      by_cases c3 : x6_1 < (l0.length : Int)
      · rw [if_pos c3] at H
        have c3b0 : decide (x6_1 < (l0.length : Int)) = true := decide_eq_true c3
        clear c3
        by_cases c4 : 0 ≤ x6_1
        · rw [if_pos c4] at H
          have c4b0 : decide (0 ≤ x6_1) = true := decide_eq_true c4
          clear c4
          by_cases c5 : ((rd_T48 l0 x6_1).f0).toList = a1.toList
          · rw [if_pos c5] at H
            have c5b0 : (((rd_T48 l0 x6_1).f0).toList == a1.toList) = true := beq_iff_eq.mpr c5
            have c5b1 : (((rd_T48 l0 x6_1).f0).toList != a1.toList) = false := bne_eq_false_iff_eq.mpr c5
            clear c5
            have H' := Aside0.mk H
            clear H
            have p538 : 0 ≤ (x6_1 : Int) := of_decide_eq_true (by first | (with_reducible assumption) | assumption)
            have q538 : x6_1 < (l0.length : Int) := of_decide_eq_true (by first | (with_reducible assumption) | assumption)
            obtain ⟨ad538, e538, hx538_0, hx538_1⟩ := at_T48 HR0.out x6_1 p538 q538
            cases e538
            replace hx538_0 := (HB.out.cell (World.block_lt_of_cell? w _ hx538_0)).trans hx538_0
            replace hx538_1 := (HB.out.cell (World.block_lt_of_cell? w _ hx538_1)).trans hx538_1
            replace p538 := eq_true p538
            replace q538 := eq_true q538
            go_wp2
            go_roundg k1
            case measure => have := HK1.out; omega
            case rel => exact ⟨(x5_1), (wrap64 (x6_1 + 1)), (by first | rfl | (simp; done) | (simp [*]; done)), H', ⟨by have := HK1.out; omega⟩, ⟨by (with_reducible repeat (first | apply Kd.R_alloc | apply Kd.R_drewN | apply Kd.R_drew)); exact HO_5.out⟩, ⟨by repeat (first | (with_reducible first | exact HB.out | apply below_alloc | apply pw_below_drewN | apply below_drew1) | exact HB.out)⟩⟩
          · rw [if_neg c5] at H
            have c5b0 : (((rd_T48 l0 x6_1).f0).toList == a1.toList) = false := beq_eq_false_iff_ne.mpr c5
            have c5b1 : (((rd_T48 l0 x6_1).f0).toList != a1.toList) = true := bne_iff_ne.mpr c5
            by_cases c6 : x5_1.length < 4398046511104
            · rw [if_pos c6] at H
              have LMc6 := Aside0.mk c6
              clear c6
              obtain ⟨y540, hy540⟩ : ∃ y_ : List (S48), y_ = (x5_1 ++ [(⟨(rd_T48 l0 x6_1).f0, (rd_T48 l0 x6_1).f1⟩ : S48)]) := ⟨_, rfl⟩
              replace H : (cisternref11_without.l0 k1 l0 a1 y540 (wrap64 (x6_1 + 1))) = some r := by first | (rw [hy540]; with_reducible exact H) | (have H2_ := (Option.bind_some _ _).symm.trans H; rw [hy540]; with_reducible exact H2_) | (have H2_ := (Option.bind_some _ _).symm.trans H; with_reducible exact H2_) | with_reducible exact H | (rw [hy540]; exact H) | exact H
              have Ny540 := Aside0.mk hy540
              clear hy540
              have H' := Aside0.mk H
              clear H
              have p538 : 0 ≤ (x6_1 : Int) := of_decide_eq_true (by first | (with_reducible assumption) | assumption)
              have q538 : x6_1 < (l0.length : Int) := of_decide_eq_true (by first | (with_reducible assumption) | assumption)
              obtain ⟨ad538, e538, hx538_0, hx538_1⟩ := at_T48 HR0.out x6_1 p538 q538
              cases e538
              replace hx538_0 := (HB.out.cell (World.block_lt_of_cell? w _ hx538_0)).trans hx538_0
              replace hx538_1 := (HB.out.cell (World.block_lt_of_cell? w _ hx538_1)).trans hx538_1
              replace p538 := eq_true p538
              replace q538 := eq_true q538
              have p539 : 0 ≤ (x6_1 : Int) := of_decide_eq_true (by first | (with_reducible assumption) | assumption)
              have q539 : x6_1 < (l0.length : Int) := of_decide_eq_true (by first | (with_reducible assumption) | assumption)
              obtain ⟨ad539, e539, hx539_0, hx539_1⟩ := at_T48 HR0.out x6_1 p539 q539
              obtain rfl : ad538 = ad539 := (by injection e539)
              replace hx539_0 := (HB.out.cell (World.block_lt_of_cell? w _ hx539_0)).trans hx539_0
              replace hx539_1 := (HB.out.cell (World.block_lt_of_cell? w _ hx539_1)).trans hx539_1
              replace p539 := eq_true p539
              replace q539 := eq_true q539
              go_wp2_with (first | ((with_reducible refine gate_builtin (b := .append) (xs := #[.tmp 20, .tmp 25]) rfl ?_); at_builtin; refine Kd.R_append k48 (w0 := w) w.heap.size rfl (.tmp 20) (.tmp 25) 22 48 (.agg #[(.string ⟨#[]⟩), (.string ⟨#[]⟩)]) 32 rfl Try.underlying22 info48 rfl (by decide) (by omega) u5 x5_1 (⟨(rd_T48 l0 x6_1).f0, (rd_T48 l0 x6_1).f1⟩ : S48) [.string ((rd_T48 l0 x6_1).f0), .string ((rd_T48 l0 x6_1).f1)] (fun _ => True) (fun _ => False) rfl rfl ?aP (fun _ hk => hk.elim) ?aF ?aO ?aB ?aS ?aL ?_; (case aP => exact k48_mkM _ _ _ (⟨(rd_T48 l0 x6_1).f0, (rd_T48 l0 x6_1).f1⟩ : S48)); (case aB => exact (by repeat (first | (with_reducible first | exact HB.out | apply below_alloc | apply pw_below_drewN | apply below_drew1) | exact HB.out))); (case aF => exact (fun _ _ => trivial)); (case aO => exact (by (with_reducible repeat (first | apply Kd.R_alloc | apply Kd.R_drewN | apply Kd.R_drew)); exact HO_5.out)); (case aS => exact (below_size (by repeat (first | (with_reducible first | exact HB.out | apply below_alloc | apply pw_below_drewN | apply below_drew1) | exact HB.out)))); (case aL => have := LMc6.out; omega); intro v541 w7 ho hb hg hat; rw [← Ny540.out] at ho; have n0_ := Aside0.mk (hb); have n1_ := Aside0.mk (ho); clear HB; clear HO_5; have HB := n0_; have HO542 := n1_; clear n0_ n1_; clear ho hb hg hat))
              go_roundg k1
              case measure => have := HK1.out; omega
              case rel => exact ⟨(y540), (wrap64 (x6_1 + 1)), (by first | rfl | (simp; done) | (simp [*]; done)), H', ⟨by have := HK1.out; omega⟩, ⟨by (with_reducible repeat (first | apply Kd.R_alloc | apply Kd.R_drewN | apply Kd.R_drew)); exact HO542.out⟩, ⟨by repeat (first | (with_reducible first | exact HB.out | apply below_alloc | apply pw_below_drewN | apply below_drew1) | exact HB.out)⟩⟩
            · rw [if_neg c6] at H
              exact absurd H (by simp)
        · rw [if_neg c4] at H
          exact absurd H (by simp)
      · rw [if_neg c3] at H
        have c3b0 : decide (x6_1 < (l0.length : Int)) = false := decide_eq_false c3
        clear c3
        obtain rfl := Option.some.inj H
        go_wp2
        go_ret
        exact ⟨_, by first | rfl | (simp [errW_none, errW_some] <;> rfl) | (simp [*, errW_none, errW_some] <;> rfl), by (with_reducible repeat (first | apply Kd.R_alloc | apply Kd.R_drewN | apply Kd.R_drew)); exact HO_5.out, by repeat (first | (with_reducible first | exact HB.out | apply below_alloc | apply pw_below_drewN | apply below_drew1) | exact HB.out)⟩
end
end Go.Proofs.Ytjjfeoigjhbbpaa.PA
namespace Go.Proofs.Ytjjfeoigjhbbpaa.PA
section

open Go.RowKit Go.Proofs.YtjjfeoigjhbbpaaW.PrintWords Go.Proofs.YtjjfeoigjhbbpaaW.PrintLast Go.Proofs.YtjjfeoigjhbbpaaW.PrintMore
attribute [local go_sem] pr_leq pr_geq pr_gtr max2_int min2_int max_two min_two max_three min_three max_four min_four
set_option linter.unusedVariables false
set_option linter.unusedSimpArgs false
def cisternref11_DocDrop.j0 : Nat → ByteArray → Bool → Bool → List (S48) → List ByteArray → List Int → Option (Bool × (List (S48)) × List ByteArray × List Int × Int)
  | 0, _, _, _, _, _, _ => none
  | k + 1, x1, x14, x577000, x577001, x577002, x577003 => if x14 = true then (some (false, ([] : List (S48)), ([] : List ByteArray), ([] : List Int), 2)) else ((cisternref11_without.f k x577001 x1).bind fun t579 => (if (t579.length : Int) = (x577001.length : Int) then (some (false, ([] : List (S48)), ([] : List ByteArray), ([] : List Int), 7)) else (some (true, t579, ([] : List ByteArray), ([] : List Int), 0))))
def cisternref11_DocDrop.f (k : Nat) (a0_0 : Bool) (l0_1 : List (S48)) (l0_2 : List ByteArray) (l0_3 : List Int) (a1 : ByteArray) : Option (Bool × (List (S48)) × List ByteArray × List Int × Int) := (cisternref11_Right.f a0_0 l0_1 l0_2 l0_3).bind fun t578 => (if t578 = true then (cisternref11_DocDrop.j0 k a1 (!a0_0) a0_0 l0_1 l0_2 l0_3) else (cisternref11_DocDrop.j0 k a1 true a0_0 l0_1 l0_2 l0_3))
set_option maxHeartbeats 8000000 in
set_option maxRecDepth 100000 in
theorem cisternref11_DocDrop.calls (k : Nat) (a0_0 : Bool) (A0_1 : Option Addr) (c0_1 : Nat) (l0_1 : List (S48)) (A0_2 : Option Addr) (c0_2 : Nat) (l0_2 : List ByteArray) (A0_3 : Option Addr) (c0_3 : Nat) (l0_3 : List Int) (a1 : ByteArray) (r1 : Bool) (r2 : List (S48)) (r3 : List ByteArray) (r4 : List Int) (r5 : Int) (w : World) (hr0_1 : Kd.C k48 w A0_1 l0_1.length l0_1) (hc0_1 : l0_1.length ≤ c0_1) (hr0_2 : Kd.C Kd.string w A0_2 l0_2.length l0_2) (hc0_2 : l0_2.length ≤ c0_2) (hr0_3 : Kd.C (Kd.int .i64) w A0_3 l0_3.length l0_3) (hc0_3 : l0_3.length ≤ c0_3) (h : cisternref11_DocDrop.f k a0_0 l0_1 l0_2 l0_3 a1 = some (r1, r2, r3, r4, r5)) :
    Calls Try.prog 33 #[.agg #[.bool a0_0, .slice A0_1 l0_1.length c0_1, .slice A0_2 l0_2.length c0_2, .slice A0_3 l0_3.length c0_3], .string a1] w fun e w' => ∃ v1_ v2_ v3_ : Value, e = .returned (.tuple #[.agg #[.bool r1, v1_, v2_, v3_], .int .i64 r5]) ∧ Kd.R k48 48 w' w.heap.size (fun _ => True) v1_ r2 ∧ Kd.R Kd.string 9 w' w.heap.size (fun _ => True) v2_ r3 ∧ Kd.R (Kd.int .i64) 3 w' w.heap.size (fun _ => True) v3_ r4 ∧ Below w.heap.size w w' := by
  have hu26 := Try.underlying26
  have HR0_1 := Aside0.mk hr0_1
  have HC0_1 := Aside0.mk hc0_1
  clear hr0_1 hc0_1
  have HR0_2 := Aside0.mk hr0_2
  have HC0_2 := Aside0.mk hc0_2
  clear hr0_2 hc0_2
  have HR0_3 := Aside0.mk hr0_3
  have HC0_3 := Aside0.mk hc0_3
  clear hr0_3 hc0_3
  have HB := Aside0.mk (Below.refl w.heap.size w)
  have H : ((cisternref11_Right.f a0_0 l0_1 l0_2 l0_3).bind fun t578 => (if t578 = true then (cisternref11_DocDrop.j0 k a1 (!a0_0) a0_0 l0_1 l0_2 l0_3) else (cisternref11_DocDrop.j0 k a1 true a0_0 l0_1 l0_2 l0_3))) = some (r1, r2, r3, r4, r5) := h
  clear h
  have HC3 := Aside0.mk H
  clear H
  go_enter Try.func33, Try.ntmps33
  go_upto_region 1 with (first | ((with_reducible refine gate_dst (N := 2) rfl ?_); refine box_event ?hg (N := 2) ?hd (cs := #[.bool a0_0, .slice A0_1 l0_1.length c0_1, .slice A0_2 l0_2.length c0_2, .slice A0_3 l0_3.length c0_3]) (t := 26) ?hr ?_; (case hd => rfl); (case hg => rfl); (case hr => first | (go_simp; done) | (go_simp; rfl)); intro gb576 hg w4 hbox hb; have n0_ := Aside0.mk (below_step (by repeat (first | (with_reducible first | exact HB.out | apply below_alloc | apply pw_below_drewN | apply below_drew1) | exact HB.out)) hb); have n1_ := Aside0.mk (hbox); have n2_ := Aside0.mk ((by rw [hg]; exact (below_size (by repeat (first | (with_reducible first | exact HB.out | apply below_alloc | apply pw_below_drewN | apply below_drew1) | exact HB.out))) : w.heap.size ≤ gb576)); have n3_ := Aside0.mk ((by rw [hg]; exact (below_size (by repeat (first | (with_reducible first | exact HB.out | apply below_alloc | apply pw_below_drewN | apply below_drew1) | exact HB.out))) : w.heap.size ≤ gb576)); clear HB; have HB := n0_; have BK576 := n1_; have GW576 := n2_; have GE576 := n3_; clear n0_ n1_ n2_ n3_; clear hb hbox hg) | ((with_reducible refine gate_dst (N := 4) rfl ?_); refine box_event ?hg (N := 4) ?hd (cs := #[.bool false, .slice none 0 0, .slice none 0 0, .slice none 0 0]) (t := 26) ?hr ?_; (case hd => rfl); (case hg => rfl); (case hr => first | (go_simp; done) | (go_simp; rfl)); intro gb577 hg w5 hbox hb; have n0_ := Aside0.mk (blk_below (g := gb576) (o := .cells #[.bool a0_0, .slice A0_1 l0_1.length c0_1, .slice A0_2 l0_2.length c0_2, .slice A0_3 l0_3.length c0_3] 26 (0, 0)) (by (with_reducible repeat (first | refine blk_drewN ?_ _ | refine blk_drew ?_ | refine blk_alloc ?_ _)); exact BK576.out) hb); have n1_ := Aside0.mk (below_step (by repeat (first | (with_reducible first | exact HB.out | apply below_alloc | apply pw_below_drewN | apply below_drew1 | refine below_set ?_ GE576.out) | exact HB.out)) hb); have n2_ := Aside0.mk (hbox); have n3_ := Aside0.mk ((by rw [hg]; exact (below_size (by repeat (first | (with_reducible first | exact HB.out | apply below_alloc | apply pw_below_drewN | apply below_drew1 | refine below_set ?_ GE576.out) | exact HB.out))) : w.heap.size ≤ gb577)); have n4_ := Aside0.mk ((by rw [hg]; exact (below_size (by repeat (first | (with_reducible first | exact HB.out | apply below_alloc | apply pw_below_drewN | apply below_drew1 | refine below_set ?_ GE576.out) | exact HB.out))) : w.heap.size ≤ gb577)); have n5_ := Aside0.mk ((by rw [hg]; exact Nat.ne_of_lt (blk_lt (g := gb576) (o := .cells #[.bool a0_0, .slice A0_1 l0_1.length c0_1, .slice A0_2 l0_2.length c0_2, .slice A0_3 l0_3.length c0_3] 26 (0, 0)) (by (with_reducible repeat (first | refine blk_drewN ?_ _ | refine blk_drew ?_ | refine blk_alloc ?_ _)); exact BK576.out)) : gb576 ≠ gb577)); have n6_ := Aside0.mk ((by rw [hg]; exact Nat.ne_of_gt (blk_lt (g := gb576) (o := .cells #[.bool a0_0, .slice A0_1 l0_1.length c0_1, .slice A0_2 l0_2.length c0_2, .slice A0_3 l0_3.length c0_3] 26 (0, 0)) (by (with_reducible repeat (first | refine blk_drewN ?_ _ | refine blk_drew ?_ | refine blk_alloc ?_ _)); exact BK576.out)) : gb577 ≠ gb576)); clear BK576; clear HB; have BK576 := n0_; have HB := n1_; have BK577 := n2_; have GW577 := n3_; have GE577 := n4_; have NB576_577 := n5_; have NB577_576 := n6_; clear n0_ n1_ n2_ n3_ n4_ n5_ n6_; clear hb hbox hg))
  (try simp only [Act.put, List.setIfInBounds_toArray, List.set_cons_zero, List.set_cons_succ])
  go_cut [14] (fun v14 wc => ∃ (kq : Nat) (x14_2 : Bool), v14 = .bool x14_2 ∧ Aside0 (cisternref11_DocDrop.j0 kq a1 x14_2 a0_0 l0_1 l0_2 l0_3 = some (r1, r2, r3, r4, r5)) ∧ Aside0 (kq ≤ k) ∧ Aside0 (wc.heap[gb576]? = some (.cells #[.bool a0_0, (.slice A0_1 l0_1.length c0_1), (.slice A0_2 l0_2.length c0_2), (.slice A0_3 l0_3.length c0_3)] 26 (0, 0))) ∧ Aside0 (wc.heap[gb577]? = some (.cells #[.bool false, (.slice none 0 0), (.slice none 0 0), (.slice none 0 0)] 26 (0, 0))) ∧ Aside0 (Below w.heap.size w wc))
  case first =>
    have H := HC3.out
    clear HC3
    replace H := Option.bind_eq_some_iff.mp H
    obtain ⟨t578, A60, H⟩ := H
    replace H : (if t578 = true then (cisternref11_DocDrop.j0 k a1 (!a0_0) a0_0 l0_1 l0_2 l0_3) else (cisternref11_DocDrop.j0 k a1 true a0_0 l0_1 l0_2 l0_3)) = some (r1, r2, r3, r4, r5) := H
    have A6 := Aside0.mk A60
    clear A60
    by_cases c7 : t578 = true
    · subst c7
      have H1 : (cisternref11_DocDrop.j0 k a1 (!a0_0) a0_0 l0_1 l0_2 l0_3) = some (r1, r2, r3, r4, r5) := by rw [if_pos rfl] at H; exact H
      clear H
      have H := H1
      clear H1
      have H' := Aside0.mk H
      clear H
      have hnb8 := NB576_577.out
      have hnc8 := NB577_576.out
      have hcz9_0 : w5.cell? ⟨gb576, 0, none⟩ = some (.bool a0_0) := (blk_cell BK576.out 0).trans rfl
      have hcz9_1 : w5.cell? ⟨gb576, 1, none⟩ = some (.slice A0_1 l0_1.length c0_1) := (blk_cell BK576.out 1).trans rfl
      have hcz9_2 : w5.cell? ⟨gb576, 2, none⟩ = some (.slice A0_2 l0_2.length c0_2) := (blk_cell BK576.out 2).trans rfl
      have hcz9_3 : w5.cell? ⟨gb576, 3, none⟩ = some (.slice A0_3 l0_3.length c0_3) := (blk_cell BK576.out 3).trans rfl
      have hfz9_0 := blk_frozen BK576.out 0
      have hfz9_1 := blk_frozen BK576.out 1
      have hfz9_2 := blk_frozen BK576.out 2
      have hfz9_3 := blk_frozen BK576.out 3
      go_wp2_with (first | ((with_reducible refine gate_callee (f := 26) rfl ?_); refine goesL_ (some 8) rfl rfl Try.func26 (by kernel_rfl) rfl #[.agg #[.bool a0_0, .slice A0_1 l0_1.length c0_1, .slice A0_2 l0_2.length c0_2, .slice A0_3 l0_3.length c0_3]] rfl (by (try simp only [List.map_toArray, List.map_cons, List.map_nil]); first | done | rfl | (simp only [List.length_drop, List.length_take]; rfl)) ?_; (with_reducible refine (cisternref11_Right.calls a0_0 _ _ l0_1 _ _ l0_2 _ _ l0_3 true _ ?side1 ?side2 ?side3 ?side4 ?side5 ?side6 A6.out).mono ?_); (case side1 => repeat (first | exact (Kd.C_below HR0_1.out HB.out) | (with_reducible refine Kd.C_alloc ?_ _) | (with_reducible refine Kd.C_drewN ?_ _) | (with_reducible refine Kd.C_drew ?_))); (case side2 => exact HC0_1.out); (case side3 => repeat (first | exact (Kd.C_below HR0_2.out HB.out) | (with_reducible refine Kd.C_alloc ?_ _) | (with_reducible refine Kd.C_drewN ?_ _) | (with_reducible refine Kd.C_drew ?_))); (case side4 => exact HC0_2.out); (case side5 => repeat (first | exact (Kd.C_below HR0_3.out HB.out) | (with_reducible refine Kd.C_alloc ?_ _) | (with_reducible refine Kd.C_drewN ?_ _) | (with_reducible refine Kd.C_drew ?_))); (case side6 => exact HC0_3.out); rintro e w10 ⟨rfl, hb⟩; refine ⟨_, rfl, ?_⟩; have n0_ := Aside0.mk (blk_below (g := gb576) (o := .cells #[.bool a0_0, .slice A0_1 l0_1.length c0_1, .slice A0_2 l0_2.length c0_2, .slice A0_3 l0_3.length c0_3] 26 (0, 0)) (by (with_reducible repeat (first | refine blk_drewN ?_ _ | refine blk_drew ?_ | refine blk_alloc ?_ _)); exact BK576.out) hb); have n1_ := Aside0.mk (blk_below (g := gb577) (o := .cells #[.bool false, .slice none 0 0, .slice none 0 0, .slice none 0 0] 26 (0, 0)) (by (with_reducible repeat (first | refine blk_drewN ?_ _ | refine blk_drew ?_ | refine blk_alloc ?_ _)); exact BK577.out) hb); have n2_ := Aside0.mk (below_step (by repeat (first | (with_reducible first | exact HB.out | apply below_alloc | apply pw_below_drewN | apply below_drew1 | refine below_set ?_ GE576.out | refine below_set ?_ GE577.out) | exact HB.out)) hb); clear BK576; clear BK577; clear HB; have BK576 := n0_; have BK577 := n1_; have HB := n2_; clear n0_ n1_ n2_; (try clear hb); (try clear hb2); (try clear hk); (try clear hi); have hcz11_0 : w10.cell? ⟨gb576, 0, none⟩ = some (.bool a0_0) := (blk_cell BK576.out 0).trans rfl; have hcz11_1 : w10.cell? ⟨gb576, 1, none⟩ = some (.slice A0_1 l0_1.length c0_1) := (blk_cell BK576.out 1).trans rfl; have hcz11_2 : w10.cell? ⟨gb576, 2, none⟩ = some (.slice A0_2 l0_2.length c0_2) := (blk_cell BK576.out 2).trans rfl; have hcz11_3 : w10.cell? ⟨gb576, 3, none⟩ = some (.slice A0_3 l0_3.length c0_3) := (blk_cell BK576.out 3).trans rfl; have hfz11_0 := blk_frozen BK576.out 0; have hfz11_1 := blk_frozen BK576.out 1; have hfz11_2 := blk_frozen BK576.out 2; have hfz11_3 := blk_frozen BK576.out 3))
      go_meet
      case rel => exact ⟨_, (!a0_0), (by first | rfl | (simp; done) | (simp [*]; done)), H', ⟨by first | omega | exact Nat.le_refl _⟩, ⟨by (with_reducible repeat (first | refine blk_drewN ?_ _ | refine blk_drew ?_ | refine blk_alloc ?_ _)); exact BK576.out⟩, ⟨by (with_reducible repeat (first | refine blk_drewN ?_ _ | refine blk_drew ?_ | refine blk_alloc ?_ _)); exact BK577.out⟩, ⟨by repeat (first | (with_reducible first | exact HB.out | apply below_alloc | apply pw_below_drewN | apply below_drew1 | refine below_set ?_ GE576.out | refine below_set ?_ GE577.out) | exact HB.out)⟩⟩
    · replace c7 := Bool.eq_false_iff.mpr c7
      subst c7
      have H1 : (cisternref11_DocDrop.j0 k a1 true a0_0 l0_1 l0_2 l0_3) = some (r1, r2, r3, r4, r5) := by rw [if_neg (show ¬ (false = true) by decide)] at H; exact H
      clear H
      have H := H1
      clear H1
      have H' := Aside0.mk H
      clear H
      have hnb12 := NB576_577.out
      have hnc12 := NB577_576.out
      have hcz13_0 : w5.cell? ⟨gb576, 0, none⟩ = some (.bool a0_0) := (blk_cell BK576.out 0).trans rfl
      have hcz13_1 : w5.cell? ⟨gb576, 1, none⟩ = some (.slice A0_1 l0_1.length c0_1) := (blk_cell BK576.out 1).trans rfl
      have hcz13_2 : w5.cell? ⟨gb576, 2, none⟩ = some (.slice A0_2 l0_2.length c0_2) := (blk_cell BK576.out 2).trans rfl
      have hcz13_3 : w5.cell? ⟨gb576, 3, none⟩ = some (.slice A0_3 l0_3.length c0_3) := (blk_cell BK576.out 3).trans rfl
      have hfz13_0 := blk_frozen BK576.out 0
      have hfz13_1 := blk_frozen BK576.out 1
      have hfz13_2 := blk_frozen BK576.out 2
      have hfz13_3 := blk_frozen BK576.out 3
      go_wp2_with (first | ((with_reducible refine gate_callee (f := 26) rfl ?_); refine goesL_ (some 8) rfl rfl Try.func26 (by kernel_rfl) rfl #[.agg #[.bool a0_0, .slice A0_1 l0_1.length c0_1, .slice A0_2 l0_2.length c0_2, .slice A0_3 l0_3.length c0_3]] rfl (by (try simp only [List.map_toArray, List.map_cons, List.map_nil]); first | done | rfl | (simp only [List.length_drop, List.length_take]; rfl)) ?_; (with_reducible refine (cisternref11_Right.calls a0_0 _ _ l0_1 _ _ l0_2 _ _ l0_3 false _ ?side1 ?side2 ?side3 ?side4 ?side5 ?side6 A6.out).mono ?_); (case side1 => repeat (first | exact (Kd.C_below HR0_1.out HB.out) | (with_reducible refine Kd.C_alloc ?_ _) | (with_reducible refine Kd.C_drewN ?_ _) | (with_reducible refine Kd.C_drew ?_))); (case side2 => exact HC0_1.out); (case side3 => repeat (first | exact (Kd.C_below HR0_2.out HB.out) | (with_reducible refine Kd.C_alloc ?_ _) | (with_reducible refine Kd.C_drewN ?_ _) | (with_reducible refine Kd.C_drew ?_))); (case side4 => exact HC0_2.out); (case side5 => repeat (first | exact (Kd.C_below HR0_3.out HB.out) | (with_reducible refine Kd.C_alloc ?_ _) | (with_reducible refine Kd.C_drewN ?_ _) | (with_reducible refine Kd.C_drew ?_))); (case side6 => exact HC0_3.out); rintro e w14 ⟨rfl, hb⟩; refine ⟨_, rfl, ?_⟩; have n0_ := Aside0.mk (blk_below (g := gb576) (o := .cells #[.bool a0_0, .slice A0_1 l0_1.length c0_1, .slice A0_2 l0_2.length c0_2, .slice A0_3 l0_3.length c0_3] 26 (0, 0)) (by (with_reducible repeat (first | refine blk_drewN ?_ _ | refine blk_drew ?_ | refine blk_alloc ?_ _)); exact BK576.out) hb); have n1_ := Aside0.mk (blk_below (g := gb577) (o := .cells #[.bool false, .slice none 0 0, .slice none 0 0, .slice none 0 0] 26 (0, 0)) (by (with_reducible repeat (first | refine blk_drewN ?_ _ | refine blk_drew ?_ | refine blk_alloc ?_ _)); exact BK577.out) hb); have n2_ := Aside0.mk (below_step (by repeat (first | (with_reducible first | exact HB.out | apply below_alloc | apply pw_below_drewN | apply below_drew1 | refine below_set ?_ GE576.out | refine below_set ?_ GE577.out) | exact HB.out)) hb); clear BK576; clear BK577; clear HB; have BK576 := n0_; have BK577 := n1_; have HB := n2_; clear n0_ n1_ n2_; (try clear hb); (try clear hb2); (try clear hk); (try clear hi)))
      go_meet
      case rel => exact ⟨_, (true), (by first | rfl | (simp; done) | (simp [*]; done)), H', ⟨by first | omega | exact Nat.le_refl _⟩, ⟨by (with_reducible repeat (first | refine blk_drewN ?_ _ | refine blk_drew ?_ | refine blk_alloc ?_ _)); exact BK576.out⟩, ⟨by (with_reducible repeat (first | refine blk_drewN ?_ _ | refine blk_drew ?_ | refine blk_alloc ?_ _)); exact BK577.out⟩, ⟨by repeat (first | (with_reducible first | exact HB.out | apply below_alloc | apply pw_below_drewN | apply below_drew1 | refine below_set ?_ GE576.out | refine below_set ?_ GE577.out) | exact HB.out)⟩⟩
  case rest =>
    clear HC3
    try clear c1
    try clear c2
    try clear p2
    try clear c3
    try clear c7
    try clear c8
    try clear c12
    try clear hcz11_0
    try clear hcz11_1
    try clear hcz11_2
    try clear hcz11_3
    try clear hcz13_0
    try clear hcz13_1
    try clear hcz13_2
    try clear hcz13_3
    try clear hcz9_0
    try clear hcz9_1
    try clear hcz9_2
    try clear hcz9_3
    try clear hfz11_0
    try clear hfz11_1
    try clear hfz11_2
    try clear hfz11_3
    try clear hfz13_0
    try clear hfz13_1
    try clear hfz13_2
    try clear hfz13_3
    try clear hfz9_0
    try clear hfz9_1
    try clear hfz9_2
    try clear hfz9_3
    obtain ⟨kq, x14_2, rfl, HA, HJ2, BK576, BK577, HB⟩ := hcut
    cases kq with
    | zero => exact absurd HA.out (by simp [cisternref11_DocDrop.j0])
    | succ kj2 =>
      have H := HA.out
      clear HA
      simp only [cisternref11_DocDrop.j0] at H
      by_cases c15 : x14_2 = true
      · subst c15
        have H1 : (some (false, ([] : List (S48)), ([] : List ByteArray), ([] : List Int), 2)) = some (r1, r2, r3, r4, r5) := by rw [if_pos rfl] at H; exact H
        clear H
        have H := H1
        clear H1
        simp only [Option.some.injEq, Prod.mk.injEq] at H
        obtain ⟨rfl, rfl, rfl, rfl, rfl⟩ := H
        have hnb16 := NB577_576.out
        have hnc16 := NB576_577.out
        have hcz17_0 : wc.cell? ⟨gb577, 0, none⟩ = some (.bool false) := (blk_cell BK577.out 0).trans rfl
        have hcz17_1 : wc.cell? ⟨gb577, 1, none⟩ = some (.slice none 0 0) := (blk_cell BK577.out 1).trans rfl
        have hcz17_2 : wc.cell? ⟨gb577, 2, none⟩ = some (.slice none 0 0) := (blk_cell BK577.out 2).trans rfl
        have hcz17_3 : wc.cell? ⟨gb577, 3, none⟩ = some (.slice none 0 0) := (blk_cell BK577.out 3).trans rfl
        have hfz17_0 := blk_frozen BK577.out 0
        have hfz17_1 := blk_frozen BK577.out 1
        have hfz17_2 := blk_frozen BK577.out 2
        have hfz17_3 := blk_frozen BK577.out 3
        go_wp2
        refine bodyPost_ret (results_ct rfl _ _ gb577 26 #[.bool false, .slice none 0 0, .slice none 0 0, .slice none 0 0] (0, 0) _ rfl (by (with_reducible repeat (first | refine blk_drewN ?_ _ | refine blk_drew ?_ | refine blk_alloc ?_ _)); refine blk_put (cs := #[.bool false, .slice none 0 0, .slice none 0 0, .slice none 0 0]) ?_ 3 _ rfl; (with_reducible repeat (first | refine blk_drewN ?_ _ | refine blk_drew ?_ | refine blk_alloc ?_ _)); refine blk_put (cs := #[.bool false, .slice none 0 0, .slice none 0 0, .slice none 0 0]) ?_ 2 _ rfl; (with_reducible repeat (first | refine blk_drewN ?_ _ | refine blk_drew ?_ | refine blk_alloc ?_ _)); refine blk_put (cs := #[.bool false, .slice none 0 0, .slice none 0 0, .slice none 0 0]) ?_ 1 _ rfl; (with_reducible repeat (first | refine blk_drewN ?_ _ | refine blk_drew ?_ | refine blk_alloc ?_ _)); refine blk_put (cs := #[.bool false, .slice none 0 0, .slice none 0 0, .slice none 0 0]) ?_ 0 _ rfl; (with_reducible repeat (first | refine blk_drewN ?_ _ | refine blk_drew ?_ | refine blk_alloc ?_ _)); exact BK577.out) Try.underlying26 rfl (by kernel_rfl)) rfl ?_
        exact ⟨_, _, _, by first | rfl | (simp [errW_none, errW_some] <;> rfl) | (simp [*, errW_none, errW_some] <;> rfl), by first | exact Kd.R_nil _ _ _ _ _ | exact Kd.N_nil _ _ _ _ _ | exact Kd.V_nil _ _ _ _ _ | exact Kd.Q_nil _ _ _ _ _ | exact Kd.S_nil _ _ _ _ _, by first | exact Kd.R_nil _ _ _ _ _ | exact Kd.N_nil _ _ _ _ _ | exact Kd.V_nil _ _ _ _ _ | exact Kd.Q_nil _ _ _ _ _ | exact Kd.S_nil _ _ _ _ _, by first | exact Kd.R_nil _ _ _ _ _ | exact Kd.N_nil _ _ _ _ _ | exact Kd.V_nil _ _ _ _ _ | exact Kd.Q_nil _ _ _ _ _ | exact Kd.S_nil _ _ _ _ _, by repeat (first | (with_reducible first | exact HB.out | apply below_alloc | apply pw_below_drewN | apply below_drew1 | refine below_set ?_ GE576.out | refine below_set ?_ GE577.out) | exact HB.out)⟩
      · replace c15 := Bool.eq_false_iff.mpr c15
        subst c15
        have H1 : ((cisternref11_without.f kj2 l0_1 a1).bind fun t579 => (if (t579.length : Int) = (l0_1.length : Int) then (some (false, ([] : List (S48)), ([] : List ByteArray), ([] : List Int), 7)) else (some (true, t579, ([] : List ByteArray), ([] : List Int), 0)))) = some (r1, r2, r3, r4, r5) := by rw [if_neg (show ¬ (false = true) by decide)] at H; exact H
        clear H
        have H := H1
        clear H1
        replace H := Option.bind_eq_some_iff.mp H
        obtain ⟨t579, A180, H⟩ := H
        replace H : (if (t579.length : Int) = (l0_1.length : Int) then (some (false, ([] : List (S48)), ([] : List ByteArray), ([] : List Int), 7)) else (some (true, t579, ([] : List ByteArray), ([] : List Int), 0))) = some (r1, r2, r3, r4, r5) := H
        have A18 := Aside0.mk A180
        clear A180
        by_cases c19 : (t579.length : Int) = (l0_1.length : Int)
        · rw [if_pos c19] at H
          have c19b0 : ((t579.length : Int) == (l0_1.length : Int)) = true := beq_iff_eq.mpr c19
          have c19b1 : ((t579.length : Int) != (l0_1.length : Int)) = false := bne_eq_false_iff_eq.mpr c19
          have c19b2 : (t579.length == l0_1.length) = true := by first | simpa using c19 | (simp at c19 ⊢; omega)
          clear c19
          simp only [Option.some.injEq, Prod.mk.injEq] at H
          obtain ⟨rfl, rfl, rfl, rfl, rfl⟩ := H
          have hnb20 := NB576_577.out
          have hnc20 := NB577_576.out
          have hcz21_0 : wc.cell? ⟨gb576, 0, none⟩ = some (.bool a0_0) := (blk_cell BK576.out 0).trans rfl
          have hcz21_1 : wc.cell? ⟨gb576, 1, none⟩ = some (.slice A0_1 l0_1.length c0_1) := (blk_cell BK576.out 1).trans rfl
          have hcz21_2 : wc.cell? ⟨gb576, 2, none⟩ = some (.slice A0_2 l0_2.length c0_2) := (blk_cell BK576.out 2).trans rfl
          have hcz21_3 : wc.cell? ⟨gb576, 3, none⟩ = some (.slice A0_3 l0_3.length c0_3) := (blk_cell BK576.out 3).trans rfl
          have hfz21_0 := blk_frozen BK576.out 0
          have hfz21_1 := blk_frozen BK576.out 1
          have hfz21_2 := blk_frozen BK576.out 2
          have hfz21_3 := blk_frozen BK576.out 3
          go_wp2_with (first | ((with_reducible refine gate_callee (f := 56) rfl ?_); refine goesL_ (some 19) rfl rfl Try.func56 (by kernel_rfl) rfl #[.slice A0_1 l0_1.length c0_1, .string a1] rfl (by (try simp only [List.map_toArray, List.map_cons, List.map_nil]); first | done | rfl | (simp only [List.length_drop, List.length_take]; rfl)) ?_; (with_reducible refine (cisternref11_without.calls kj2 _ _ l0_1 a1 t579 _ ?side1 ?side2 A18.out).mono ?_); (case side1 => repeat (first | exact (Kd.C_below HR0_1.out HB.out) | (with_reducible refine Kd.C_alloc ?_ _) | (with_reducible refine Kd.C_drewN ?_ _) | (with_reducible refine Kd.C_drew ?_))); (case side2 => exact HC0_1.out); rintro e w22 ⟨v580, rfl, ho0, hb⟩; refine ⟨_, rfl, ?_⟩; have n0_ := Aside0.mk (Kd.R_lower ho0 (below_size (by repeat (first | (with_reducible first | exact HB.out | apply below_alloc | apply pw_below_drewN | apply below_drew1 | refine below_set ?_ GE576.out | refine below_set ?_ GE577.out) | exact HB.out)))); have n1_ := Aside0.mk (blk_below (g := gb576) (o := .cells #[.bool a0_0, .slice A0_1 l0_1.length c0_1, .slice A0_2 l0_2.length c0_2, .slice A0_3 l0_3.length c0_3] 26 (0, 0)) (by (with_reducible repeat (first | refine blk_drewN ?_ _ | refine blk_drew ?_ | refine blk_alloc ?_ _)); exact BK576.out) hb); have n2_ := Aside0.mk (blk_below (g := gb577) (o := .cells #[.bool false, .slice none 0 0, .slice none 0 0, .slice none 0 0] 26 (0, 0)) (by (with_reducible repeat (first | refine blk_drewN ?_ _ | refine blk_drew ?_ | refine blk_alloc ?_ _)); exact BK577.out) hb); have n3_ := Aside0.mk (below_step (by repeat (first | (with_reducible first | exact HB.out | apply below_alloc | apply pw_below_drewN | apply below_drew1 | refine below_set ?_ GE576.out | refine below_set ?_ GE577.out) | exact HB.out)) hb); clear BK576; clear BK577; clear HB; have HO581 := n0_; have BK576 := n1_; have BK577 := n2_; have HB := n3_; clear n0_ n1_ n2_ n3_; (try clear hb); (try clear hb2); (try clear hk); (try clear hi); (try clear ho0); obtain ⟨Ao23, co23, eo23⟩ := Kd.R_slice HO581.out; subst eo23; have hcz24_0 : w22.cell? ⟨gb576, 0, none⟩ = some (.bool a0_0) := (blk_cell BK576.out 0).trans rfl; have hcz24_1 : w22.cell? ⟨gb576, 1, none⟩ = some (.slice A0_1 l0_1.length c0_1) := (blk_cell BK576.out 1).trans rfl; have hcz24_2 : w22.cell? ⟨gb576, 2, none⟩ = some (.slice A0_2 l0_2.length c0_2) := (blk_cell BK576.out 2).trans rfl; have hcz24_3 : w22.cell? ⟨gb576, 3, none⟩ = some (.slice A0_3 l0_3.length c0_3) := (blk_cell BK576.out 3).trans rfl; have hfz24_0 := blk_frozen BK576.out 0; have hfz24_1 := blk_frozen BK576.out 1; have hfz24_2 := blk_frozen BK576.out 2; have hfz24_3 := blk_frozen BK576.out 3; have hcz25_0 : w22.cell? ⟨gb577, 0, none⟩ = some (.bool false) := (blk_cell BK577.out 0).trans rfl; have hcz25_1 : w22.cell? ⟨gb577, 1, none⟩ = some (.slice none 0 0) := (blk_cell BK577.out 1).trans rfl; have hcz25_2 : w22.cell? ⟨gb577, 2, none⟩ = some (.slice none 0 0) := (blk_cell BK577.out 2).trans rfl; have hcz25_3 : w22.cell? ⟨gb577, 3, none⟩ = some (.slice none 0 0) := (blk_cell BK577.out 3).trans rfl; have hfz25_0 := blk_frozen BK577.out 0; have hfz25_1 := blk_frozen BK577.out 1; have hfz25_2 := blk_frozen BK577.out 2; have hfz25_3 := blk_frozen BK577.out 3))
          refine bodyPost_ret (results_ct rfl _ _ gb577 26 #[.bool false, .slice none 0 0, .slice none 0 0, .slice none 0 0] (0, 0) _ rfl (by (with_reducible repeat (first | refine blk_drewN ?_ _ | refine blk_drew ?_ | refine blk_alloc ?_ _)); refine blk_put (cs := #[.bool false, .slice none 0 0, .slice none 0 0, .slice none 0 0]) ?_ 3 _ rfl; (with_reducible repeat (first | refine blk_drewN ?_ _ | refine blk_drew ?_ | refine blk_alloc ?_ _)); refine blk_put (cs := #[.bool false, .slice none 0 0, .slice none 0 0, .slice none 0 0]) ?_ 2 _ rfl; (with_reducible repeat (first | refine blk_drewN ?_ _ | refine blk_drew ?_ | refine blk_alloc ?_ _)); refine blk_put (cs := #[.bool false, .slice none 0 0, .slice none 0 0, .slice none 0 0]) ?_ 1 _ rfl; (with_reducible repeat (first | refine blk_drewN ?_ _ | refine blk_drew ?_ | refine blk_alloc ?_ _)); refine blk_put (cs := #[.bool false, .slice none 0 0, .slice none 0 0, .slice none 0 0]) ?_ 0 _ rfl; (with_reducible repeat (first | refine blk_drewN ?_ _ | refine blk_drew ?_ | refine blk_alloc ?_ _)); exact BK577.out) Try.underlying26 rfl (by kernel_rfl)) rfl ?_
          exact ⟨_, _, _, by first | rfl | (simp [errW_none, errW_some] <;> rfl) | (simp [*, errW_none, errW_some] <;> rfl), by first | exact Kd.R_nil _ _ _ _ _ | exact Kd.N_nil _ _ _ _ _ | exact Kd.V_nil _ _ _ _ _ | exact Kd.Q_nil _ _ _ _ _ | exact Kd.S_nil _ _ _ _ _, by first | exact Kd.R_nil _ _ _ _ _ | exact Kd.N_nil _ _ _ _ _ | exact Kd.V_nil _ _ _ _ _ | exact Kd.Q_nil _ _ _ _ _ | exact Kd.S_nil _ _ _ _ _, by first | exact Kd.R_nil _ _ _ _ _ | exact Kd.N_nil _ _ _ _ _ | exact Kd.V_nil _ _ _ _ _ | exact Kd.Q_nil _ _ _ _ _ | exact Kd.S_nil _ _ _ _ _, by repeat (first | (with_reducible first | exact HB.out | apply below_alloc | apply pw_below_drewN | apply below_drew1 | refine below_set ?_ GE576.out | refine below_set ?_ GE577.out) | exact HB.out)⟩
        · rw [if_neg c19] at H
          have c19b0 : ((t579.length : Int) == (l0_1.length : Int)) = false := beq_eq_false_iff_ne.mpr c19
          have c19b1 : ((t579.length : Int) != (l0_1.length : Int)) = true := bne_iff_ne.mpr c19
          have c19b2 : (t579.length == l0_1.length) = false := by first | simpa using c19 | (simp at c19 ⊢; omega)
          simp only [Option.some.injEq, Prod.mk.injEq] at H
          obtain ⟨rfl, rfl, rfl, rfl, rfl⟩ := H
          have hnb26 := NB576_577.out
          have hnc26 := NB577_576.out
          have hcz27_0 : wc.cell? ⟨gb576, 0, none⟩ = some (.bool a0_0) := (blk_cell BK576.out 0).trans rfl
          have hcz27_1 : wc.cell? ⟨gb576, 1, none⟩ = some (.slice A0_1 l0_1.length c0_1) := (blk_cell BK576.out 1).trans rfl
          have hcz27_2 : wc.cell? ⟨gb576, 2, none⟩ = some (.slice A0_2 l0_2.length c0_2) := (blk_cell BK576.out 2).trans rfl
          have hcz27_3 : wc.cell? ⟨gb576, 3, none⟩ = some (.slice A0_3 l0_3.length c0_3) := (blk_cell BK576.out 3).trans rfl
          have hfz27_0 := blk_frozen BK576.out 0
          have hfz27_1 := blk_frozen BK576.out 1
          have hfz27_2 := blk_frozen BK576.out 2
          have hfz27_3 := blk_frozen BK576.out 3
          go_wp2_with (first | ((with_reducible refine gate_callee (f := 56) rfl ?_); refine goesL_ (some 19) rfl rfl Try.func56 (by kernel_rfl) rfl #[.slice A0_1 l0_1.length c0_1, .string a1] rfl (by (try simp only [List.map_toArray, List.map_cons, List.map_nil]); first | done | rfl | (simp only [List.length_drop, List.length_take]; rfl)) ?_; (with_reducible refine (cisternref11_without.calls kj2 _ _ l0_1 a1 t579 _ ?side1 ?side2 A18.out).mono ?_); (case side1 => repeat (first | exact (Kd.C_below HR0_1.out HB.out) | (with_reducible refine Kd.C_alloc ?_ _) | (with_reducible refine Kd.C_drewN ?_ _) | (with_reducible refine Kd.C_drew ?_))); (case side2 => exact HC0_1.out); rintro e w28 ⟨v580, rfl, ho0, hb⟩; refine ⟨_, rfl, ?_⟩; have n0_ := Aside0.mk (Kd.R_lower ho0 (below_size (by repeat (first | (with_reducible first | exact HB.out | apply below_alloc | apply pw_below_drewN | apply below_drew1 | refine below_set ?_ GE576.out | refine below_set ?_ GE577.out) | exact HB.out)))); have n1_ := Aside0.mk (blk_below (g := gb576) (o := .cells #[.bool a0_0, .slice A0_1 l0_1.length c0_1, .slice A0_2 l0_2.length c0_2, .slice A0_3 l0_3.length c0_3] 26 (0, 0)) (by (with_reducible repeat (first | refine blk_drewN ?_ _ | refine blk_drew ?_ | refine blk_alloc ?_ _)); exact BK576.out) hb); have n2_ := Aside0.mk (blk_below (g := gb577) (o := .cells #[.bool false, .slice none 0 0, .slice none 0 0, .slice none 0 0] 26 (0, 0)) (by (with_reducible repeat (first | refine blk_drewN ?_ _ | refine blk_drew ?_ | refine blk_alloc ?_ _)); exact BK577.out) hb); have n3_ := Aside0.mk (below_step (by repeat (first | (with_reducible first | exact HB.out | apply below_alloc | apply pw_below_drewN | apply below_drew1 | refine below_set ?_ GE576.out | refine below_set ?_ GE577.out) | exact HB.out)) hb); clear BK576; clear BK577; clear HB; have HO581 := n0_; have BK576 := n1_; have BK577 := n2_; have HB := n3_; clear n0_ n1_ n2_ n3_; (try clear hb); (try clear hb2); (try clear hk); (try clear hi); (try clear ho0); obtain ⟨Ao29, co29, eo29⟩ := Kd.R_slice HO581.out; subst eo29; have hcz30_0 : w28.cell? ⟨gb576, 0, none⟩ = some (.bool a0_0) := (blk_cell BK576.out 0).trans rfl; have hcz30_1 : w28.cell? ⟨gb576, 1, none⟩ = some (.slice A0_1 l0_1.length c0_1) := (blk_cell BK576.out 1).trans rfl; have hcz30_2 : w28.cell? ⟨gb576, 2, none⟩ = some (.slice A0_2 l0_2.length c0_2) := (blk_cell BK576.out 2).trans rfl; have hcz30_3 : w28.cell? ⟨gb576, 3, none⟩ = some (.slice A0_3 l0_3.length c0_3) := (blk_cell BK576.out 3).trans rfl; have hfz30_0 := blk_frozen BK576.out 0; have hfz30_1 := blk_frozen BK576.out 1; have hfz30_2 := blk_frozen BK576.out 2; have hfz30_3 := blk_frozen BK576.out 3; have hcz31_0 : w28.cell? ⟨gb577, 0, none⟩ = some (.bool false) := (blk_cell BK577.out 0).trans rfl; have hcz31_1 : w28.cell? ⟨gb577, 1, none⟩ = some (.slice none 0 0) := (blk_cell BK577.out 1).trans rfl; have hcz31_2 : w28.cell? ⟨gb577, 2, none⟩ = some (.slice none 0 0) := (blk_cell BK577.out 2).trans rfl; have hcz31_3 : w28.cell? ⟨gb577, 3, none⟩ = some (.slice none 0 0) := (blk_cell BK577.out 3).trans rfl; have hfz31_0 := blk_frozen BK577.out 0; have hfz31_1 := blk_frozen BK577.out 1; have hfz31_2 := blk_frozen BK577.out 2; have hfz31_3 := blk_frozen BK577.out 3))
          refine bodyPost_ret (results_ct rfl _ _ gb577 26 #[.bool true, .slice Ao29 t579.length co29, .slice none 0 0, .slice none 0 0] (0, 0) _ rfl (by (with_reducible repeat (first | refine blk_drewN ?_ _ | refine blk_drew ?_ | refine blk_alloc ?_ _)); refine blk_put (cs := #[.bool true, .slice Ao29 t579.length co29, .slice none 0 0, .slice none 0 0]) ?_ 3 _ rfl; (with_reducible repeat (first | refine blk_drewN ?_ _ | refine blk_drew ?_ | refine blk_alloc ?_ _)); refine blk_put (cs := #[.bool true, .slice Ao29 t579.length co29, .slice none 0 0, .slice none 0 0]) ?_ 2 _ rfl; (with_reducible repeat (first | refine blk_drewN ?_ _ | refine blk_drew ?_ | refine blk_alloc ?_ _)); refine blk_put (cs := #[.bool true, .slice none 0 0, .slice none 0 0, .slice none 0 0]) ?_ 1 _ rfl; (with_reducible repeat (first | refine blk_drewN ?_ _ | refine blk_drew ?_ | refine blk_alloc ?_ _)); refine blk_put (cs := #[.bool false, .slice none 0 0, .slice none 0 0, .slice none 0 0]) ?_ 0 _ rfl; (with_reducible repeat (first | refine blk_drewN ?_ _ | refine blk_drew ?_ | refine blk_alloc ?_ _)); exact BK577.out) Try.underlying26 rfl (by kernel_rfl)) rfl ?_
          exact ⟨_, _, _, by first | rfl | (simp [errW_none, errW_some] <;> rfl) | (simp [*, errW_none, errW_some] <;> rfl), by (with_reducible repeat (first | apply Kd.R_alloc | apply Kd.R_drewN | apply Kd.R_drew)); exact Kd.R_mono (Kd.R_far (p := ⟨gb577, 3, none⟩) (Kd.R_far (p := ⟨gb577, 2, none⟩) (Kd.R_far (p := ⟨gb577, 1, none⟩) (Kd.R_far (p := ⟨gb577, 0, none⟩) (Kd.R_types HO581.out BK577.out (by decide)) (fun _ hk => hk.2) (.bool true)) (fun _ hk => hk.2) (.slice Ao29 t579.length co29)) (fun _ hk => hk.2) (.slice none 0 0)) (fun _ hk => hk.2) (.slice none 0 0)) (fun _ hk => trivial), by first | exact Kd.R_nil _ _ _ _ _ | exact Kd.N_nil _ _ _ _ _ | exact Kd.V_nil _ _ _ _ _ | exact Kd.Q_nil _ _ _ _ _ | exact Kd.S_nil _ _ _ _ _, by first | exact Kd.R_nil _ _ _ _ _ | exact Kd.N_nil _ _ _ _ _ | exact Kd.V_nil _ _ _ _ _ | exact Kd.Q_nil _ _ _ _ _ | exact Kd.S_nil _ _ _ _ _, by repeat (first | (with_reducible first | exact HB.out | apply below_alloc | apply pw_below_drewN | apply below_drew1 | refine below_set ?_ GE576.out | refine below_set ?_ GE577.out) | exact HB.out)⟩

-- NOT PRINTED: function 9 (cisternlaw11_NodeEdits)
end
end Go.Proofs.Ytjjfeoigjhbbpaa.PA
