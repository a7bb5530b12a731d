/- Texts of this claim: contracts of the functions that the statement reaches, and plain laws of what they compute. -/
import Derived.Test.YtmkkeccmjejfnaaDoorQBack3
set_option linter.unusedVariables false
set_option linter.unusedSimpArgs false
namespace Go.Proofs.YtmkkeccmjejfnaaDoor.PA
section

open Go.RowKit Go.Proofs.YtmkkeccmjejfnaaDoorW.PrintWords Go.Proofs.YtmkkeccmjejfnaaDoorW.PrintLast Go.Proofs.YtmkkeccmjejfnaaDoorW.PrintMore
attribute [local go_sem] pr_leq pr_geq pr_gtr max2_int min2_int max_two min_two max_three min_three max_four min_four
set_option linter.unusedVariables false
set_option linter.unusedSimpArgs false
mutual
def record_EncodePairs.j1 : Nat → Int → List (S65) → Int → Option (List Int × Int)
  | 0, _, _, _ => none
  | k + 1, x0, x1, x6 => if (x1.length : Int) > 1900 then (record_EncodePairs.j2 k x0 x1 true) else (record_EncodePairs.j2 k x0 x1 (decide (x6 > 60000)))
def record_EncodePairs.j2 : Nat → Int → List (S65) → Bool → Option (List Int × Int)
  | 0, _, _, _ => none
  | k + 1, x0, x1, x33 => if x33 = true then (some (([] : List Int), 14)) else (if x0 < 0 then (some (([] : List Int), 2)) else ((record_fit.f k x1).bind fun t390 => (if t390 = true then ((record_numbers.f k (([4, x0] : List Int))).bind fun t394 => (record_EncodePairs.l1 k t394 x1 (x1.length : Int) 0)) else (some (([] : List Int), 2)))))
def record_EncodePairs.l1 : Nat → List (S77) → List (S65) → Int → Int → Option (List Int × Int)
  | 0, _, _, _, _ => none
  | k + 1, x9, x52, x53, x54 => if x54 < x53 then (if 0 ≤ x54 then (if x54 < (x52.length : Int) then ((record_text.f ((rd_T65 x52 x54).f0)).bind fun bt399 => ((record_text.f ((rd_T65 x52 x54).f1)).bind fun bt402 => ((some (([(⟨bt399.1, bt399.2.1, bt399.2.2⟩ : S77), (⟨bt402.1, bt402.2.1, bt402.2.2⟩ : S77)] : List (S77)) : List (S77))).bind fun y405 => (if x9.length + y405.length < 4398046511104 then (record_EncodePairs.l1 k (x9 ++ y405) x52 x53 (wrap64 (x54 + 1))) else (none))))) else (none)) else (none)) else ((pack_Encode.f x9).bind fun bt411 => (if bt411.2 = 0 then ((pack_Seal.f k bt411.1).bind fun t415 => (some (t415, 0))) else (some (([] : List Int), bt411.2))))
def record_EncodePairs.l0 : Nat → Int → List (S65) → Int → List (S65) → Int → Int → Option (List Int × Int)
  | 0, _, _, _, _, _, _ => none
  | k + 1, x0, x1, x6, x14, x15, x16 => if x16 < x15 then (if 0 ≤ x16 then (if x16 < (x14.length : Int) then (if x6 > 60000 then (record_EncodePairs.j1 k x0 x1 x6) else (record_EncodePairs.l0 k x0 x1 (wrap64 (x6 + (wrap64 ((wrap64 (6 + (((rd_T65 x14 x16).f0).size : Int))) + (((rd_T65 x14 x16).f1).size : Int))))) x14 x15 (wrap64 (x16 + 1)))) else (none)) else (none)) else (record_EncodePairs.j1 k x0 x1 x6)
end
def record_EncodePairs.f (k : Nat) (a0 : Int) (l1 : List (S65)) : Option (List Int × Int) := record_EncodePairs.l0 k a0 l1 22 l1 (l1.length : Int) 0
def record_EncodePairs.T16 : Bool × List (List Nat × List Nat) := (true, [([], []), ([], []), ([1], [1]), ([2], [2]), ([], []), ([4], [4]), ([5, 3], [5]), ([3, 6], [3, 6]), ([0, 7, 6], [0, 7]), ([8, 8, 0, 1, 2, 3, 4, 5, 6, 7, 8], [0, 8])])
def record_EncodePairs.B16 : List Nat := [0, 0, 2, 6, 0, 16, 62, 126, 255, 511]
theorem record_EncodePairs.tab16 : rtab .any (opsOf Tryd.f24 16) = record_EncodePairs.T16 := by kernel_rfl
theorem record_EncodePairs.bits16 : waitsOk record_EncodePairs.T16.2 record_EncodePairs.B16 = true := by kernel_rfl
set_option maxHeartbeats 8000000 in
set_option maxRecDepth 100000 in
theorem record_EncodePairs.calls (k : Nat) (a0 : Int) (A1 : Option Addr) (c1 : Nat) (l1 : List (S65)) (r1 : List Int) (r2 : Int) (w : World) (hr1 : Kd.C k65 w A1 l1.length l1) (hc1 : l1.length ≤ c1) (h : record_EncodePairs.f k a0 l1 = some (r1, r2)) :
    Calls Tryd.prog 24 #[.int .i64 a0, .slice A1 l1.length c1] w fun e w' => ∃ v0_ : Value, e = .returned (.tuple #[v0_, .int .i64 r2]) ∧ Kd.R (Kd.int .u8) 5 w' w.heap.size (fun _ => True) v0_ r1 ∧ Below w.heap.size w w' := by
  have hu65 := Tryd.underlying65
  have HR1 := Aside0.mk hr1
  have HC1 := Aside0.mk hc1
  clear hr1 hc1
  have HB := Aside0.mk (Below.refl w.heap.size w)
  have H : (record_EncodePairs.l0 k a0 l1 22 l1 (l1.length : Int) 0) = some (r1, r2) := h
  clear h
  have HC3 := Aside0.mk H
  clear H
  go_enter Tryd.func24, Tryd.ntmps24
  go_upto_block 0 with (fail)
  go_cut [6] (fun v6 wc => ∃ (kq : Nat) (x6_2 : Int), v6 = .int .i64 x6_2 ∧ Aside0 (record_EncodePairs.j1 kq a0 l1 x6_2 = some (r1, r2)) ∧ Aside0 (kq ≤ k) ∧ Aside0 (Below w.heap.size w wc))
  case first =>
    have H := HC3.out
    clear HC3
    have H' := Aside0.mk H
    clear H
    go_wp2
    go_loopg [6, 16] k (fun kq v6 v16 w' => ∃ (x6_1 : Int) (x16_1 : Int), v6 = .int .i64 x6_1 ∧ v16 = .int .i64 x16_1 ∧ Aside0 (record_EncodePairs.l0 kq a0 l1 x6_1 l1 (l1.length : Int) x16_1 = some (r1, r2)) ∧ Aside0 (kq ≤ k) ∧ Aside0 (Below w.heap.size w w'))
    case atStart => exact ⟨(22), (0), (by first | rfl | (simp; done) | (simp [*]; done)), (by first | rfl | (simp; done) | (simp [*]; done)), H', ⟨Nat.le_refl _⟩, ⟨by repeat (first | (with_reducible first | exact HB.out | apply below_alloc | apply pw_below_drewN | apply below_drew1) | exact HB.out)⟩⟩
    case round =>
      clear H'
      try clear c1
      try clear c2
      try clear p2
      obtain ⟨x6_1, x16_1, rfl, rfl, HA, HK1, HB⟩ := hrel
      cases gk with
      | zero => exact absurd HA.out (by simp [record_EncodePairs.l0])
      | succ k1 =>
        have H := HA.out
        clear HA
        simp only [record_EncodePairs.l0] at H
        by_cases c4 : x16_1 < (l1.length : Int)
        · rw [if_pos c4] at H
          have c4b0 : decide (x16_1 < (l1.length : Int)) = true := decide_eq_true c4
          clear c4
          (first | rw [c4b0] | (simp only [i64_w, i32_w]; rw [c4b0]) | skip)
          by_cases c5 : 0 ≤ x16_1
          · rw [if_pos c5] at H
            have c5b0 : decide (0 ≤ x16_1) = true := decide_eq_true c5
            clear c5
            by_cases c6 : x16_1 < (l1.length : Int)
            · rw [if_pos c6] at H
              have c6b0 : decide (x16_1 < (l1.length : Int)) = true := decide_eq_true c6
              clear c6
              by_cases c7 : x6_1 > 60000
              · rw [if_pos c7] at H
                have c7b0 : decide (60000 < x6_1) = true := decide_eq_true c7
                clear c7
                have H' := Aside0.mk H
                clear H
                have p388 : 0 ≤ (x16_1 : Int) := of_decide_eq_true (by first | (with_reducible assumption) | assumption)
                have q388 : x16_1 < (l1.length : Int) := of_decide_eq_true (by first | (with_reducible assumption) | assumption)
                obtain ⟨ad388, e388, hx388_0, hx388_1⟩ := at_T65 HR1.out x16_1 p388 q388
                cases e388
                replace hx388_0 := (HB.out.cell (World.block_lt_of_cell? w _ hx388_0)).trans hx388_0
                replace hx388_1 := (HB.out.cell (World.block_lt_of_cell? w _ hx388_1)).trans hx388_1
                replace p388 := eq_true p388
                replace q388 := eq_true q388
                go_wp2_with (first | ((with_reducible refine gate_dst (N := 8) rfl ?_); refine box_event ?hg (N := 8) ?hd (cs := #[.string (⟨#[]⟩ : ByteArray), .string (⟨#[]⟩ : ByteArray)]) (t := 65) ?hr ?_; (case hd => rfl); (case hg => rfl); (case hr => first | (go_simp; done) | (go_simp; rfl)); intro gb389 hg w8 hbox hb; have n0_ := Aside0.mk (below_step (by repeat (first | (with_reducible first | exact HB.out | apply below_alloc | apply pw_below_drewN | apply below_drew1) | exact HB.out)) hb); have n1_ := Aside0.mk (hbox); have n2_ := Aside0.mk ((by rw [hg]; exact (below_size (by repeat (first | (with_reducible first | exact HB.out | apply below_alloc | apply pw_below_drewN | apply below_drew1) | exact HB.out))) : w.heap.size ≤ gb389)); have n3_ := Aside0.mk ((by rw [hg]; exact (below_size (by repeat (first | (with_reducible first | exact HB.out | apply below_alloc | apply pw_below_drewN | apply below_drew1) | exact HB.out))) : w.heap.size ≤ gb389)); clear HB; have HB := n0_; have BK389 := n1_; have GW389 := n2_; have GE389 := n3_; clear n0_ n1_ n2_ n3_; clear hb hbox hg; have hcz9_0 : w8.cell? ⟨gb389, 0, none⟩ = some (.string (⟨#[]⟩ : ByteArray)) := (blk_cell BK389.out 0).trans rfl; have hcz9_1 : w8.cell? ⟨gb389, 1, none⟩ = some (.string (⟨#[]⟩ : ByteArray)) := (blk_cell BK389.out 1).trans rfl; have hfz9_0 := blk_frozen BK389.out 0; have hfz9_1 := blk_frozen BK389.out 1))
                go_meet
                case rel => exact ⟨_, (x6_1), (by first | rfl | (simp; done) | (simp [*]; done)), H', ⟨by have := HK1.out; first | omega | exact Nat.le_refl _⟩, ⟨by repeat (first | (with_reducible first | exact HB.out | apply below_alloc | apply pw_below_drewN | apply below_drew1 | refine below_set ?_ GE389.out) | exact HB.out)⟩⟩
              · rw [if_neg c7] at H
                have c7b0 : decide (60000 < x6_1) = false := decide_eq_false c7
                clear c7
                have H' := Aside0.mk H
                clear H
                have p388 : 0 ≤ (x16_1 : Int) := of_decide_eq_true (by first | (with_reducible assumption) | assumption)
                have q388 : x16_1 < (l1.length : Int) := of_decide_eq_true (by first | (with_reducible assumption) | assumption)
                obtain ⟨ad388, e388, hx388_0, hx388_1⟩ := at_T65 HR1.out x16_1 p388 q388
                cases e388
                replace hx388_0 := (HB.out.cell (World.block_lt_of_cell? w _ hx388_0)).trans hx388_0
                replace hx388_1 := (HB.out.cell (World.block_lt_of_cell? w _ hx388_1)).trans hx388_1
                replace p388 := eq_true p388
                replace q388 := eq_true q388
                go_wp2_with (first | ((with_reducible refine gate_dst (N := 8) rfl ?_); refine box_event ?hg (N := 8) ?hd (cs := #[.string (⟨#[]⟩ : ByteArray), .string (⟨#[]⟩ : ByteArray)]) (t := 65) ?hr ?_; (case hd => rfl); (case hg => rfl); (case hr => first | (go_simp; done) | (go_simp; rfl)); intro gb389 hg w10 hbox hb; have n0_ := Aside0.mk (below_step (by repeat (first | (with_reducible first | exact HB.out | apply below_alloc | apply pw_below_drewN | apply below_drew1) | exact HB.out)) hb); have n1_ := Aside0.mk (hbox); have n2_ := Aside0.mk ((by rw [hg]; exact (below_size (by repeat (first | (with_reducible first | exact HB.out | apply below_alloc | apply pw_below_drewN | apply below_drew1) | exact HB.out))) : w.heap.size ≤ gb389)); have n3_ := Aside0.mk ((by rw [hg]; exact (below_size (by repeat (first | (with_reducible first | exact HB.out | apply below_alloc | apply pw_below_drewN | apply below_drew1) | exact HB.out))) : w.heap.size ≤ gb389)); clear HB; have HB := n0_; have BK389 := n1_; have GW389 := n2_; have GE389 := n3_; clear n0_ n1_ n2_ n3_; clear hb hbox hg; have hcz11_0 : w10.cell? ⟨gb389, 0, none⟩ = some (.string (⟨#[]⟩ : ByteArray)) := (blk_cell BK389.out 0).trans rfl; have hcz11_1 : w10.cell? ⟨gb389, 1, none⟩ = some (.string (⟨#[]⟩ : ByteArray)) := (blk_cell BK389.out 1).trans rfl; have hfz11_0 := blk_frozen BK389.out 0; have hfz11_1 := blk_frozen BK389.out 1))
                go_roundg k1
                case measure => have := HK1.out; omega
                case rel => exact ⟨(wrap64 (x6_1 + (wrap64 ((wrap64 (6 + (((rd_T65 l1 x16_1).f0).size : Int))) + (((rd_T65 l1 x16_1).f1).size : Int))))), (wrap64 (x16_1 + 1)), (by first | rfl | (simp; done) | (simp [*]; done)), (by first | rfl | (simp; done) | (simp [*]; done)), H', ⟨by have := HK1.out; omega⟩, ⟨by repeat (first | (with_reducible first | exact HB.out | apply below_alloc | apply pw_below_drewN | apply below_drew1 | refine below_set ?_ GE389.out) | exact HB.out)⟩⟩
            · rw [if_neg c6] at H
              exact absurd H (by simp)
          · rw [if_neg c5] at H
            exact absurd H (by simp)
        · rw [if_neg c4] at H
          have c4b0 : decide (x16_1 < (l1.length : Int)) = false := decide_eq_false c4
          clear c4
          (first | rw [c4b0] | (simp only [i64_w, i32_w]; rw [c4b0]) | skip)
          have H' := Aside0.mk H
          clear H
          go_wp2
          go_meet
          case rel => exact ⟨_, (x6_1), (by first | rfl | (simp; done) | (simp [*]; done)), H', ⟨by have := HK1.out; first | omega | exact Nat.le_refl _⟩, ⟨by repeat (first | (with_reducible first | exact HB.out | apply below_alloc | apply pw_below_drewN | apply below_drew1) | exact HB.out)⟩⟩
  case rest =>
    clear HC3
    try clear c1
    try clear c2
    try clear p2
    try clear p3
    try clear q3
    try clear hx3
    try clear c4
    try clear c4b0
    try clear c5
    try clear c5b0
    try clear c6
    try clear c6b0
    try clear p6
    try clear c7
    try clear c7b0
    try clear hcz11_0
    try clear hcz11_1
    try clear hcz9_0
    try clear hcz9_1
    try clear hfz11_0
    try clear hfz11_1
    try clear hfz9_0
    try clear hfz9_1
    try clear hx388_0
    try clear hx388_1
    try clear p2
    try clear p388
    try clear q388
    obtain ⟨kq, x6_2, rfl, HA, HJ2, HB⟩ := hcut
    cases kq with
    | zero => exact absurd HA.out (by simp [record_EncodePairs.j1])
    | succ kj2 =>
      have H := HA.out
      clear HA
      simp only [record_EncodePairs.j1] at H
      have HC12 := Aside0.mk H
      clear H
      go_upto_region 8 with (fail)
      go_cut [33] (fun v33 wc => ∃ (kq : Nat) (x33_11 : Bool), v33 = .bool x33_11 ∧ Aside0 (record_EncodePairs.j2 kq a0 l1 x33_11 = some (r1, r2)) ∧ Aside0 (kq ≤ kj2) ∧ Aside0 (Below w.heap.size w wc))
      case first =>
        have H := HC12.out
        clear HC12
        by_cases c13 : (l1.length : Int) > 1900
        · rw [if_pos c13] at H
          have c13b0 : decide (1900 < (l1.length : Int)) = true := decide_eq_true c13
          have c13b1 : decide (1900 < l1.length) = true := decide_eq_true (by omega)
          clear c13
          (first | rw [c13b0] | (simp only [i64_w, i32_w]; rw [c13b0]) | skip)
          have H' := Aside0.mk H
          clear H
          go_wp2
          go_meet
          case rel => exact ⟨_, (true), (by first | rfl | (simp; done) | (simp [*]; done)), H', ⟨by have := HJ2.out; first | omega | exact Nat.le_refl _⟩, ⟨by repeat (first | (with_reducible first | exact HB.out | apply below_alloc | apply pw_below_drewN | apply below_drew1) | exact HB.out)⟩⟩
        · rw [if_neg c13] at H
          have c13b0 : decide (1900 < (l1.length : Int)) = false := decide_eq_false c13
          have c13b1 : decide (1900 < l1.length) = false := decide_eq_false (by omega)
          clear c13
          (first | rw [c13b0] | (simp only [i64_w, i32_w]; rw [c13b0]) | skip)
          have H' := Aside0.mk H
          clear H
          go_wp2
          go_meet
          case rel => exact ⟨_, (decide (x6_2 > 60000)), (by first | rfl | (simp; done) | (simp [*]; done)), H', ⟨by have := HJ2.out; first | omega | exact Nat.le_refl _⟩, ⟨by repeat (first | (with_reducible first | exact HB.out | apply below_alloc | apply pw_below_drewN | apply below_drew1) | exact HB.out)⟩⟩
      case rest =>
        clear HC12
        try clear c1
        try clear c2
        try clear p2
        try clear p3
        try clear q3
        try clear hx3
        try clear c4
        try clear c4b0
        try clear c5
        try clear c5b0
        try clear c6
        try clear c6b0
        try clear p6
        try clear c7
        try clear c7b0
        try clear c13
        try clear c13b0
        try clear c13b1
        try clear hcz11_0
        try clear hcz11_1
        try clear hcz9_0
        try clear hcz9_1
        try clear hfz11_0
        try clear hfz11_1
        try clear hfz9_0
        try clear hfz9_1
        try clear hx388_0
        try clear hx388_1
        try clear p2
        try clear p3
        try clear p388
        try clear p6
        try clear q3
        try clear q388
        obtain ⟨kq, x33_11, rfl, HA, HJ11, HB⟩ := hcut
        cases kq with
        | zero => exact absurd HA.out (by simp [record_EncodePairs.j2])
        | succ kj11 =>
          have H := HA.out
          clear HA
          simp only [record_EncodePairs.j2] at H
          by_cases c14 : x33_11 = true
          · subst c14
            have H1 : (some (([] : List Int), 14)) = some (r1, r2) := by rw [if_pos rfl] at H; exact H
            clear H
            have H := H1
            clear H1
            simp only [Option.some.injEq, Prod.mk.injEq] at H
            obtain ⟨rfl, rfl⟩ := H
            go_wp2
            go_ret2
            exact ⟨_, by first | rfl | (simp [errW_none, errW_some] <;> rfl) | (simp [*, errW_none, errW_some] <;> rfl), by first | exact Kd.R_nil _ _ _ _ _ | exact Kd.N_nil _ _ _ _ _ | exact Kd.V_nil _ _ _ _ _ | exact Kd.Q_nil _ _ _ _ _ | exact Kd.S_nil _ _ _ _ _, by repeat (first | (with_reducible first | exact HB.out | apply below_alloc | apply pw_below_drewN | apply below_drew1) | exact HB.out)⟩
          · replace c14 := Bool.eq_false_iff.mpr c14
            subst c14
            have H1 : (if a0 < 0 then (some (([] : List Int), 2)) else ((record_fit.f kj11 l1).bind fun t390 => (if t390 = true then ((record_numbers.f kj11 (([4, a0] : List Int))).bind fun t394 => (record_EncodePairs.l1 kj11 t394 l1 (l1.length : Int) 0)) else (some (([] : List Int), 2))))) = some (r1, r2) := by rw [if_neg (show ¬ (false = true) by decide)] at H; exact H
            clear H
            have H := H1
            clear H1
            by_cases c15 : a0 < 0
            · rw [if_pos c15] at H
              have c15b0 : decide (a0 < 0) = true := decide_eq_true c15
              clear c15
              simp only [Option.some.injEq, Prod.mk.injEq] at H
              obtain ⟨rfl, rfl⟩ := H
              go_wp2
              go_ret2
              exact ⟨_, by first | rfl | (simp [errW_none, errW_some] <;> rfl) | (simp [*, errW_none, errW_some] <;> rfl), by first | exact Kd.R_nil _ _ _ _ _ | exact Kd.N_nil _ _ _ _ _ | exact Kd.V_nil _ _ _ _ _ | exact Kd.Q_nil _ _ _ _ _ | exact Kd.S_nil _ _ _ _ _, by repeat (first | (with_reducible first | exact HB.out | apply below_alloc | apply pw_below_drewN | apply below_drew1) | exact HB.out)⟩
            · rw [if_neg c15] at H
              have c15b0 : decide (a0 < 0) = false := decide_eq_false c15
              clear c15
              replace H := Option.bind_eq_some_iff.mp H
              obtain ⟨t390, A160, H⟩ := H
              replace H : (if t390 = true then ((record_numbers.f kj11 (([4, a0] : List Int))).bind fun t394 => (record_EncodePairs.l1 kj11 t394 l1 (l1.length : Int) 0)) else (some (([] : List Int), 2))) = some (r1, r2) := H
              have A16 := Aside0.mk A160
              clear A160
              by_cases c17 : t390 = true
              · subst c17
                have H1 : ((record_numbers.f kj11 (([4, a0] : List Int))).bind fun t394 => (record_EncodePairs.l1 kj11 t394 l1 (l1.length : Int) 0)) = some (r1, r2) := by rw [if_pos rfl] at H; exact H
                clear H
                have H := H1
                clear H1
                obtain ⟨y391, hy391⟩ : ∃ y_ : List Int, y_ = (([4, a0] : List Int)) := ⟨_, rfl⟩
                replace H : ((record_numbers.f kj11 y391).bind fun t394 => (record_EncodePairs.l1 kj11 t394 l1 (l1.length : Int) 0)) = some (r1, r2) := by first | (rw [hy391]; with_reducible exact H) | (have H2_ := (Option.bind_some _ _).symm.trans H; rw [hy391]; with_reducible exact H2_) | (have H2_ := (Option.bind_some _ _).symm.trans H; with_reducible exact H2_) | with_reducible exact H | (rw [hy391]; exact H) | exact H
                have Ny391 := Aside0.mk hy391
                clear hy391
                replace H := Option.bind_eq_some_iff.mp H
                obtain ⟨t394, A180, H⟩ := H
                replace H : (record_EncodePairs.l1 kj11 t394 l1 (l1.length : Int) 0) = some (r1, r2) := H
                have A18 := Aside0.mk A180
                clear A180
                have H' := Aside0.mk H
                clear H
                go_wp2_with (first | (go_at_call 42; (with_reducible refine (record_fit.calls kj11 _ _ l1 true _ ?side1 ?side2 A16.out).mono ?_); (case side1 => repeat (first | exact (Kd.C_below HR1.out HB.out) | (with_reducible refine Kd.C_alloc ?_ _) | (with_reducible refine Kd.C_drewN ?_ _) | (with_reducible refine Kd.C_drew ?_))); (case side2 => exact HC1.out); rintro e w19 ⟨rfl, hb⟩; have n0_ := Aside0.mk (below_step (by repeat (first | (with_reducible first | exact HB.out | apply below_alloc | apply pw_below_drewN | apply below_drew1) | exact HB.out)) hb); clear HB; have HB := n0_; clear n0_; (try clear hb); (try clear hb2); (try clear hk); (try clear hi)) | ((with_reducible refine gate_dst (N := 50) rfl ?_); refine Kd.R_lit (Kd.int .i64) _ 3 ?hg (N := 50) ?hd (xs := ([4, a0] : List Int)) (inner := [.int .i64 4, .int .i64 a0]) (ok := fun _ => True) (okp := fun _ => True) ?hr ?hp (fun _ hk => hk) trivial (Below.refl _ _) (Nat.le_refl _) (by simp) ?_; (case hd => rfl); (case hg => rfl); (case hr => first | (go_simp; done) | (go_simp; rfl)); (case hp => exact (Reps.one (show Kd.M (Kd.int .i64) _ _ _ 4 [.int .i64 4] from rfl) (Reps.one (show Kd.M (Kd.int .i64) _ _ _ a0 [.int .i64 a0] from rfl) (Reps.none _ _)))); intro v392 w20 ho21 hb hg_ hnew_; clear hg_ hnew_; (first | rw [← Ny391.out] at ho21 | (simp only [Int.reduceToNat] at ho21; rw [← Ny391.out] at ho21)); have n0_ := Aside0.mk (Kd.R_lower ho21 (below_size (by repeat (first | (with_reducible first | exact HB.out | apply below_alloc | apply pw_below_drewN | apply below_drew1) | exact HB.out)))); have n1_ := Aside0.mk (below_step (by repeat (first | (with_reducible first | exact HB.out | apply below_alloc | apply pw_below_drewN | apply below_drew1) | exact HB.out)) hb); clear HB; have HO393 := n0_; have HB := n1_; clear n0_ n1_; clear hb ho21; obtain ⟨Ao22, co22, eo22⟩ := Kd.R_slice HO393.out; subst eo22) | ((with_reducible refine gate_callee (f := 32) rfl ?_); refine goesL_ (some 51) rfl rfl Tryd.func32 (by kernel_rfl) rfl #[.slice Ao22 y391.length co22] rfl (by (try simp only [List.map_toArray, List.map_cons, List.map_nil]); first | done | rfl | (simp only [List.length_drop, List.length_take]; rfl)) ?_; (with_reducible refine (record_numbers.calls kj11 _ _ y391 t394 _ ?side1 ?side2 A18.out).mono ?_); (case side1 => repeat (first | exact (Kd.R_reads' HO393.out).2.2 | (with_reducible refine Kd.C_alloc ?_ _) | (with_reducible refine Kd.C_drewN ?_ _) | (with_reducible refine Kd.C_drew ?_))); (case side2 => exact (Kd.R_reads' HO393.out).2.1); rintro e w23 ⟨v395, rfl, ho0, hb⟩; refine ⟨_, rfl, ?_⟩; have n0_ := Aside0.mk (Kd.R_below (by (with_reducible repeat (first | apply Kd.R_alloc | apply Kd.R_drewN | apply Kd.R_drew)); exact HO393.out) hb); have n1_ := Aside0.mk (Kd.R_lower ho0 (below_size (by repeat (first | (with_reducible first | exact HB.out | apply below_alloc | apply pw_below_drewN | apply below_drew1) | exact HB.out)))); have n2_ := Aside0.mk (below_step (by repeat (first | (with_reducible first | exact HB.out | apply below_alloc | apply pw_below_drewN | apply below_drew1) | exact HB.out)) hb); clear HO393; clear HB; have HO393 := n0_; have HO396 := n1_; have HB := n2_; clear n0_ n1_ n2_; (try clear hb); (try clear hb2); (try clear hk); (try clear hi); (try clear ho0)))
                go_loopg [9, 54] kj11 (fun kq v9 v54 w' => ∃ (x9_3 : List (S77)) (x54_3 : Int), v54 = .int .i64 x54_3 ∧ Aside0 (record_EncodePairs.l1 kq x9_3 l1 (l1.length : Int) x54_3 = some (r1, r2)) ∧ Aside0 (kq ≤ kj11) ∧ Aside0 (Kd.R k77 77 w' w.heap.size (fun _ => True) v9 x9_3) ∧ Aside0 (Below w.heap.size w w'))
                case atStart => exact ⟨(t394), (0), (by first | rfl | (simp; done) | (simp [*]; done)), H', ⟨Nat.le_refl _⟩, ⟨by (with_reducible repeat (first | apply Kd.R_alloc | apply Kd.R_drewN | apply Kd.R_drew)); exact HO396.out⟩, ⟨by repeat (first | (with_reducible first | exact HB.out | apply below_alloc | apply pw_below_drewN | apply below_drew1) | exact HB.out)⟩⟩
                case round =>
                  clear H'
                  try clear c1
                  try clear c2
                  try clear p2
                  try clear c3
                  try clear p3
                  try clear q3
                  try clear hx3
                  try clear c4
                  try clear c4b0
                  try clear c5
                  try clear c5b0
                  try clear c6
                  try clear c6b0
                  try clear p6
                  try clear c7
                  try clear c7b0
                  try clear c13
                  try clear c13b0
                  try clear c13b1
                  try clear c14
                  try clear c15
                  try clear c15b0
                  try clear c17
                  try clear hcz11_0
                  try clear hcz11_1
                  try clear hcz9_0
                  try clear hcz9_1
                  try clear hfz11_0
                  try clear hfz11_1
                  try clear hfz9_0
                  try clear hfz9_1
                  try clear hx388_0
                  try clear hx388_1
                  try clear p2
                  try clear p3
                  try clear p388
                  try clear p6
                  try clear q3
                  try clear q388
                  obtain ⟨x9_3, x54_3, rfl, HA, HK3, HO_9, HB⟩ := hrel
                  cases gk with
                  | zero => exact absurd HA.out (by simp [record_EncodePairs.l1])
                  | succ k3 =>
                    have H := HA.out
                    clear HA
                    simp only [record_EncodePairs.l1] at H
                    by_cases c24 : x54_3 < (l1.length : Int)
                    · rw [if_pos c24] at H
                      have c24b0 : decide (x54_3 < (l1.length : Int)) = true := decide_eq_true c24
                      clear c24
                      by_cases c25 : 0 ≤ x54_3
                      · rw [if_pos c25] at H
                        have c25b0 : decide (0 ≤ x54_3) = true := decide_eq_true c25
                        clear c25
                        by_cases c26 : x54_3 < (l1.length : Int)
                        · rw [if_pos c26] at H
                          have c26b0 : decide (x54_3 < (l1.length : Int)) = true := decide_eq_true c26
                          clear c26
                          replace H := Option.bind_eq_some_iff.mp H
                          obtain ⟨⟨t399, t400, t401⟩, A270, H⟩ := H
                          replace H : ((record_text.f ((rd_T65 l1 x54_3).f1)).bind fun bt402 => ((some (([(⟨t399, t400, t401⟩ : S77), (⟨bt402.1, bt402.2.1, bt402.2.2⟩ : S77)] : List (S77)) : List (S77))).bind fun y405 => (if x9_3.length + y405.length < 4398046511104 then (record_EncodePairs.l1 k3 (x9_3 ++ y405) l1 (l1.length : Int) (wrap64 (x54_3 + 1))) else (none)))) = some (r1, r2) := H
                          have A27 := Aside0.mk A270
                          clear A270
                          replace H := Option.bind_eq_some_iff.mp H
                          obtain ⟨⟨t402, t403, t404⟩, A280, H⟩ := H
                          replace H : ((some (([(⟨t399, t400, t401⟩ : S77), (⟨t402, t403, t404⟩ : S77)] : List (S77)) : List (S77))).bind fun y405 => (if x9_3.length + y405.length < 4398046511104 then (record_EncodePairs.l1 k3 (x9_3 ++ y405) l1 (l1.length : Int) (wrap64 (x54_3 + 1))) else (none))) = some (r1, r2) := H
                          have A28 := Aside0.mk A280
                          clear A280
                          obtain ⟨y405, hy405⟩ : ∃ y_ : List (S77), y_ = (([(⟨t399, t400, t401⟩ : S77), (⟨t402, t403, t404⟩ : S77)] : List (S77))) := ⟨_, rfl⟩
                          replace H : (if x9_3.length + y405.length < 4398046511104 then (record_EncodePairs.l1 k3 (x9_3 ++ y405) l1 (l1.length : Int) (wrap64 (x54_3 + 1))) else (none)) = some (r1, r2) := by first | (rw [hy405]; with_reducible exact H) | (have H2_ := (Option.bind_some _ _).symm.trans H; rw [hy405]; with_reducible exact H2_) | (have H2_ := (Option.bind_some _ _).symm.trans H; with_reducible exact H2_) | with_reducible exact H | (rw [hy405]; exact H) | exact H
                          have Ny405 := Aside0.mk hy405
                          clear hy405
                          by_cases c29 : x9_3.length + y405.length < 4398046511104
                          · rw [if_pos c29] at H
                            have LMc29 := Aside0.mk c29
                            clear c29
                            obtain ⟨y408, hy408⟩ : ∃ y_ : List (S77), y_ = (x9_3 ++ y405) := ⟨_, rfl⟩
                            replace H : (record_EncodePairs.l1 k3 y408 l1 (l1.length : Int) (wrap64 (x54_3 + 1))) = some (r1, r2) := by first | (rw [hy408]; with_reducible exact H) | (have H2_ := (Option.bind_some _ _).symm.trans H; rw [hy408]; with_reducible exact H2_) | (have H2_ := (Option.bind_some _ _).symm.trans H; with_reducible exact H2_) | with_reducible exact H | (rw [hy408]; exact H) | exact H
                            have Ny408 := Aside0.mk hy408
                            clear hy408
                            have H' := Aside0.mk H
                            clear H
                            have p397 : 0 ≤ (x54_3 : Int) := of_decide_eq_true (by first | (with_reducible assumption) | assumption)
                            have q397 : x54_3 < (l1.length : Int) := of_decide_eq_true (by first | (with_reducible assumption) | assumption)
                            obtain ⟨ad397, e397, hx397_0, hx397_1⟩ := at_T65 HR1.out x54_3 p397 q397
                            cases e397
                            replace hx397_0 := (HB.out.cell (World.block_lt_of_cell? w _ hx397_0)).trans hx397_0
                            replace hx397_1 := (HB.out.cell (World.block_lt_of_cell? w _ hx397_1)).trans hx397_1
                            replace p397 := eq_true p397
                            replace q397 := eq_true q397
                            try go_wp2_with (first | ((with_reducible refine gate_dst (N := 11) rfl ?_); refine box_event ?hg (N := 11) ?hd (cs := #[.string (⟨#[]⟩ : ByteArray), .string (⟨#[]⟩ : ByteArray)]) (t := 65) ?hr ?_; (case hd => rfl); (case hg => rfl); (case hr => first | (go_simp; done) | (go_simp; rfl)); intro gb398 hg w30 hbox hb; have n0_ := Aside0.mk (Kd.R_below (by (with_reducible repeat (first | apply Kd.R_alloc | apply Kd.R_drewN | apply Kd.R_drew)); exact HO_9.out) hb); have n1_ := Aside0.mk (below_step (by repeat (first | (with_reducible first | exact HB.out | apply below_alloc | apply pw_below_drewN | apply below_drew1) | exact HB.out)) hb); have n2_ := Aside0.mk (hbox); have n3_ := Aside0.mk ((by rw [hg]; exact (below_size (by repeat (first | (with_reducible first | exact HB.out | apply below_alloc | apply pw_below_drewN | apply below_drew1) | exact HB.out))) : w.heap.size ≤ gb398)); have n4_ := Aside0.mk ((by rw [hg]; exact (below_size (by repeat (first | (with_reducible first | exact HB.out | apply below_alloc | apply pw_below_drewN | apply below_drew1) | exact HB.out))) : w.heap.size ≤ gb398)); clear HO_9; clear HB; have HO_9 := n0_; have HB := n1_; have BK398 := n2_; have GW398 := n3_; have GE398 := n4_; clear n0_ n1_ n2_ n3_ n4_; clear hb hbox hg; have hcz31_0 : w30.cell? ⟨gb398, 0, none⟩ = some (.string (⟨#[]⟩ : ByteArray)) := (blk_cell BK398.out 0).trans rfl; have hcz31_1 : w30.cell? ⟨gb398, 1, none⟩ = some (.string (⟨#[]⟩ : ByteArray)) := (blk_cell BK398.out 1).trans rfl; have hfz31_0 := blk_frozen BK398.out 0; have hfz31_1 := blk_frozen BK398.out 1))
                            have n0_ : Aside0 (Kd.R k77 77 ((w30.setCell ⟨gb398, 0, none⟩ (.string ((rd_T65 l1 x54_3).f0))).setCell ⟨gb398, 1, none⟩ (.string ((rd_T65 l1 x54_3).f1))) w.heap.size (fun _ => True) u9 x9_3) := ⟨by (with_reducible repeat (first | apply Kd.R_alloc | apply Kd.R_drewN | apply Kd.R_drew)); exact Kd.R_mono (Kd.R_far (p := ⟨gb398, 1, none⟩) (Kd.R_far (p := ⟨gb398, 0, none⟩) (Kd.R_types HO_9.out BK398.out (by decide)) (fun _ hk => hk.2) (.string ((rd_T65 l1 x54_3).f0))) (fun _ hk => hk.2) (.string ((rd_T65 l1 x54_3).f1))) (fun _ hk => trivial)⟩
                            have n1_ : Aside0 (((w30.setCell ⟨gb398, 0, none⟩ (.string ((rd_T65 l1 x54_3).f0))).setCell ⟨gb398, 1, none⟩ (.string ((rd_T65 l1 x54_3).f1))).heap[gb398]? = some (.cells #[.string ((rd_T65 l1 x54_3).f0), .string ((rd_T65 l1 x54_3).f1)] 65 (0, 0))) := ⟨by (with_reducible repeat (first | refine blk_drewN ?_ _ | refine blk_drew ?_ | refine blk_alloc ?_ _)); refine blk_put (cs := #[.string ((rd_T65 l1 x54_3).f0), .string (⟨#[]⟩ : ByteArray)]) ?_ 1 _ rfl; (with_reducible repeat (first | refine blk_drewN ?_ _ | refine blk_drew ?_ | refine blk_alloc ?_ _)); refine blk_put (cs := #[.string (⟨#[]⟩ : ByteArray), .string (⟨#[]⟩ : ByteArray)]) ?_ 0 _ rfl; (with_reducible repeat (first | refine blk_drewN ?_ _ | refine blk_drew ?_ | refine blk_alloc ?_ _)); exact BK398.out⟩
                            have n2_ : Aside0 (Below w.heap.size w ((w30.setCell ⟨gb398, 0, none⟩ (.string ((rd_T65 l1 x54_3).f0))).setCell ⟨gb398, 1, none⟩ (.string ((rd_T65 l1 x54_3).f1)))) := ⟨by repeat (first | (with_reducible first | exact HB.out | apply below_alloc | apply pw_below_drewN | apply below_drew1 | refine below_set ?_ GE398.out) | exact HB.out)⟩
                            (try clear HO_9)
                            (try clear BK398)
                            (try clear HB)
                            generalize ((w30.setCell ⟨gb398, 0, none⟩ (.string ((rd_T65 l1 x54_3).f0))).setCell ⟨gb398, 1, none⟩ (.string ((rd_T65 l1 x54_3).f1))) = w32 at n0_ n1_ n2_ ⊢
                            have HO_9 := n0_
                            have BK398 := n1_
                            have HB := n2_
                            clear n0_ n1_ n2_
                            have n0_ := Aside0.mk (Kd.R_drew HO_9.out)
                            have n1_ := Aside0.mk (blk_drew BK398.out)
                            have n2_ := Aside0.mk (below_drew1 HB.out)
                            clear HO_9
                            clear BK398
                            clear HB
                            have HO_9 := n0_
                            have BK398 := n1_
                            have HB := n2_
                            clear n0_ n1_ n2_
                            refine start_ (n := 10) (S := fun w' => w'.cell? ⟨gb398, 0, none⟩ = some (.string ((rd_T65 l1 x54_3).f0)) ∧ w'.cell? ⟨gb398, 1, none⟩ = some (.string ((rd_T65 l1 x54_3).f1))) (ds := []) #[false, false, false, false, false, false, false, false, false, false] (by kernel_rfl) rfl rfl ⟨(blk_cell BK398.out 0).trans rfl, (blk_cell BK398.out 1).trans rfl⟩ (fun hHeld => ?_); refine with_tabW record_EncodePairs.tab16 record_EncodePairs.bits16 (fun HT_ HW_ => ?_)
                            generalize w32.drew = w33 at HO_9 BK398 HB hHeld ⊢
                            refine pure_ (i := 0) (N := some 58) (v := ?_) (a' := ?_) #[true, false, false, false, false, false, false, false, false, false] rfl rfl (any_of HT_.out (by kernel_rfl)) (fun _ _ _ h => h) (Or.inl ⟨by rfl, ?_⟩) ?_ ?_
                            rotate_left
                            · intro w'
                              go_simp
                              with_reducible rfl
                            rotate_left
                            · simp only [Act.put, List.setIfInBounds_toArray, List.set_cons_zero, List.set_cons_succ, i64_w, i32_w]
                              rfl
                            refine pure_ (i := 1) (N := some 59) (v := ?_) (a' := ?_) #[true, true, false, false, false, false, false, false, false, false] rfl rfl (any_of HT_.out (by kernel_rfl)) (fun _ _ _ h => h) (Or.inl ⟨by rfl, ?_⟩) ?_ ?_
                            rotate_left
                            · intro w'
                              go_simp
                              with_reducible rfl
                            rotate_left
                            · simp only [Act.put, List.setIfInBounds_toArray, List.set_cons_zero, List.set_cons_succ, i64_w, i32_w]
                              rfl
                            refine pure_ (i := 4) (N := some 62) (v := ?_) (a' := ?_) #[true, true, false, false, true, false, false, false, false, false] rfl rfl (any_of HT_.out (by kernel_rfl)) (fun _ _ _ h => h) (Or.inl ⟨by rfl, ?_⟩) ?_ ?_
                            rotate_left
                            · intro w'
                              go_simp
                              with_reducible rfl
                            rotate_left
                            · simp only [Act.put, List.setIfInBounds_toArray, List.set_cons_zero, List.set_cons_succ, i64_w, i32_w]
                              rfl
                            refine take_ (i := 2) (N := some 60) (v := ?_) (a' := ?_) #[true, true, true, false, true, false, false, false, false, false] rfl rfl (take_ofW HT_.out HW_.out (by kernel_rfl)) (fun _ _ _ h => h) (Or.inl ⟨by rfl, ?_⟩) hHeld ?_ ?_
                            rotate_left
                            · rintro w' ⟨s0, s1⟩
                              go_simp
                              with_reducible rfl
                            rotate_left
                            · simp only [Act.put, List.setIfInBounds_toArray, List.set_cons_zero, List.set_cons_succ, i64_w, i32_w]
                              rfl
                            refine take_ (i := 5) (N := some 63) (v := ?_) (a' := ?_) #[true, true, true, false, true, true, false, false, false, false] rfl rfl (take_ofW HT_.out HW_.out (by kernel_rfl)) (fun _ _ _ h => h) (Or.inl ⟨by rfl, ?_⟩) hHeld ?_ ?_
                            rotate_left
                            · rintro w' ⟨s0, s1⟩
                              go_simp
                              with_reducible rfl
                            rotate_left
                            · simp only [Act.put, List.setIfInBounds_toArray, List.set_cons_zero, List.set_cons_succ, i64_w, i32_w]
                              rfl
                            refine one_ (i := 3) (N := some 61) #[true, true, true, true, true, true, false, false, false, false] rfl rfl (one_of HT_.out (by kernel_rfl)) (by decide) (fun K hK => ?_)
                            refine goes_ Tryd.func34 (by kernel_rfl) rfl #[.string ((rd_T65 l1 x54_3).f0)] (by rfl) rfl rfl (by (try simp only [List.map_toArray, List.map_cons, List.map_nil]); first | done | rfl | (simp only [List.length_drop, List.length_take]; rfl)) ?_
                            with_reducible refine (record_text.calls ((rd_T65 l1 x54_3).f0) t399 t400 t401 _ A27.out).mono ?_
                            rintro e w34 ⟨rfl, hb⟩
                            refine ⟨_, rfl, ?_⟩
                            have n0_ := Aside0.mk (Kd.R_below (by (with_reducible repeat (first | apply Kd.R_alloc | apply Kd.R_drewN | apply Kd.R_drew)); exact HO_9.out) hb)
                            have n1_ := Aside0.mk (blk_below (g := gb398) (o := .cells #[.string ((rd_T65 l1 x54_3).f0), .string ((rd_T65 l1 x54_3).f1)] 65 (0, 0)) (by (with_reducible repeat (first | refine blk_drewN ?_ _ | refine blk_drew ?_ | refine blk_alloc ?_ _)); exact BK398.out) hb)
                            have n2_ := Aside0.mk (below_step (by repeat (first | (with_reducible first | exact HB.out | apply below_alloc | apply pw_below_drewN | apply below_drew1 | refine below_set ?_ GE398.out) | exact HB.out)) hb)
                            clear HO_9
                            clear BK398
                            clear HB
                            have HO_9 := n0_
                            have BK398 := n1_
                            have HB := n2_
                            clear n0_ n1_ n2_
                            (try clear hb)
                            (try clear hb2)
                            (try clear hk)
                            (try clear hi)
                            refine hK.out _ _ ⟨(blk_cell BK398.out 0).trans rfl, (blk_cell BK398.out 1).trans rfl⟩ (fun hHeld => ?_)
                            clear hK K
                            refine norm_ (a' := ?_) ?_ ?_
                            rotate_left
                            · show Act.put _ (some 61) _ = _
                              simp only [Act.put, List.setIfInBounds_toArray, List.set_cons_zero, List.set_cons_succ, i64_w, i32_w]
                              rfl
                            refine one_ (i := 6) (N := some 64) #[true, true, true, true, true, true, true, false, false, false] rfl rfl (one_of HT_.out (by kernel_rfl)) (by decide) (fun K hK => ?_)
                            refine goes_ Tryd.func34 (by kernel_rfl) rfl #[.string ((rd_T65 l1 x54_3).f1)] (by rfl) rfl rfl (by (try simp only [List.map_toArray, List.map_cons, List.map_nil]); first | done | rfl | (simp only [List.length_drop, List.length_take]; rfl)) ?_
                            with_reducible refine (record_text.calls ((rd_T65 l1 x54_3).f1) t402 t403 t404 _ A28.out).mono ?_
                            rintro e w35 ⟨rfl, hb⟩
                            refine ⟨_, rfl, ?_⟩
                            have n0_ := Aside0.mk (Kd.R_below (by (with_reducible repeat (first | apply Kd.R_alloc | apply Kd.R_drewN | apply Kd.R_drew)); exact HO_9.out) hb)
                            have n1_ := Aside0.mk (blk_below (g := gb398) (o := .cells #[.string ((rd_T65 l1 x54_3).f0), .string ((rd_T65 l1 x54_3).f1)] 65 (0, 0)) (by (with_reducible repeat (first | refine blk_drewN ?_ _ | refine blk_drew ?_ | refine blk_alloc ?_ _)); exact BK398.out) hb)
                            have n2_ := Aside0.mk (below_step (by repeat (first | (with_reducible first | exact HB.out | apply below_alloc | apply pw_below_drewN | apply below_drew1 | refine below_set ?_ GE398.out) | exact HB.out)) hb)
                            clear HO_9
                            clear BK398
                            clear HB
                            have HO_9 := n0_
                            have BK398 := n1_
                            have HB := n2_
                            clear n0_ n1_ n2_
                            (try clear hb)
                            (try clear hb2)
                            (try clear hk)
                            (try clear hi)
                            refine hK.out _ _ ⟨(blk_cell BK398.out 0).trans rfl, (blk_cell BK398.out 1).trans rfl⟩ (fun hHeld => ?_)
                            clear hK K
                            refine norm_ (a' := ?_) ?_ ?_
                            rotate_left
                            · show Act.put _ (some 64) _ = _
                              simp only [Act.put, List.setIfInBounds_toArray, List.set_cons_zero, List.set_cons_succ, i64_w, i32_w]
                              rfl
                            refine one_ (i := 7) (N := some 65) #[true, true, true, true, true, true, true, true, false, false] rfl rfl (one_of HT_.out (by kernel_rfl)) (by decide) (fun K hK => ?_)
                            refine Kd.R_lit_step k77 _ 77 ?hg (N := 65) ?hd (xs := ([(⟨t399, t400, t401⟩ : S77), (⟨t402, t403, t404⟩ : S77)] : List (S77))) (inner := [.int .i64 t399, .int .i64 t400, .string t401, .int .i64 t402, .int .i64 t403, .string t404]) (ok := fun _ => True) (okp := fun _ => True) ?hr ?hp (fun _ hk => hk) trivial (Below.refl _ _) (Nat.le_refl _) (by simp) ?_; (case hd => rfl); (case hg => rfl); (case hr => first | (go_simp; done) | (go_simp; rfl)); (case hp => exact (Reps.c3 (show Kd.M k77 _ _ _ (⟨t399, t400, t401⟩ : S77) [.int .i64 t399, .int .i64 t400, .string t401] from (k77_mkM _ _ _ (⟨t399, t400, t401⟩ : S77) )) (Reps.c3 (show Kd.M k77 _ _ _ (⟨t402, t403, t404⟩ : S77) [.int .i64 t402, .int .i64 t403, .string t404] from (k77_mkM _ _ _ (⟨t402, t403, t404⟩ : S77) )) (Reps.none _ _))))
                            intro v406 w36 ho37 hb hg_ hnew_
                            clear hg_ hnew_
                            (first | rw [← Ny405.out] at ho37 | (simp only [Int.reduceToNat] at ho37; rw [← Ny405.out] at ho37))
                            have n0_ := Aside0.mk (Kd.R_elder' (by (with_reducible repeat (first | apply Kd.R_alloc | apply Kd.R_drewN | apply Kd.R_drew)); exact HO_9.out) (Kd.R_base ho37) hb)
                            have n1_ := Aside0.mk (Kd.R_lower (Kd.R_new' ho37 (Kd.R_lt (by (with_reducible repeat (first | apply Kd.R_alloc | apply Kd.R_drewN | apply Kd.R_drew)); exact HO_9.out))) (below_size (by repeat (first | (with_reducible first | exact HB.out | apply below_alloc | apply pw_below_drewN | apply below_drew1 | refine below_set ?_ GE398.out) | exact HB.out))))
                            have n2_ := Aside0.mk (blk_below (g := gb398) (o := .cells #[.string ((rd_T65 l1 x54_3).f0), .string ((rd_T65 l1 x54_3).f1)] 65 (0, 0)) (by (with_reducible repeat (first | refine blk_drewN ?_ _ | refine blk_drew ?_ | refine blk_alloc ?_ _)); exact BK398.out) hb)
                            have n3_ := Aside0.mk (below_step (by repeat (first | (with_reducible first | exact HB.out | apply below_alloc | apply pw_below_drewN | apply below_drew1 | refine below_set ?_ GE398.out) | exact HB.out)) hb)
                            clear HO_9
                            clear BK398
                            clear HB
                            have HO_9 := n0_
                            have HO407 := n1_
                            have BK398 := n2_
                            have HB := n3_
                            clear n0_ n1_ n2_ n3_
                            clear hb ho37
                            obtain ⟨Ao39, co39, eo39⟩ := Kd.R_slice HO407.out
                            (first | subst eo39 | (injection eo39 with f1_ f2_ f3_; have f4_ := f1_.symm; have f5_ := f3_.symm; clear f1_ f2_ f3_; subst f4_; subst f5_))
                            refine hK.out _ _ ⟨(blk_cell BK398.out 0).trans rfl, (blk_cell BK398.out 1).trans rfl⟩ (fun hHeld => ?_)
                            clear hK K
                            refine norm_ (a' := ?_) ?_ ?_
                            rotate_left
                            · show Act.put _ (some 65) _ = _
                              simp only [Act.put, List.setIfInBounds_toArray, List.set_cons_zero, List.set_cons_succ, i64_w, i32_w]
                              rfl
                            refine one_ (i := 8) (N := some 66) #[true, true, true, true, true, true, true, true, true, false] rfl rfl (one_of HT_.out (by kernel_rfl)) (by decide) (fun K hK => ?_)
                            refine Kd.R_append_rows_step k77 (w0 := w) w.heap.size (by rfl) (.tmp 58) (.tmp 65) 74 77 (.agg #[(.int .i64 0), (.int .i64 0), (.string ⟨#[]⟩)]) 32 rfl Tryd.underlying74 info77 rfl (by decide) (by omega) u9 x9_3 y405 _ _ _ (fun k_ => some k_ ≠ (.slice Ao39 y405.length co39 : Value).ownBlock) (fun _ => False) rfl rfl ?aO ?aR (fun _ _ h => h) (fun _ h => h.elim) ?aF ?aB ?aS ?aL ?_
                            (case aR => repeat (first | exact (Kd.R_reads' HO407.out).2.2 | (with_reducible refine Kd.C_alloc ?_ _) | (with_reducible refine Kd.C_drewN ?_ _) | (with_reducible refine Kd.C_drew ?_)))
                            (case aB => exact (by repeat (first | (with_reducible first | exact HB.out | apply below_alloc | apply pw_below_drewN | apply below_drew1 | refine below_set ?_ GE398.out) | exact HB.out)))
                            (case aF => exact (fun k_ hk => Kd.fresh' (Kd.R_lt (by (with_reducible repeat (first | apply Kd.R_alloc | apply Kd.R_drewN | apply Kd.R_drew)); exact HO407.out)) k_ hk))
                            (case aO => exact (by (with_reducible repeat (first | apply Kd.R_alloc | apply Kd.R_drewN | apply Kd.R_drew)); exact Kd.R_mono HO_9.out (fun _ hk => hk.2)))
                            (case aS => exact (below_size (by repeat (first | (with_reducible first | exact HB.out | apply below_alloc | apply pw_below_drewN | apply below_drew1 | refine below_set ?_ GE398.out) | exact HB.out))))
                            (case aL => have := LMc29.out; omega)
                            intro v409 w38 ho hb hg hat
                            rw [← Ny408.out] at ho
                            have n0_ := Aside0.mk (blk_grown (g := gb398) (o := .cells #[.string ((rd_T65 l1 x54_3).f0), .string ((rd_T65 l1 x54_3).f1)] 65 (0, 0)) (by (with_reducible repeat (first | refine blk_drewN ?_ _ | refine blk_drew ?_ | refine blk_alloc ?_ _)); exact BK398.out) hg (Kd.R_ne HO_9.out BK398.out (by decide)))
                            have n1_ := Aside0.mk (Kd.R_after (ok := (fun _ => True)) (by (with_reducible repeat (first | apply Kd.R_alloc | apply Kd.R_drewN | apply Kd.R_drew)); exact HO407.out) hg hat)
                            have n2_ := Aside0.mk (hb)
                            have n3_ := Aside0.mk (ho)
                            clear BK398
                            clear HO407
                            clear HB
                            clear HO_9
                            have BK398 := n0_
                            have HO407 := n1_
                            have HB := n2_
                            have HO410 := n3_
                            clear n0_ n1_ n2_ n3_
                            clear ho hb hg hat
                            refine hK.out _ _ ⟨(blk_cell BK398.out 0).trans rfl, (blk_cell BK398.out 1).trans rfl⟩ (fun hHeld => ?_)
                            clear hK K
                            refine norm_ (a' := ?_) ?_ ?_
                            rotate_left
                            · show Act.put _ (some 66) _ = _
                              simp only [Act.put, List.setIfInBounds_toArray, List.set_cons_zero, List.set_cons_succ, i64_w, i32_w]
                              rfl
                            refine pure_ (i := 9) (N := some 9) (v := ?_) (a' := ?_) #[true, true, true, true, true, true, true, true, true, true] rfl rfl (any_of HT_.out (by kernel_rfl)) (fun _ _ _ h => h) (Or.inl ⟨by rfl, ?_⟩) ?_ ?_
                            rotate_left
                            · intro w'
                              go_simp
                              with_reducible rfl
                            rotate_left
                            · simp only [Act.put, List.setIfInBounds_toArray, List.set_cons_zero, List.set_cons_succ, i64_w, i32_w]
                              rfl
                            refine done_ (done_of HT_.out (by kernel_rfl)) ?_
                            try go_wp2
                            go_roundg k3
                            case measure => have := HJ2.out; have := HJ11.out; have := HK3.out; omega
                            case rel => exact ⟨(y408), (wrap64 (x54_3 + 1)), (by first | rfl | (simp; done) | (simp [*]; done)), H', ⟨by have := HJ2.out; have := HJ11.out; have := HK3.out; omega⟩, ⟨by (with_reducible repeat (first | apply Kd.R_alloc | apply Kd.R_drewN | apply Kd.R_drew)); exact Kd.R_mono HO410.out (fun _ hk => trivial)⟩, ⟨by repeat (first | (with_reducible first | exact HB.out | apply below_alloc | apply pw_below_drewN | apply below_drew1 | refine below_set ?_ GE398.out) | exact HB.out)⟩⟩
                          · rw [if_neg c29] at H
                            exact absurd H (by simp)
                        · rw [if_neg c26] at H
                          exact absurd H (by simp)
                      · rw [if_neg c25] at H
                        exact absurd H (by simp)
                    · rw [if_neg c24] at H
                      have c24b0 : decide (x54_3 < (l1.length : Int)) = false := decide_eq_false c24
                      clear c24
                      replace H := Option.bind_eq_some_iff.mp H
                      obtain ⟨⟨t411, t412⟩, A400, H⟩ := H
                      replace H : (if t412 = 0 then ((pack_Seal.f k3 t411).bind fun t415 => (some (t415, 0))) else (some (([] : List Int), t412))) = some (r1, r2) := H
                      have A40 := Aside0.mk A400
                      clear A400
                      by_cases c41 : t412 = 0
                      · rw [if_pos c41] at H
                        have c41b0 : (t412 == 0) = true := beq_iff_eq.mpr c41
                        have c41b1 : (t412 != 0) = false := bne_eq_false_iff_eq.mpr c41
                        clear c41
                        replace H := Option.bind_eq_some_iff.mp H
                        obtain ⟨t415, A420, H⟩ := H
                        replace H : (some (t415, 0)) = some (r1, r2) := H
                        have A42 := Aside0.mk A420
                        clear A420
                        simp only [Option.some.injEq, Prod.mk.injEq] at H
                        obtain ⟨rfl, rfl⟩ := H
                        obtain ⟨Ao43, co43, eo43⟩ := Kd.R_slice HO_9.out
                        subst eo43
                        go_wp2_with (first | ((with_reducible refine gate_callee (f := 43) rfl ?_); refine goesL_ (some 70) rfl rfl Tryd.func43 (by kernel_rfl) rfl #[.slice Ao43 x9_3.length co43] rfl (by (try simp only [List.map_toArray, List.map_cons, List.map_nil]); first | done | rfl | (simp only [List.length_drop, List.length_take]; rfl)) ?_; (with_reducible refine (pack_Encode.calls _ _ x9_3 t411 t412 _ ?side1 ?side2 A40.out).mono ?_); (case side1 => repeat (first | exact (Kd.R_reads' HO_9.out).2.2 | (with_reducible refine Kd.C_alloc ?_ _) | (with_reducible refine Kd.C_drewN ?_ _) | (with_reducible refine Kd.C_drew ?_))); (case side2 => exact (Kd.R_reads' HO_9.out).2.1); rintro e w44 ⟨v413, rfl, ho0, hb⟩; refine ⟨_, rfl, ?_⟩; have n0_ := Aside0.mk (Kd.R_below (by (with_reducible repeat (first | apply Kd.R_alloc | apply Kd.R_drewN | apply Kd.R_drew)); exact HO_9.out) hb); have n1_ := Aside0.mk (Kd.R_lower ho0 (below_size (by repeat (first | (with_reducible first | exact HB.out | apply below_alloc | apply pw_below_drewN | apply below_drew1) | exact HB.out)))); have n2_ := Aside0.mk (below_step (by repeat (first | (with_reducible first | exact HB.out | apply below_alloc | apply pw_below_drewN | apply below_drew1) | exact HB.out)) hb); clear HO_9; clear HB; have HO_9 := n0_; have HO414 := n1_; have HB := n2_; clear n0_ n1_ n2_; (try clear hb); (try clear hb2); (try clear hk); (try clear hi); (try clear ho0); obtain ⟨Ao45, co45, eo45⟩ := Kd.R_slice HO414.out; subst eo45) | ((with_reducible refine gate_callee (f := 44) rfl ?_); refine goesL_ (some 77) rfl rfl Tryd.func44 (by kernel_rfl) rfl #[.slice Ao45 t411.length co45] rfl (by (try simp only [List.map_toArray, List.map_cons, List.map_nil]); first | done | rfl | (simp only [List.length_drop, List.length_take]; rfl)) ?_; (with_reducible refine (pack_Seal.calls k3 _ _ t411 t415 _ ?side1 ?side2 A42.out).mono ?_); (case side1 => repeat (first | exact (Kd.R_reads' HO414.out).2.2 | (with_reducible refine Kd.C_alloc ?_ _) | (with_reducible refine Kd.C_drewN ?_ _) | (with_reducible refine Kd.C_drew ?_))); (case side2 => exact (Kd.R_reads' HO414.out).2.1); rintro e w46 ⟨v416, rfl, ho0, hb⟩; refine ⟨_, rfl, ?_⟩; have n0_ := Aside0.mk (Kd.R_below (by (with_reducible repeat (first | apply Kd.R_alloc | apply Kd.R_drewN | apply Kd.R_drew)); exact HO_9.out) hb); have n1_ := Aside0.mk (Kd.R_elder' (by (with_reducible repeat (first | apply Kd.R_alloc | apply Kd.R_drewN | apply Kd.R_drew)); exact HO414.out) (Kd.R_base ho0) hb); have n2_ := Aside0.mk (Kd.R_lower (Kd.R_new' ho0 (Kd.R_lt (by (with_reducible repeat (first | apply Kd.R_alloc | apply Kd.R_drewN | apply Kd.R_drew)); exact HO414.out))) (below_size (by repeat (first | (with_reducible first | exact HB.out | apply below_alloc | apply pw_below_drewN | apply below_drew1) | exact HB.out)))); have n3_ := Aside0.mk (below_step (by repeat (first | (with_reducible first | exact HB.out | apply below_alloc | apply pw_below_drewN | apply below_drew1) | exact HB.out)) hb); clear HO_9; clear HO414; clear HB; have HO_9 := n0_; have HO414 := n1_; have HO417 := n2_; have HB := n3_; clear n0_ n1_ n2_ n3_; (try clear hb); (try clear hb2); (try clear hk); (try clear hi); (try clear ho0)))
                        go_ret2
                        exact ⟨_, by first | rfl | (simp [errW_none, errW_some] <;> rfl) | (simp [*, errW_none, errW_some] <;> rfl), by (with_reducible repeat (first | apply Kd.R_alloc | apply Kd.R_drewN | apply Kd.R_drew)); exact Kd.R_mono HO417.out (fun _ hk => trivial), by repeat (first | (with_reducible first | exact HB.out | apply below_alloc | apply pw_below_drewN | apply below_drew1) | exact HB.out)⟩
                      · rw [if_neg c41] at H
                        have c41b0 : (t412 == 0) = false := beq_eq_false_iff_ne.mpr c41
                        have c41b1 : (t412 != 0) = true := bne_iff_ne.mpr c41
                        simp only [Option.some.injEq, Prod.mk.injEq] at H
                        obtain ⟨rfl, rfl⟩ := H
                        obtain ⟨Ao47, co47, eo47⟩ := Kd.R_slice HO_9.out
                        subst eo47
                        go_wp2_with (first | ((with_reducible refine gate_callee (f := 43) rfl ?_); refine goesL_ (some 70) rfl rfl Tryd.func43 (by kernel_rfl) rfl #[.slice Ao47 x9_3.length co47] rfl (by (try simp only [List.map_toArray, List.map_cons, List.map_nil]); first | done | rfl | (simp only [List.length_drop, List.length_take]; rfl)) ?_; (with_reducible refine (pack_Encode.calls _ _ x9_3 t411 t412 _ ?side1 ?side2 A40.out).mono ?_); (case side1 => repeat (first | exact (Kd.R_reads' HO_9.out).2.2 | (with_reducible refine Kd.C_alloc ?_ _) | (with_reducible refine Kd.C_drewN ?_ _) | (with_reducible refine Kd.C_drew ?_))); (case side2 => exact (Kd.R_reads' HO_9.out).2.1); rintro e w48 ⟨v413, rfl, ho0, hb⟩; refine ⟨_, rfl, ?_⟩; have n0_ := Aside0.mk (Kd.R_below (by (with_reducible repeat (first | apply Kd.R_alloc | apply Kd.R_drewN | apply Kd.R_drew)); exact HO_9.out) hb); have n1_ := Aside0.mk (Kd.R_lower ho0 (below_size (by repeat (first | (with_reducible first | exact HB.out | apply below_alloc | apply pw_below_drewN | apply below_drew1) | exact HB.out)))); have n2_ := Aside0.mk (below_step (by repeat (first | (with_reducible first | exact HB.out | apply below_alloc | apply pw_below_drewN | apply below_drew1) | exact HB.out)) hb); clear HO_9; clear HB; have HO_9 := n0_; have HO414 := n1_; have HB := n2_; clear n0_ n1_ n2_; (try clear hb); (try clear hb2); (try clear hk); (try clear hi); (try clear ho0)))
                        go_ret2
                        exact ⟨_, by first | rfl | (simp [errW_none, errW_some] <;> rfl) | (simp [*, errW_none, errW_some] <;> rfl), by first | exact Kd.R_nil _ _ _ _ _ | exact Kd.N_nil _ _ _ _ _ | exact Kd.V_nil _ _ _ _ _ | exact Kd.Q_nil _ _ _ _ _ | exact Kd.S_nil _ _ _ _ _, by repeat (first | (with_reducible first | exact HB.out | apply below_alloc | apply pw_below_drewN | apply below_drew1) | exact HB.out)⟩
              · replace c17 := Bool.eq_false_iff.mpr c17
                subst c17
                have H1 : (some (([] : List Int), 2)) = some (r1, r2) := by rw [if_neg (show ¬ (false = true) by decide)] at H; exact H
                clear H
                have H := H1
                clear H1
                simp only [Option.some.injEq, Prod.mk.injEq] at H
                obtain ⟨rfl, rfl⟩ := H
                go_wp2_with (first | (go_at_call 42; (with_reducible refine (record_fit.calls kj11 _ _ l1 false _ ?side1 ?side2 A16.out).mono ?_); (case side1 => repeat (first | exact (Kd.C_below HR1.out HB.out) | (with_reducible refine Kd.C_alloc ?_ _) | (with_reducible refine Kd.C_drewN ?_ _) | (with_reducible refine Kd.C_drew ?_))); (case side2 => exact HC1.out); rintro e w49 ⟨rfl, hb⟩; have n0_ := Aside0.mk (below_step (by repeat (first | (with_reducible first | exact HB.out | apply below_alloc | apply pw_below_drewN | apply below_drew1) | exact HB.out)) hb); clear HB; have HB := n0_; clear n0_; (try clear hb); (try clear hb2); (try clear hk); (try clear hi)))
                go_ret2
                exact ⟨_, by first | rfl | (simp [errW_none, errW_some] <;> rfl) | (simp [*, errW_none, errW_some] <;> rfl), by first | exact Kd.R_nil _ _ _ _ _ | exact Kd.N_nil _ _ _ _ _ | exact Kd.V_nil _ _ _ _ _ | exact Kd.Q_nil _ _ _ _ _ | exact Kd.S_nil _ _ _ _ _, by repeat (first | (with_reducible first | exact HB.out | apply below_alloc | apply pw_below_drewN | apply below_drew1) | exact HB.out)⟩
end
end Go.Proofs.YtmkkeccmjejfnaaDoor.PA
namespace Go.Proofs.YtmkkeccmjejfnaaDoor.PA
section

open Go.RowKit Go.Proofs.YtmkkeccmjejfnaaDoorW.PrintWords Go.Proofs.YtmkkeccmjejfnaaDoorW.PrintLast Go.Proofs.YtmkkeccmjejfnaaDoorW.PrintMore
attribute [local go_sem] pr_leq pr_geq pr_gtr max2_int min2_int max_two min_two max_three min_three max_four min_four
set_option linter.unusedVariables false
set_option linter.unusedSimpArgs false
def bytes_Equal.f (l0 : List Int) (l1 : List Int) : Option (Bool) := some ((strOfNums l0).toList == (strOfNums l1).toList)
set_option maxHeartbeats 8000000 in
set_option maxRecDepth 100000 in
theorem bytes_Equal.calls (A0 : Option Addr) (c0 : Nat) (l0 : List Int) (A1 : Option Addr) (c1 : Nat) (l1 : List Int) (r : Bool) (w : World) (hr0 : Kd.C (Kd.int .u8) w A0 l0.length l0) (hc0 : l0.length ≤ c0) (hr1 : Kd.C (Kd.int .u8) w A1 l1.length l1) (hc1 : l1.length ≤ c1) (h : bytes_Equal.f l0 l1 = some r) :
    Calls Tryd.prog 46 #[.slice A0 l0.length c0, .slice A1 l1.length c1] w fun e w' => e = .returned (.bool r) ∧ Drawn0 w w' := by
  have HR0 := Aside0.mk hr0
  have HC0 := Aside0.mk hc0
  clear hr0 hc0
  have HR1 := Aside0.mk hr1
  have HC1 := Aside0.mk hc1
  clear hr1 hc1
  have H : (some ((strOfNums l0).toList == (strOfNums l1).toList)) = some r := h
  clear h
  obtain rfl := Option.some.inj H
  have hcv3 := Kd.C_string (P := Tryd.prog) (A := A0) (c := c0) Tryd.underlying36 Tryd.underlying5 Tryd.underlying9 HR0.out
  have hcv4 := Kd.C_string (P := Tryd.prog) (A := A1) (c := c1) Tryd.underlying36 Tryd.underlying5 Tryd.underlying9 HR1.out
  go_enter Tryd.func46, Tryd.ntmps46
  go_wp2
  go_ret
  exact ⟨by first | rfl | (simp; done) | (simp [*]; done), by repeat (first | exact Drawn0.refl _ | apply Drawn0.step)⟩
end
end Go.Proofs.YtmkkeccmjejfnaaDoor.PA
namespace Go.Proofs.YtmkkeccmjejfnaaDoor.PA
section

open Go.RowKit Go.Proofs.YtmkkeccmjejfnaaDoorW.PrintWords Go.Proofs.YtmkkeccmjejfnaaDoorW.PrintLast Go.Proofs.YtmkkeccmjejfnaaDoorW.PrintMore
attribute [local go_sem] pr_leq pr_geq pr_gtr max2_int min2_int max_two min_two max_three min_three max_four min_four
set_option linter.unusedVariables false
set_option linter.unusedSimpArgs false
attribute [local go_sem high] eqA77
theorem pr_empty_false {l : List UInt8} (h : (l == []) = false) : l.isEmpty = false := by cases l <;> simp_all
theorem pr_empty_true {l : List UInt8} (h : (l == []) = true) : l.isEmpty = true ∧ l = [] := by cases l <;> simp_all
mutual
def record_DecodePairs.j0 : Nat → List Int → List (S77) → Bool → Option (Int × (List (S65)) × Int)
  | 0, _, _, _ => none
  | k + 1, x0, x5, x40 => if x40 = true then (some (0, ([] : List (S65)), 2)) else (record_DecodePairs.l0 k x0 x5 ([] : List (S65)) 2)
def record_DecodePairs.l0 : Nat → List Int → List (S77) → List (S65) → Int → Option (Int × (List (S65)) × Int)
  | 0, _, _, _, _ => none
  | k + 1, x0, x5, x7, x8 => if x8 < (x5.length : Int) then (if 0 ≤ x8 then (if ((rd_T77 x5 x8).f0) = 2 then (if 0 ≤ (wrap64 (x8 + 1)) then (if (wrap64 (x8 + 1)) < (x5.length : Int) then (if ((rd_T77 x5 (wrap64 (x8 + 1))).f0) = 2 then (if x7.length < 4398046511104 then (record_DecodePairs.l0 k x0 x5 (x7 ++ [(⟨(rd_T77 x5 x8).f2, (rd_T77 x5 (wrap64 (x8 + 1))).f2⟩ : S65)]) (wrap64 (x8 + 2))) else (none)) else (some (0, ([] : List (S65)), 2))) else (none)) else (none)) else (some (0, ([] : List (S65)), 2))) else (none)) else (if 1 < (x5.length : Int) then ((record_EncodePairs.f k ((rd_T77 x5 1).f1) x7).bind fun bt445 => (if bt445.2 = 0 then ((bytes_Equal.f bt445.1 x0).bind fun t449 => (if t449 = true then (some ((rd_T77 x5 1).f1, x7, 0)) else (some (0, ([] : List (S65)), 2)))) else (some (0, ([] : List (S65)), 2)))) else (none))
end
def record_DecodePairs.f (k : Nat) (l0 : List Int) : Option (Int × (List (S65)) × Int) := (record_unseal.f k l0).bind fun bt431 => (if bt431.2 = 0 then (if (bt431.1.length : Int) < 2 then (record_DecodePairs.j0 k l0 bt431.1 true) else (if ((bt431.1.length : Int) % 2) = 0 then (if 0 < (bt431.1.length : Int) then (if (!(((rd_T77 bt431.1 0).f0) == 1) || (!(((rd_T77 bt431.1 0).f1) == 4) || (!((((rd_T77 bt431.1 0).f2).toList) == ([] : List UInt8))))) = true then (record_DecodePairs.j0 k l0 bt431.1 true) else (if 1 < (bt431.1.length : Int) then (record_DecodePairs.j0 k l0 bt431.1 (((rd_T77 bt431.1 1).f0) != 1)) else (none))) else (none)) else (record_DecodePairs.j0 k l0 bt431.1 true))) else (some (0, ([] : List (S65)), bt431.2)))
def record_DecodePairs.T12 : Bool × List (List Nat × List Nat) := (true, [([], []), ([], []), ([], []), ([1, 2], [1, 2]), ([3], [3]), ([4], [4]), ([], []), ([], []), ([7], [7]), ([6, 8], [6, 8]), ([9], [9]), ([10], [10]), ([5, 11], [5, 11]), ([12], [12]), ([0, 13], [0, 13]), ([14, 14, 0, 1, 2, 3, 4, 5, 6, 7, 8, 9, 10, 11, 12, 13, 14], [0, 14])])
def record_DecodePairs.B12 : List Nat := [0, 0, 0, 6, 14, 30, 0, 0, 128, 448, 960, 1984, 4094, 8190, 16383, 32767]
theorem record_DecodePairs.tab12 : rtab .any (opsOf Tryd.f26 12) = record_DecodePairs.T12 := by kernel_rfl
theorem record_DecodePairs.bits12 : waitsOk record_DecodePairs.T12.2 record_DecodePairs.B12 = true := by kernel_rfl
set_option maxHeartbeats 8000000 in
set_option maxRecDepth 100000 in
theorem record_DecodePairs.calls (k : Nat) (A0 : Option Addr) (c0 : Nat) (l0 : List Int) (r1 : Int) (r2 : List (S65)) (r3 : Int) (w : World) (hr0 : Kd.C (Kd.int .u8) w A0 l0.length l0) (hc0 : l0.length ≤ c0) (h : record_DecodePairs.f k l0 = some (r1, r2, r3)) :
    Calls Tryd.prog 26 #[.slice A0 l0.length c0] w fun e w' => ∃ v1_ : Value, e = .returned (.tuple #[.int .i64 r1, v1_, .int .i64 r3]) ∧ Kd.R k65 65 w' w.heap.size (fun _ => True) v1_ r2 ∧ Below w.heap.size w w' := by
  have hu77 := Tryd.underlying77
  have hu65 := Tryd.underlying65
  have HR0 := Aside0.mk hr0
  have HC0 := Aside0.mk hc0
  clear hr0 hc0
  have HB := Aside0.mk (Below.refl w.heap.size w)
  have H : ((record_unseal.f k l0).bind fun bt431 => (if bt431.2 = 0 then (if (bt431.1.length : Int) < 2 then (record_DecodePairs.j0 k l0 bt431.1 true) else (if ((bt431.1.length : Int) % 2) = 0 then (if 0 < (bt431.1.length : Int) then (if (!(((rd_T77 bt431.1 0).f0) == 1) || (!(((rd_T77 bt431.1 0).f1) == 4) || (!((((rd_T77 bt431.1 0).f2).toList) == ([] : List UInt8))))) = true then (record_DecodePairs.j0 k l0 bt431.1 true) else (if 1 < (bt431.1.length : Int) then (record_DecodePairs.j0 k l0 bt431.1 (((rd_T77 bt431.1 1).f0) != 1)) else (none))) else (none)) else (record_DecodePairs.j0 k l0 bt431.1 true))) else (some (0, ([] : List (S65)), bt431.2)))) = some (r1, r2, r3) := h
  clear h
  replace H := Option.bind_eq_some_iff.mp H
  obtain ⟨⟨t431, t432⟩, A20, H⟩ := H
  replace H : (if t432 = 0 then (if (t431.length : Int) < 2 then (record_DecodePairs.j0 k l0 t431 true) else (if ((t431.length : Int) % 2) = 0 then (if 0 < (t431.length : Int) then (if (!(((rd_T77 t431 0).f0) == 1) || (!(((rd_T77 t431 0).f1) == 4) || (!((((rd_T77 t431 0).f2).toList) == ([] : List UInt8))))) = true then (record_DecodePairs.j0 k l0 t431 true) else (if 1 < (t431.length : Int) then (record_DecodePairs.j0 k l0 t431 (((rd_T77 t431 1).f0) != 1)) else (none))) else (none)) else (record_DecodePairs.j0 k l0 t431 true))) else (some (0, ([] : List (S65)), t432))) = some (r1, r2, r3) := H
  have A2 := Aside0.mk A20
  clear A20
  by_cases c3 : t432 = 0
  · rw [if_pos c3] at H
    have c3b0 : (t432 == 0) = true := beq_iff_eq.mpr c3
    have c3b1 : (t432 != 0) = false := bne_eq_false_iff_eq.mpr c3
    clear c3
    have HC4 := Aside0.mk H
    clear H
    go_enter Tryd.func26, Tryd.ntmps26
    go_upto_region 4 with (first | ((with_reducible refine gate_callee (f := 45) rfl ?_); refine goesL_ (some 12) rfl rfl Tryd.func45 (by kernel_rfl) rfl #[.slice A0 l0.length c0] rfl (by (try simp only [List.map_toArray, List.map_cons, List.map_nil]); first | done | rfl | (simp only [List.length_drop, List.length_take]; rfl)) ?_; (with_reducible refine (record_unseal.calls k _ _ l0 t431 t432 _ ?side1 ?side2 A2.out).mono ?_); (case side1 => repeat (first | exact HR0.out | (with_reducible refine Kd.C_alloc ?_ _) | (with_reducible refine Kd.C_drewN ?_ _) | (with_reducible refine Kd.C_drew ?_))); (case side2 => exact HC0.out); rintro e w5 ⟨v433, rfl, ho0, hb⟩; refine ⟨_, rfl, ?_⟩; have n0_ := Aside0.mk (Kd.R_lower ho0 (below_size (by repeat (first | (with_reducible first | exact HB.out | apply below_alloc | apply pw_below_drewN | apply below_drew1) | exact HB.out)))); have n1_ := Aside0.mk (below_step (by repeat (first | (with_reducible first | exact HB.out | apply below_alloc | apply pw_below_drewN | apply below_drew1) | exact HB.out)) hb); clear HB; have HO434 := n0_; have HB := n1_; clear n0_ n1_; (try clear hb); (try clear hb2); (try clear hk); (try clear hi); (try clear ho0)))
    (try simp only [Act.put, List.setIfInBounds_toArray, List.set_cons_zero, List.set_cons_succ])
    go_cut [40] (fun v40 wc => ∃ (kq : Nat) (x40_3 : Bool), v40 = .bool x40_3 ∧ Aside0 (record_DecodePairs.j0 kq l0 t431 x40_3 = some (r1, r2, r3)) ∧ Aside0 (kq ≤ k) ∧ Aside0 (Kd.R k77 77 wc w.heap.size (fun _ => True) v433 t431) ∧ Aside0 (Below w.heap.size w wc))
    case first =>
      have H := HC4.out
      clear HC4
      by_cases c6 : (t431.length : Int) < 2
      · rw [if_pos c6] at H
        have c6b0 : decide ((t431.length : Int) < 2) = true := decide_eq_true c6
        have c6b1 : decide (t431.length < 2) = true := decide_eq_true (by omega)
        clear c6
        (first | rw [c6b0] | (simp only [i64_w, i32_w]; rw [c6b0]) | skip)
        have H' := Aside0.mk H
        clear H
        obtain ⟨Ao7, co7, eo7⟩ := Kd.R_slice HO434.out
        subst eo7
        go_wp2
        go_meet
        case rel => exact ⟨_, (true), (by first | rfl | (simp; done) | (simp [*]; done)), H', ⟨by first | omega | exact Nat.le_refl _⟩, ⟨by (with_reducible repeat (first | apply Kd.R_alloc | apply Kd.R_drewN | apply Kd.R_drew)); exact HO434.out⟩, ⟨by repeat (first | (with_reducible first | exact HB.out | apply below_alloc | apply pw_below_drewN | apply below_drew1) | exact HB.out)⟩⟩
      · rw [if_neg c6] at H
        have c6b0 : decide ((t431.length : Int) < 2) = false := decide_eq_false c6
        have c6b1 : decide (t431.length < 2) = false := decide_eq_false (by omega)
        clear c6
        (first | rw [c6b0] | (simp only [i64_w, i32_w]; rw [c6b0]) | skip)
        by_cases c8 : ((t431.length : Int) % 2) = 0
        · rw [if_pos c8] at H
          have c8b0 : (((t431.length : Int) % 2) == 0) = true := beq_iff_eq.mpr c8
          have c8b1 : (((t431.length : Int) % 2) != 0) = false := bne_eq_false_iff_eq.mpr c8
          clear c8
          by_cases c9 : 0 < (t431.length : Int)
          · rw [if_pos c9] at H
            have c9b0 : decide (0 < (t431.length : Int)) = true := decide_eq_true c9
            have c9b1 : decide (0 < t431.length) = true := decide_eq_true (by omega)
            clear c9
            by_cases c10 : (!(((rd_T77 t431 0).f0) == 1) || (!(((rd_T77 t431 0).f1) == 4) || (!((((rd_T77 t431 0).f2).toList) == ([] : List UInt8))))) = true
            · rw [if_pos c10] at H
              have c10b0 : (!(((rd_T77 t431 0).f0) == 1) || (!(((rd_T77 t431 0).f1) == 4) || (!((((rd_T77 t431 0).f2).toList) == ([] : List UInt8))))) = true := c10
              have k_ := c10b0
              clear c10 c10b0
              simp only [Bool.or_eq_true, Bool.not_eq_true'] at k_
              rcases k_ with k_ | k_ | k_
              all_goals
                try have ke_ := pr_empty_false k_
                have H' := Aside0.mk H
                clear H
                obtain ⟨Ao11, co11, eo11⟩ := Kd.R_slice HO434.out
                subst eo11
                have p435 : 0 ≤ (0 : Int) := (by omega)
                have q435 : 0 < (t431.length : Int) := of_decide_eq_true (by first | (with_reducible assumption) | assumption)
                obtain ⟨ad435, e435, hx435_0, hx435_1, hx435_2⟩ := at_T77 (Kd.R_reads' HO434.out).2.2 0 p435 q435
                cases e435
                have qi435 : (0 < t431.length) = True := eq_true (by omega)
                (try rw [show ((0 : Int)).toNat = 0 from rfl] at hx435_0)
                (try rw [show 0 * 3 = 0 from rfl] at hx435_0)
                (try rw [Addr.add_zero'] at hx435_0)
                (try rw [show ((0 : Int)).toNat = 0 from rfl] at hx435_1)
                (try rw [show 0 * 3 = 0 from rfl] at hx435_1)
                (try rw [Addr.add_zero'] at hx435_1)
                (try rw [show ((0 : Int)).toNat = 0 from rfl] at hx435_2)
                (try rw [show 0 * 3 = 0 from rfl] at hx435_2)
                (try rw [Addr.add_zero'] at hx435_2)
                replace p435 := eq_true p435
                replace q435 := eq_true q435
                go_wp2
                go_meet
                case rel => exact ⟨_, (true), (by first | rfl | (simp; done) | (simp [*]; done)), H', ⟨by first | omega | exact Nat.le_refl _⟩, ⟨by (with_reducible repeat (first | apply Kd.R_alloc | apply Kd.R_drewN | apply Kd.R_drew)); exact HO434.out⟩, ⟨by repeat (first | (with_reducible first | exact HB.out | apply below_alloc | apply pw_below_drewN | apply below_drew1) | exact HB.out)⟩⟩
            · rw [if_neg c10] at H
              have c10b0 : (!(((rd_T77 t431 0).f0) == 1) || (!(((rd_T77 t431 0).f1) == 4) || (!((((rd_T77 t431 0).f2).toList) == ([] : List UInt8))))) = false := by simpa using c10
              have k_ := c10b0
              clear c10b0
              simp only [Bool.or_eq_false_iff, Bool.not_eq_false'] at k_
              obtain ⟨k1_, k2_, k3_⟩ := k_
              obtain ⟨k4_, k5_⟩ := pr_empty_true k3_
              clear c10
              by_cases c12 : 1 < (t431.length : Int)
              · rw [if_pos c12] at H
                have c12b0 : decide (1 < (t431.length : Int)) = true := decide_eq_true c12
                have c12b1 : decide (1 < t431.length) = true := decide_eq_true (by omega)
                clear c12
                have H' := Aside0.mk H
                clear H
                obtain ⟨Ao13, co13, eo13⟩ := Kd.R_slice HO434.out
                subst eo13
                have p435 : 0 ≤ (0 : Int) := (by omega)
                have q435 : 0 < (t431.length : Int) := of_decide_eq_true (by first | (with_reducible assumption) | assumption)
                obtain ⟨ad435, e435, hx435_0, hx435_1, hx435_2⟩ := at_T77 (Kd.R_reads' HO434.out).2.2 0 p435 q435
                cases e435
                have qi435 : (0 < t431.length) = True := eq_true (by omega)
                (try rw [show ((0 : Int)).toNat = 0 from rfl] at hx435_0)
                (try rw [show 0 * 3 = 0 from rfl] at hx435_0)
                (try rw [Addr.add_zero'] at hx435_0)
                (try rw [show ((0 : Int)).toNat = 0 from rfl] at hx435_1)
                (try rw [show 0 * 3 = 0 from rfl] at hx435_1)
                (try rw [Addr.add_zero'] at hx435_1)
                (try rw [show ((0 : Int)).toNat = 0 from rfl] at hx435_2)
                (try rw [show 0 * 3 = 0 from rfl] at hx435_2)
                (try rw [Addr.add_zero'] at hx435_2)
                replace p435 := eq_true p435
                replace q435 := eq_true q435
                have p436 : 0 ≤ (1 : Int) := (by omega)
                have q436 : 1 < (t431.length : Int) := of_decide_eq_true (by first | (with_reducible assumption) | assumption)
                obtain ⟨ad436, e436, hx436_0, hx436_1, hx436_2⟩ := at_T77 (Kd.R_reads' HO434.out).2.2 1 p436 q436
                obtain rfl : ad435 = ad436 := (by injection e436)
                (try simp only [show (1 : Int).toNat = 1 from rfl, Nat.reduceMul, Nat.reduceEqDiff, Go.Addr.add, ↓reduceIte] at hx436_0)
                (try simp only [show (1 : Int).toNat = 1 from rfl, Nat.reduceMul, Nat.reduceEqDiff, Go.Addr.add, ↓reduceIte] at hx436_1)
                (try simp only [show (1 : Int).toNat = 1 from rfl, Nat.reduceMul, Nat.reduceEqDiff, Go.Addr.add, ↓reduceIte] at hx436_2)
                have qi436 : (1 < t431.length) = True := eq_true (by omega)
                (try rw [show ((1 : Int)).toNat = 1 from rfl] at hx436_0)
                (try rw [show 1 * 3 = 3 from rfl] at hx436_0)
                (try rw [show ((1 : Int)).toNat = 1 from rfl] at hx436_1)
                (try rw [show 1 * 3 = 3 from rfl] at hx436_1)
                (try rw [show ((1 : Int)).toNat = 1 from rfl] at hx436_2)
                (try rw [show 1 * 3 = 3 from rfl] at hx436_2)
                replace p436 := eq_true p436
                replace q436 := eq_true q436
                go_wp2
                go_meet
                case rel => exact ⟨_, ((((rd_T77 t431 1).f0) != 1)), (by first | rfl | (simp; done) | (simp [*]; done)), H', ⟨by first | omega | exact Nat.le_refl _⟩, ⟨by (with_reducible repeat (first | apply Kd.R_alloc | apply Kd.R_drewN | apply Kd.R_drew)); exact HO434.out⟩, ⟨by repeat (first | (with_reducible first | exact HB.out | apply below_alloc | apply pw_below_drewN | apply below_drew1) | exact HB.out)⟩⟩
              · rw [if_neg c12] at H
                exact absurd H (by simp)
          · rw [if_neg c9] at H
            exact absurd H (by simp)
        · rw [if_neg c8] at H
          have c8b0 : (((t431.length : Int) % 2) == 0) = false := beq_eq_false_iff_ne.mpr c8
          have c8b1 : (((t431.length : Int) % 2) != 0) = true := bne_iff_ne.mpr c8
          have H' := Aside0.mk H
          clear H
          obtain ⟨Ao14, co14, eo14⟩ := Kd.R_slice HO434.out
          subst eo14
          go_wp2
          go_meet
          case rel => exact ⟨_, (true), (by first | rfl | (simp; done) | (simp [*]; done)), H', ⟨by first | omega | exact Nat.le_refl _⟩, ⟨by (with_reducible repeat (first | apply Kd.R_alloc | apply Kd.R_drewN | apply Kd.R_drew)); exact HO434.out⟩, ⟨by repeat (first | (with_reducible first | exact HB.out | apply below_alloc | apply pw_below_drewN | apply below_drew1) | exact HB.out)⟩⟩
    case rest =>
      clear HC4
      try clear c1
      try clear c2
      try clear p2
      try clear c3
      try clear c3b0
      try clear c3b1
      try clear c4
      try clear p4
      try clear q4
      try clear hx4
      try clear qi4
      try clear c6
      try clear c6b0
      try clear c6b1
      try clear c8
      try clear c8b0
      try clear c8b1
      try clear c9
      try clear c9b0
      try clear c9b1
      try clear c10
      try clear c10b0
      try clear c12
      try clear c12b0
      try clear c12b1
      try clear hx435_0
      try clear hx435_1
      try clear hx435_2
      try clear hx436_0
      try clear hx436_1
      try clear hx436_2
      try clear p435
      try clear p436
      try clear q435
      try clear q436
      obtain ⟨kq, x40_3, rfl, HA, HJ3, HO_5, HB⟩ := hcut
      cases kq with
      | zero => exact absurd HA.out (by simp [record_DecodePairs.j0])
      | succ kj3 =>
        have H := HA.out
        clear HA
        simp only [record_DecodePairs.j0] at H
        by_cases c15 : x40_3 = true
        · subst c15
          have H1 : (some (0, ([] : List (S65)), 2)) = some (r1, r2, r3) := by rw [if_pos rfl] at H; exact H
          clear H
          have H := H1
          clear H1
          simp only [Option.some.injEq, Prod.mk.injEq] at H
          obtain ⟨rfl, rfl, rfl⟩ := H
          go_wp2
          go_ret3
          exact ⟨_, by first | rfl | (simp [errW_none, errW_some] <;> rfl) | (simp [*, errW_none, errW_some] <;> rfl), by first | exact Kd.R_nil _ _ _ _ _ | exact Kd.N_nil _ _ _ _ _ | exact Kd.V_nil _ _ _ _ _ | exact Kd.Q_nil _ _ _ _ _ | exact Kd.S_nil _ _ _ _ _, by repeat (first | (with_reducible first | exact HB.out | apply below_alloc | apply pw_below_drewN | apply below_drew1) | exact HB.out)⟩
        · replace c15 := Bool.eq_false_iff.mpr c15
          subst c15
          have H1 : (record_DecodePairs.l0 kj3 l0 t431 ([] : List (S65)) 2) = some (r1, r2, r3) := by rw [if_neg (show ¬ (false = true) by decide)] at H; exact H
          clear H
          have H := H1
          clear H1
          have H' := Aside0.mk H
          clear H
          go_wp2
          go_loopg [7, 8] kj3 (fun kq v7 v8 w' => ∃ (x7_2 : List (S65)) (x8_2 : Int), v8 = .int .i64 x8_2 ∧ Aside0 (record_DecodePairs.l0 kq l0 t431 x7_2 x8_2 = some (r1, r2, r3)) ∧ Aside0 (kq ≤ kj3) ∧ Aside0 (Kd.R k77 77 w' w.heap.size (fun _ => True) v433 t431) ∧ Aside0 (Kd.R k65 65 w' w.heap.size (fun _ => True) v7 x7_2) ∧ Aside0 (Below w.heap.size w w'))
          case atStart => exact ⟨(([] : List (S65))), (2), (by first | rfl | (simp; done) | (simp [*]; done)), H', ⟨Nat.le_refl _⟩, ⟨by (with_reducible repeat (first | apply Kd.R_alloc | apply Kd.R_drewN | apply Kd.R_drew)); exact HO_5.out⟩, ⟨by first | exact Kd.R_nil _ _ _ _ _ | exact Kd.N_nil _ _ _ _ _ | exact Kd.V_nil _ _ _ _ _ | exact Kd.Q_nil _ _ _ _ _ | exact Kd.S_nil _ _ _ _ _⟩, ⟨by repeat (first | (with_reducible first | exact HB.out | apply below_alloc | apply pw_below_drewN | apply below_drew1) | exact HB.out)⟩⟩
          case round =>
            clear H'
            try clear c1
            try clear c2
            try clear p2
            try clear c3
            try clear c3b0
            try clear c3b1
            try clear c4
            try clear p4
            try clear q4
            try clear hx4
            try clear qi4
            try clear c6
            try clear c6b0
            try clear c6b1
            try clear c8
            try clear c8b0
            try clear c8b1
            try clear c9
            try clear c9b0
            try clear c9b1
            try clear c10
            try clear c10b0
            try clear c12
            try clear c12b0
            try clear c12b1
            try clear c15
            try clear hx435_0
            try clear hx435_1
            try clear hx435_2
            try clear hx436_0
            try clear hx436_1
            try clear hx436_2
            try clear p2
            try clear p4
            try clear p435
            try clear p436
            try clear q4
            try clear q435
            try clear q436
            obtain ⟨x7_2, x8_2, rfl, HA, HK2, HO_5, HO_7, HB⟩ := hrel
            cases gk with
            | zero => exact absurd HA.out (by simp [record_DecodePairs.l0])
            | succ k2 =>
              have H := HA.out
              clear HA
              simp only [record_DecodePairs.l0] at H
              by_cases c16 : x8_2 < (t431.length : Int)
              · rw [if_pos c16] at H
                have c16b0 : decide (x8_2 < (t431.length : Int)) = true := decide_eq_true c16
                clear c16
                by_cases c17 : 0 ≤ x8_2
                · rw [if_pos c17] at H
                  have c17b0 : decide (0 ≤ x8_2) = true := decide_eq_true c17
                  clear c17
                  by_cases c18 : ((rd_T77 t431 x8_2).f0) = 2
                  · rw [if_pos c18] at H
                    have c18b0 : (((rd_T77 t431 x8_2).f0) == 2) = true := beq_iff_eq.mpr c18
                    have c18b1 : (((rd_T77 t431 x8_2).f0) != 2) = false := bne_eq_false_iff_eq.mpr c18
                    clear c18
                    obtain ⟨ji19, hji19⟩ : ∃ j_ : Int, (wrap64 (x8_2 + 1)) = j_ := ⟨_, rfl⟩
                    replace H : (if 0 ≤ (ji19) then (if (ji19) < (t431.length : Int) then (if ((rd_T77 t431 (ji19)).f0) = 2 then (if x7_2.length < 4398046511104 then (record_DecodePairs.l0 k2 l0 t431 (x7_2 ++ [(⟨(rd_T77 t431 x8_2).f2, (rd_T77 t431 (ji19)).f2⟩ : S65)]) (wrap64 (x8_2 + 2))) else (none)) else (some (0, ([] : List (S65)), 2))) else (none)) else (none)) = some (r1, r2, r3) := by first | (rw [hji19] at H; exact H) | (simp only [hji19] at H ⊢; exact H)
                    have hji19w : (IntKind.i64.wrap (x8_2 + 1)) = ji19 := (i64_w _).trans hji19
                    by_cases c20 : 0 ≤ (ji19)
                    · rw [if_pos c20] at H
                      have c20b0 : decide (0 ≤ (ji19)) = true := decide_eq_true c20
                      clear c20
                      by_cases c21 : (ji19) < (t431.length : Int)
                      · rw [if_pos c21] at H
                        have c21b0 : decide ((ji19) < (t431.length : Int)) = true := decide_eq_true c21
                        clear c21
                        by_cases c22 : ((rd_T77 t431 (ji19)).f0) = 2
                        · rw [if_pos c22] at H
                          have c22b0 : (((rd_T77 t431 (ji19)).f0) == 2) = true := beq_iff_eq.mpr c22
                          have c22b1 : (((rd_T77 t431 (ji19)).f0) != 2) = false := bne_eq_false_iff_eq.mpr c22
                          clear c22
                          by_cases c23 : x7_2.length < 4398046511104
                          · rw [if_pos c23] at H
                            have LMc23 := Aside0.mk c23
                            clear c23
                            obtain ⟨y441, hy441⟩ : ∃ y_ : List (S65), y_ = (x7_2 ++ [(⟨(rd_T77 t431 x8_2).f2, (rd_T77 t431 (ji19)).f2⟩ : S65)]) := ⟨_, rfl⟩
                            replace H : (record_DecodePairs.l0 k2 l0 t431 y441 (wrap64 (x8_2 + 2))) = some (r1, r2, r3) := by first | (rw [hy441]; with_reducible exact H) | (have H2_ := (Option.bind_some _ _).symm.trans H; rw [hy441]; with_reducible exact H2_) | (have H2_ := (Option.bind_some _ _).symm.trans H; with_reducible exact H2_) | with_reducible exact H | (rw [hy441]; exact H) | exact H
                            have Ny441 := Aside0.mk hy441
                            clear hy441
                            have H' := Aside0.mk H
                            clear H
                            obtain ⟨Ao24, co24, eo24⟩ := Kd.R_slice HO_5.out
                            subst eo24
                            have p437 : 0 ≤ (x8_2 : Int) := of_decide_eq_true (by first | (with_reducible assumption) | assumption)
                            have q437 : x8_2 < (t431.length : Int) := of_decide_eq_true (by first | (with_reducible assumption) | assumption)
                            obtain ⟨ad437, e437, hx437_0, hx437_1, hx437_2⟩ := at_T77 (Kd.R_reads' HO_5.out).2.2 x8_2 p437 q437
                            cases e437
                            replace p437 := eq_true p437
                            replace q437 := eq_true q437
                            have p438 : 0 ≤ ((ji19) : Int) := of_decide_eq_true (by first | (with_reducible assumption) | assumption)
                            have q438 : (ji19) < (t431.length : Int) := of_decide_eq_true (by first | (with_reducible assumption) | assumption)
                            obtain ⟨ad438, e438, hx438_0, hx438_1, hx438_2⟩ := at_T77 (Kd.R_reads' HO_5.out).2.2 (ji19) p438 q438
                            obtain rfl : ad437 = ad438 := (by injection e438)
                            replace p438 := eq_true p438
                            replace q438 := eq_true q438
                            try go_wp2
                            have n0_ := Aside0.mk (Kd.R_drew HO_5.out)
                            have n1_ := Aside0.mk (Kd.R_drew HO_7.out)
                            have n2_ := Aside0.mk (below_drew1 HB.out)
                            clear HO_5
                            clear HO_7
                            clear HB
                            have HO_5 := n0_
                            have HO_7 := n1_
                            have HB := n2_
                            clear n0_ n1_ n2_
                            have p439 : 0 ≤ (x8_2 : Int) := of_decide_eq_true (by first | (with_reducible assumption) | assumption)
                            have q439 : x8_2 < (t431.length : Int) := of_decide_eq_true (by first | (with_reducible assumption) | assumption)
                            obtain ⟨ad439, e439, hx439_0, hx439_1, hx439_2⟩ := at_T77 (Kd.R_reads' HO_5.out).2.2 x8_2 p439 q439
                            obtain rfl : ad437 = ad439 := (by injection e439)
                            replace p439 := eq_true p439
                            replace q439 := eq_true q439
                            have p440 : 0 ≤ ((ji19) : Int) := of_decide_eq_true (by first | (with_reducible assumption) | assumption)
                            have q440 : (ji19) < (t431.length : Int) := of_decide_eq_true (by first | (with_reducible assumption) | assumption)
                            obtain ⟨ad440, e440, hx440_0, hx440_1, hx440_2⟩ := at_T77 (Kd.R_reads' HO_5.out).2.2 (ji19) p440 q440
                            obtain rfl : ad437 = ad440 := (by injection e440)
                            replace p440 := eq_true p440
                            replace q440 := eq_true q440
                            refine start_ (n := 16) (S := fun w' => w'.cell? (ad437.add ((x8_2).toNat * 3)) = some (.int .i64 ((rd_T77 t431 x8_2).f0)) ∧ w'.cell? ⟨(ad437.add ((x8_2).toNat * 3)).block, (ad437.add ((x8_2).toNat * 3)).off + 1, none⟩ = some (.int .i64 ((rd_T77 t431 x8_2).f1)) ∧ w'.cell? ⟨(ad437.add ((x8_2).toNat * 3)).block, (ad437.add ((x8_2).toNat * 3)).off + 2, none⟩ = some (.string ((rd_T77 t431 x8_2).f2)) ∧ w'.cell? (ad437.add (((ji19)).toNat * 3)) = some (.int .i64 ((rd_T77 t431 (ji19)).f0)) ∧ w'.cell? ⟨(ad437.add (((ji19)).toNat * 3)).block, (ad437.add (((ji19)).toNat * 3)).off + 1, none⟩ = some (.int .i64 ((rd_T77 t431 (ji19)).f1)) ∧ w'.cell? ⟨(ad437.add (((ji19)).toNat * 3)).block, (ad437.add (((ji19)).toNat * 3)).off + 2, none⟩ = some (.string ((rd_T77 t431 (ji19)).f2))) (ds := [13, 14]) #[false, false, false, false, false, false, false, false, false, false, false, false, false, false, false, false] (by kernel_rfl) rfl rfl ⟨hx439_0, hx439_1, hx439_2, hx440_0, hx440_1, hx440_2⟩ (fun hHeld => ?_); refine with_tabW record_DecodePairs.tab12 record_DecodePairs.bits12 (fun HT_ HW_ => ?_)
                            generalize wr.drew = w25 at HO_5 HO_7 HB hx439_0 hx439_1 hx439_2 hx440_0 hx440_1 hx440_2 hHeld ⊢
                            refine pure_ (i := 0) (N := some 62) (v := ?_) (a' := ?_) #[true, false, false, false, false, false, false, false, false, false, false, false, false, false, false, false] rfl rfl (any_of HT_.out (by kernel_rfl)) (fun _ _ _ h => h) (Or.inl ⟨by rfl, ?_⟩) ?_ ?_
                            rotate_left
                            · intro w'
                              go_simp
                              with_reducible rfl
                            rotate_left
                            · simp only [Act.put, List.setIfInBounds_toArray, List.set_cons_zero, List.set_cons_succ, i64_w, i32_w]
                              rfl
                            refine pure_ (i := 1) (N := some 63) (v := ?_) (a' := ?_) #[true, true, false, false, false, false, false, false, false, false, false, false, false, false, false, false] rfl rfl (any_of HT_.out (by kernel_rfl)) (fun _ _ _ h => h) (Or.inl ⟨by rfl, ?_⟩) ?_ ?_
                            rotate_left
                            · intro w'
                              go_simp
                              with_reducible rfl
                            rotate_left
                            · simp only [Act.put, List.setIfInBounds_toArray, List.set_cons_zero, List.set_cons_succ, i64_w, i32_w]
                              rfl
                            refine pure_ (i := 2) (N := some 64) (v := ?_) (a' := ?_) #[true, true, true, false, false, false, false, false, false, false, false, false, false, false, false, false] rfl rfl (any_of HT_.out (by kernel_rfl)) (fun _ _ _ h => h) (Or.inl ⟨by rfl, ?_⟩) ?_ ?_
                            rotate_left
                            · intro w'
                              go_simp
                              with_reducible rfl
                            rotate_left
                            · simp only [Act.put, List.setIfInBounds_toArray, List.set_cons_zero, List.set_cons_succ, i64_w, i32_w]
                              rfl
                            refine pure_ (i := 3) (N := some 65) (v := ?_) (a' := ?_) #[true, true, true, true, false, false, false, false, false, false, false, false, false, false, false, false] rfl rfl (any_of HT_.out (by kernel_rfl)) (fun _ _ _ h => h) (Or.inl ⟨by rfl, ?_⟩) ?_ ?_
                            rotate_left
                            · intro w'
                              go_simp
                              with_reducible rfl
                            rotate_left
                            · simp only [Act.put, List.setIfInBounds_toArray, List.set_cons_zero, List.set_cons_succ, i64_w, i32_w]
                              rfl
                            refine pure_ (i := 4) (N := some 66) (v := ?_) (a' := ?_) #[true, true, true, true, true, false, false, false, false, false, false, false, false, false, false, false] rfl rfl (any_of HT_.out (by kernel_rfl)) (fun _ _ _ h => h) (Or.inl ⟨by rfl, ?_⟩) ?_ ?_
                            rotate_left
                            · intro w'
                              go_simp
                              with_reducible rfl
                            rotate_left
                            · simp only [Act.put, List.setIfInBounds_toArray, List.set_cons_zero, List.set_cons_succ, i64_w, i32_w]
                              rfl
                            refine pure_ (i := 6) (N := some 68) (v := ?_) (a' := ?_) #[true, true, true, true, true, false, true, false, false, false, false, false, false, false, false, false] rfl rfl (any_of HT_.out (by kernel_rfl)) (fun _ _ _ h => h) (Or.inl ⟨by rfl, ?_⟩) ?_ ?_
                            rotate_left
                            · intro w'
                              go_simp
                              with_reducible rfl
                            rotate_left
                            · simp only [Act.put, List.setIfInBounds_toArray, List.set_cons_zero, List.set_cons_succ, i64_w, i32_w]
                              rfl
                            refine pure_ (i := 7) (N := some 69) (v := ?_) (a' := ?_) #[true, true, true, true, true, false, true, true, false, false, false, false, false, false, false, false] rfl rfl (any_of HT_.out (by kernel_rfl)) (fun _ _ _ h => h) (Or.inl ⟨by rfl, ?_⟩) ?_ ?_
                            rotate_left
                            · intro w'
                              go_simp
                              with_reducible rfl
                            rotate_left
                            · simp only [Act.put, List.setIfInBounds_toArray, List.set_cons_zero, List.set_cons_succ, i64_w, i32_w]
                              rfl
                            refine pure_ (i := 8) (N := some 70) (v := ?_) (a' := ?_) #[true, true, true, true, true, false, true, true, true, false, false, false, false, false, false, false] rfl rfl (any_of HT_.out (by kernel_rfl)) (fun _ _ _ h => h) (Or.inl ⟨by rfl, ?_⟩) ?_ ?_
                            rotate_left
                            · intro w'
                              go_simp
                              with_reducible rfl
                            rotate_left
                            · simp only [Act.put, List.setIfInBounds_toArray, List.set_cons_zero, List.set_cons_succ, i64_w, i32_w]
                              rfl
                            refine pure_ (i := 9) (N := some 71) (v := ?_) (a' := ?_) #[true, true, true, true, true, false, true, true, true, true, false, false, false, false, false, false] rfl rfl (any_of HT_.out (by kernel_rfl)) (fun _ _ _ h => h) (Or.inl ⟨by rfl, ?_⟩) ?_ ?_
                            rotate_left
                            · intro w'
                              go_simp
                              with_reducible rfl
                            rotate_left
                            · simp only [Act.put, List.setIfInBounds_toArray, List.set_cons_zero, List.set_cons_succ, i64_w, i32_w]
                              rfl
                            refine pure_ (i := 10) (N := some 72) (v := ?_) (a' := ?_) #[true, true, true, true, true, false, true, true, true, true, true, false, false, false, false, false] rfl rfl (any_of HT_.out (by kernel_rfl)) (fun _ _ _ h => h) (Or.inl ⟨by rfl, ?_⟩) ?_ ?_
                            rotate_left
                            · intro w'
                              go_simp
                              with_reducible rfl
                            rotate_left
                            · simp only [Act.put, List.setIfInBounds_toArray, List.set_cons_zero, List.set_cons_succ, i64_w, i32_w]
                              rfl
                            refine take_ (i := 5) (N := some 67) (v := ?_) (a' := ?_) #[true, true, true, true, true, true, true, true, true, true, true, false, false, false, false, false] rfl rfl (take_ofW HT_.out HW_.out (by kernel_rfl)) (fun _ _ _ h => h) (Or.inl ⟨by rfl, ?_⟩) hHeld ?_ ?_
                            rotate_left
                            · rintro w' ⟨s0, s1, s2, s3, s4, s5⟩
                              go_simp
                              with_reducible rfl
                            rotate_left
                            · simp only [Act.put, List.setIfInBounds_toArray, List.set_cons_zero, List.set_cons_succ, i64_w, i32_w]
                              rfl
                            refine take_ (i := 11) (N := some 73) (v := ?_) (a' := ?_) #[true, true, true, true, true, true, true, true, true, true, true, true, false, false, false, false] rfl rfl (take_ofW HT_.out HW_.out (by kernel_rfl)) (fun _ _ _ h => h) (Or.inl ⟨by rfl, ?_⟩) hHeld ?_ ?_
                            rotate_left
                            · rintro w' ⟨s0, s1, s2, s3, s4, s5⟩
                              go_simp
                              with_reducible rfl
                            rotate_left
                            · simp only [Act.put, List.setIfInBounds_toArray, List.set_cons_zero, List.set_cons_succ, i64_w, i32_w]
                              rfl
                            refine pure_ (i := 12) (N := some 74) (v := ?_) (a' := ?_) #[true, true, true, true, true, true, true, true, true, true, true, true, true, false, false, false] rfl rfl (any_of HT_.out (by kernel_rfl)) (fun _ _ _ h => h) (Or.inl ⟨by rfl, ?_⟩) ?_ ?_
                            rotate_left
                            · intro w'
                              go_simp
                              with_reducible rfl
                            rotate_left
                            · simp only [Act.put, List.setIfInBounds_toArray, List.set_cons_zero, List.set_cons_succ, i64_w, i32_w]
                              rfl
                            refine last_ (i := 13) (N := some 75) #[true, true, true, true, true, true, true, true, true, true, true, true, true, true, false, false] rfl rfl (one_of HT_.out (by kernel_rfl)) (by decide) (fun K hK => ?_)
                            refine value_ (w1 := ?_) (v := ?_) (by rfl) rfl ?_ ?_
                            rotate_left 2
                            · go_simp
                              constructor
                              · rfl
                              · rfl
                            refine hK.out _ _ ?_
                            clear hK K
                            refine norm_ (a' := ?_) ?_ ?_
                            rotate_left
                            · show Act.put _ (some 75) _ = _
                              simp only [Act.put, List.setIfInBounds_toArray, List.set_cons_zero, List.set_cons_succ, i64_w, i32_w]
                              rfl
                            refine last_ (i := 14) (N := some 76) #[true, true, true, true, true, true, true, true, true, true, true, true, true, true, true, false] rfl rfl (one_of HT_.out (by kernel_rfl)) (by decide) (fun K hK => ?_)
                            refine Kd.R_append_step k65 (w0 := w) w.heap.size (by rfl) (.tmp 62) (.tmp 75) 54 65 (.agg #[(.string ⟨#[]⟩), (.string ⟨#[]⟩)]) 32 rfl Tryd.underlying54 info65 rfl (by decide) (by omega) u7 x7_2 (⟨(rd_T77 t431 x8_2).f2, (rd_T77 t431 (ji19)).f2⟩ : S65) [.string ((rd_T77 t431 x8_2).f2), .string ((rd_T77 t431 (ji19)).f2)] (fun _ => True) (fun _ => False) rfl rfl ?aP (fun _ hk => hk.elim) ?aF ?aO ?aB ?aS ?aL ?_
                            (case aP => exact k65_mkM _ _ _ (⟨(rd_T77 t431 x8_2).f2, (rd_T77 t431 (ji19)).f2⟩ : S65))
                            (case aB => exact (by repeat (first | (with_reducible first | exact HB.out | apply below_alloc | apply pw_below_drewN | apply below_drew1) | exact HB.out)))
                            (case aF => exact (fun _ _ => trivial))
                            (case aO => exact (by (with_reducible repeat (first | apply Kd.R_alloc | apply Kd.R_drewN | apply Kd.R_drew)); exact HO_7.out))
                            (case aS => exact (below_size (by repeat (first | (with_reducible first | exact HB.out | apply below_alloc | apply pw_below_drewN | apply below_drew1) | exact HB.out))))
                            (case aL => have := LMc23.out; omega)
                            intro v442 w26 ho hb hg hat
                            rw [← Ny441.out] at ho
                            have n0_ := Aside0.mk (Kd.R_over' (by (with_reducible repeat (first | apply Kd.R_alloc | apply Kd.R_drewN | apply Kd.R_drew)); exact HO_5.out) (Kd.R_typed (by (with_reducible repeat (first | apply Kd.R_alloc | apply Kd.R_drewN | apply Kd.R_drew)); exact HO_7.out)) (by decide) hg)
                            have n1_ := Aside0.mk (hb)
                            have n2_ := Aside0.mk (ho)
                            clear HO_5
                            clear HB
                            clear HO_7
                            have HO_5 := n0_
                            have HB := n1_
                            have HO443 := n2_
                            clear n0_ n1_ n2_
                            clear ho hb hg hat
                            refine hK.out _ _ ?_
                            clear hK K
                            refine norm_ (a' := ?_) ?_ ?_
                            rotate_left
                            · show Act.put _ (some 76) _ = _
                              simp only [Act.put, List.setIfInBounds_toArray, List.set_cons_zero, List.set_cons_succ, i64_w, i32_w]
                              rfl
                            refine pure_ (i := 15) (N := some 7) (v := ?_) (a' := ?_) #[true, true, true, true, true, true, true, true, true, true, true, true, true, true, true, true] rfl rfl (any_of HT_.out (by kernel_rfl)) (fun _ _ _ h => h) (Or.inl ⟨by rfl, ?_⟩) ?_ ?_
                            rotate_left
                            · intro w'
                              go_simp
                              with_reducible rfl
                            rotate_left
                            · simp only [Act.put, List.setIfInBounds_toArray, List.set_cons_zero, List.set_cons_succ, i64_w, i32_w]
                              rfl
                            refine done_ (done_of HT_.out (by kernel_rfl)) ?_
                            try go_wp2
                            go_roundg k2
                            case measure => have := HJ3.out; have := HK2.out; omega
                            case rel => exact ⟨(y441), (wrap64 (x8_2 + 2)), (by first | rfl | (simp; done) | (simp [*]; done)), H', ⟨by have := HJ3.out; have := HK2.out; omega⟩, ⟨by (with_reducible repeat (first | apply Kd.R_alloc | apply Kd.R_drewN | apply Kd.R_drew)); exact HO_5.out⟩, ⟨by (with_reducible repeat (first | apply Kd.R_alloc | apply Kd.R_drewN | apply Kd.R_drew)); exact HO443.out⟩, ⟨by repeat (first | (with_reducible first | exact HB.out | apply below_alloc | apply pw_below_drewN | apply below_drew1) | exact HB.out)⟩⟩
                          · rw [if_neg c23] at H
                            exact absurd H (by simp)
                        · rw [if_neg c22] at H
                          have c22b0 : (((rd_T77 t431 (ji19)).f0) == 2) = false := beq_eq_false_iff_ne.mpr c22
                          have c22b1 : (((rd_T77 t431 (ji19)).f0) != 2) = true := bne_iff_ne.mpr c22
                          simp only [Option.some.injEq, Prod.mk.injEq] at H
                          obtain ⟨rfl, rfl, rfl⟩ := H
                          obtain ⟨Ao27, co27, eo27⟩ := Kd.R_slice HO_5.out
                          subst eo27
                          have p437 : 0 ≤ (x8_2 : Int) := of_decide_eq_true (by first | (with_reducible assumption) | assumption)
                          have q437 : x8_2 < (t431.length : Int) := of_decide_eq_true (by first | (with_reducible assumption) | assumption)
                          obtain ⟨ad437, e437, hx437_0, hx437_1, hx437_2⟩ := at_T77 (Kd.R_reads' HO_5.out).2.2 x8_2 p437 q437
                          cases e437
                          replace p437 := eq_true p437
                          replace q437 := eq_true q437
                          have p438 : 0 ≤ ((ji19) : Int) := of_decide_eq_true (by first | (with_reducible assumption) | assumption)
                          have q438 : (ji19) < (t431.length : Int) := of_decide_eq_true (by first | (with_reducible assumption) | assumption)
                          obtain ⟨ad438, e438, hx438_0, hx438_1, hx438_2⟩ := at_T77 (Kd.R_reads' HO_5.out).2.2 (ji19) p438 q438
                          obtain rfl : ad437 = ad438 := (by injection e438)
                          replace p438 := eq_true p438
                          replace q438 := eq_true q438
                          go_wp2
                          go_ret3
                          exact ⟨_, by first | rfl | (simp [errW_none, errW_some] <;> rfl) | (simp only [← hji19]; first | rfl | (simp [errW_none, errW_some] <;> rfl)) | (simp [*, errW_none, errW_some] <;> rfl), by first | exact Kd.R_nil _ _ _ _ _ | exact Kd.N_nil _ _ _ _ _ | exact Kd.V_nil _ _ _ _ _ | exact Kd.Q_nil _ _ _ _ _ | exact Kd.S_nil _ _ _ _ _, by repeat (first | (with_reducible first | exact HB.out | apply below_alloc | apply pw_below_drewN | apply below_drew1) | exact HB.out)⟩
                      · rw [if_neg c21] at H
                        exact absurd H (by simp)
                    · rw [if_neg c20] at H
                      exact absurd H (by simp)
                  · rw [if_neg c18] at H
                    have c18b0 : (((rd_T77 t431 x8_2).f0) == 2) = false := beq_eq_false_iff_ne.mpr c18
                    have c18b1 : (((rd_T77 t431 x8_2).f0) != 2) = true := bne_iff_ne.mpr c18
                    simp only [Option.some.injEq, Prod.mk.injEq] at H
                    obtain ⟨rfl, rfl, rfl⟩ := H
                    obtain ⟨Ao28, co28, eo28⟩ := Kd.R_slice HO_5.out
                    subst eo28
                    have p437 : 0 ≤ (x8_2 : Int) := of_decide_eq_true (by first | (with_reducible assumption) | assumption)
                    have q437 : x8_2 < (t431.length : Int) := of_decide_eq_true (by first | (with_reducible assumption) | assumption)
                    obtain ⟨ad437, e437, hx437_0, hx437_1, hx437_2⟩ := at_T77 (Kd.R_reads' HO_5.out).2.2 x8_2 p437 q437
                    cases e437
                    replace p437 := eq_true p437
                    replace q437 := eq_true q437
                    go_wp2
                    go_ret3
                    exact ⟨_, by first | rfl | (simp [errW_none, errW_some] <;> rfl) | (simp [*, errW_none, errW_some] <;> rfl), by first | exact Kd.R_nil _ _ _ _ _ | exact Kd.N_nil _ _ _ _ _ | exact Kd.V_nil _ _ _ _ _ | exact Kd.Q_nil _ _ _ _ _ | exact Kd.S_nil _ _ _ _ _, by repeat (first | (with_reducible first | exact HB.out | apply below_alloc | apply pw_below_drewN | apply below_drew1) | exact HB.out)⟩
                · rw [if_neg c17] at H
                  exact absurd H (by simp)
              · rw [if_neg c16] at H
                have c16b0 : decide (x8_2 < (t431.length : Int)) = false := decide_eq_false c16
                clear c16
                by_cases c29 : 1 < (t431.length : Int)
                · rw [if_pos c29] at H
                  have c29b0 : decide (1 < (t431.length : Int)) = true := decide_eq_true c29
                  have c29b1 : decide (1 < t431.length) = true := decide_eq_true (by omega)
                  clear c29
                  replace H := Option.bind_eq_some_iff.mp H
                  obtain ⟨⟨t445, t446⟩, A300, H⟩ := H
                  replace H : (if t446 = 0 then ((bytes_Equal.f t445 l0).bind fun t449 => (if t449 = true then (some ((rd_T77 t431 1).f1, x7_2, 0)) else (some (0, ([] : List (S65)), 2)))) else (some (0, ([] : List (S65)), 2))) = some (r1, r2, r3) := H
                  have A30 := Aside0.mk A300
                  clear A300
                  by_cases c31 : t446 = 0
                  · rw [if_pos c31] at H
                    have c31b0 : (t446 == 0) = true := beq_iff_eq.mpr c31
                    have c31b1 : (t446 != 0) = false := bne_eq_false_iff_eq.mpr c31
                    clear c31
                    replace H := Option.bind_eq_some_iff.mp H
                    obtain ⟨t449, A320, H⟩ := H
                    replace H : (if t449 = true then (some ((rd_T77 t431 1).f1, x7_2, 0)) else (some (0, ([] : List (S65)), 2))) = some (r1, r2, r3) := H
                    have A32 := Aside0.mk A320
                    clear A320
                    by_cases c33 : t449 = true
                    · subst c33
                      have H1 : (some ((rd_T77 t431 1).f1, x7_2, 0)) = some (r1, r2, r3) := by rw [if_pos rfl] at H; exact H
                      clear H
                      have H := H1
                      clear H1
                      simp only [Option.some.injEq, Prod.mk.injEq] at H
                      obtain ⟨rfl, rfl, rfl⟩ := H
                      obtain ⟨Ao34, co34, eo34⟩ := Kd.R_slice HO_5.out
                      subst eo34
                      have p444 : 0 ≤ (1 : Int) := (by omega)
                      have q444 : 1 < (t431.length : Int) := of_decide_eq_true (by first | (with_reducible assumption) | assumption)
                      obtain ⟨ad444, e444, hx444_0, hx444_1, hx444_2⟩ := at_T77 (Kd.R_reads' HO_5.out).2.2 1 p444 q444
                      cases e444
                      (try simp only [show (1 : Int).toNat = 1 from rfl, Nat.reduceMul, Nat.reduceEqDiff, Go.Addr.add, ↓reduceIte] at hx444_0)
                      (try simp only [show (1 : Int).toNat = 1 from rfl, Nat.reduceMul, Nat.reduceEqDiff, Go.Addr.add, ↓reduceIte] at hx444_1)
                      (try simp only [show (1 : Int).toNat = 1 from rfl, Nat.reduceMul, Nat.reduceEqDiff, Go.Addr.add, ↓reduceIte] at hx444_2)
                      have qi444 : (1 < t431.length) = True := eq_true (by omega)
                      (try rw [show ((1 : Int)).toNat = 1 from rfl] at hx444_0)
                      (try rw [show 1 * 3 = 3 from rfl] at hx444_0)
                      (try rw [show ((1 : Int)).toNat = 1 from rfl] at hx444_1)
                      (try rw [show 1 * 3 = 3 from rfl] at hx444_1)
                      (try rw [show ((1 : Int)).toNat = 1 from rfl] at hx444_2)
                      (try rw [show 1 * 3 = 3 from rfl] at hx444_2)
                      replace p444 := eq_true p444
                      replace q444 := eq_true q444
                      obtain ⟨Ao35, co35, eo35⟩ := Kd.R_slice HO_7.out
                      subst eo35
                      go_wp2_with (first | ((with_reducible refine gate_callee (f := 24) rfl ?_); refine goesL_ (some 83) rfl rfl Tryd.func24 (by kernel_rfl) rfl #[.int .i64 ((rd_T77 t431 1).f1), .slice Ao35 x7_2.length co35] rfl (by (try simp only [List.map_toArray, List.map_cons, List.map_nil]); first | done | rfl | (simp only [List.length_drop, List.length_take]; rfl)) ?_; (with_reducible refine (record_EncodePairs.calls k2 ((rd_T77 t431 1).f1) _ _ x7_2 t445 t446 _ ?side1 ?side2 A30.out).mono ?_); (case side1 => repeat (first | exact (Kd.R_reads' HO_7.out).2.2 | (with_reducible refine Kd.C_alloc ?_ _) | (with_reducible refine Kd.C_drewN ?_ _) | (with_reducible refine Kd.C_drew ?_))); (case side2 => exact (Kd.R_reads' HO_7.out).2.1); rintro e w36 ⟨v447, rfl, ho0, hb⟩; refine ⟨_, rfl, ?_⟩; have n0_ := Aside0.mk (Kd.R_below (by (with_reducible repeat (first | apply Kd.R_alloc | apply Kd.R_drewN | apply Kd.R_drew)); exact HO_5.out) hb); have n1_ := Aside0.mk (Kd.R_below (by (with_reducible repeat (first | apply Kd.R_alloc | apply Kd.R_drewN | apply Kd.R_drew)); exact HO_7.out) hb); have n2_ := Aside0.mk (Kd.R_lower ho0 (below_size (by repeat (first | (with_reducible first | exact HB.out | apply below_alloc | apply pw_below_drewN | apply below_drew1) | exact HB.out)))); have n3_ := Aside0.mk (below_step (by repeat (first | (with_reducible first | exact HB.out | apply below_alloc | apply pw_below_drewN | apply below_drew1) | exact HB.out)) hb); clear HO_5; clear HO_7; clear HB; have HO_5 := n0_; have HO_7 := n1_; have HO448 := n2_; have HB := n3_; clear n0_ n1_ n2_ n3_; (try clear hb); (try clear hb2); (try clear hk); (try clear hi); (try clear ho0); obtain ⟨Ao37, co37, eo37⟩ := Kd.R_slice HO448.out; subst eo37) | (go_at_call 46; (with_reducible refine (bytes_Equal.calls _ _ t445 _ _ l0 true _ ?side1 ?side2 ?side3 ?side4 A32.out).mono ?_); (case side1 => repeat (first | exact (Kd.R_reads' HO448.out).2.2 | (with_reducible refine Kd.C_alloc ?_ _) | (with_reducible refine Kd.C_drewN ?_ _) | (with_reducible refine Kd.C_drew ?_))); (case side2 => exact (Kd.R_reads' HO448.out).2.1); (case side3 => repeat (first | exact (Kd.C_below HR0.out HB.out) | (with_reducible refine Kd.C_alloc ?_ _) | (with_reducible refine Kd.C_drewN ?_ _) | (with_reducible refine Kd.C_drew ?_))); (case side4 => exact HC0.out); rintro e w' ⟨rfl, ⟨nd, rfl⟩⟩; have p450 : 0 ≤ (1 : Int) := (by omega); have q450 : 1 < (t431.length : Int) := of_decide_eq_true (by first | (with_reducible assumption) | assumption); obtain ⟨ad450, e450, hx450_0, hx450_1, hx450_2⟩ := at_T77 (Kd.R_reads' HO_5.out).2.2 1 p450 q450; obtain rfl : ad444 = ad450 := (by injection e450); (try simp only [show (1 : Int).toNat = 1 from rfl, Nat.reduceMul, Nat.reduceEqDiff, Go.Addr.add, ↓reduceIte] at hx450_0); (try simp only [show (1 : Int).toNat = 1 from rfl, Nat.reduceMul, Nat.reduceEqDiff, Go.Addr.add, ↓reduceIte] at hx450_1); (try simp only [show (1 : Int).toNat = 1 from rfl, Nat.reduceMul, Nat.reduceEqDiff, Go.Addr.add, ↓reduceIte] at hx450_2); have qi450 : (1 < t431.length) = True := eq_true (by omega); (try rw [show ((1 : Int)).toNat = 1 from rfl] at hx450_0); (try rw [show 1 * 3 = 3 from rfl] at hx450_0); (try rw [show ((1 : Int)).toNat = 1 from rfl] at hx450_1); (try rw [show 1 * 3 = 3 from rfl] at hx450_1); (try rw [show ((1 : Int)).toNat = 1 from rfl] at hx450_2); (try rw [show 1 * 3 = 3 from rfl] at hx450_2); replace p450 := eq_true p450; replace q450 := eq_true q450))
                      go_ret3
                      exact ⟨_, by first | rfl | (simp [errW_none, errW_some] <;> rfl) | (simp [*, errW_none, errW_some] <;> rfl), by (with_reducible repeat (first | apply Kd.R_alloc | apply Kd.R_drewN | apply Kd.R_drew)); exact HO_7.out, by repeat (first | (with_reducible first | exact HB.out | apply below_alloc | apply pw_below_drewN | apply below_drew1) | exact HB.out)⟩
                    · replace c33 := Bool.eq_false_iff.mpr c33
                      subst c33
                      have H1 : (some (0, ([] : List (S65)), 2)) = some (r1, r2, r3) := by rw [if_neg (show ¬ (false = true) by decide)] at H; exact H
                      clear H
                      have H := H1
                      clear H1
                      simp only [Option.some.injEq, Prod.mk.injEq] at H
                      obtain ⟨rfl, rfl, rfl⟩ := H
                      obtain ⟨Ao38, co38, eo38⟩ := Kd.R_slice HO_5.out
                      subst eo38
                      have p444 : 0 ≤ (1 : Int) := (by omega)
                      have q444 : 1 < (t431.length : Int) := of_decide_eq_true (by first | (with_reducible assumption) | assumption)
                      obtain ⟨ad444, e444, hx444_0, hx444_1, hx444_2⟩ := at_T77 (Kd.R_reads' HO_5.out).2.2 1 p444 q444
                      cases e444
                      (try simp only [show (1 : Int).toNat = 1 from rfl, Nat.reduceMul, Nat.reduceEqDiff, Go.Addr.add, ↓reduceIte] at hx444_0)
                      (try simp only [show (1 : Int).toNat = 1 from rfl, Nat.reduceMul, Nat.reduceEqDiff, Go.Addr.add, ↓reduceIte] at hx444_1)
                      (try simp only [show (1 : Int).toNat = 1 from rfl, Nat.reduceMul, Nat.reduceEqDiff, Go.Addr.add, ↓reduceIte] at hx444_2)
                      have qi444 : (1 < t431.length) = True := eq_true (by omega)
                      (try rw [show ((1 : Int)).toNat = 1 from rfl] at hx444_0)
                      (try rw [show 1 * 3 = 3 from rfl] at hx444_0)
                      (try rw [show ((1 : Int)).toNat = 1 from rfl] at hx444_1)
                      (try rw [show 1 * 3 = 3 from rfl] at hx444_1)
                      (try rw [show ((1 : Int)).toNat = 1 from rfl] at hx444_2)
                      (try rw [show 1 * 3 = 3 from rfl] at hx444_2)
                      replace p444 := eq_true p444
                      replace q444 := eq_true q444
                      obtain ⟨Ao39, co39, eo39⟩ := Kd.R_slice HO_7.out
                      subst eo39
                      go_wp2_with (first | ((with_reducible refine gate_callee (f := 24) rfl ?_); refine goesL_ (some 83) rfl rfl Tryd.func24 (by kernel_rfl) rfl #[.int .i64 ((rd_T77 t431 1).f1), .slice Ao39 x7_2.length co39] rfl (by (try simp only [List.map_toArray, List.map_cons, List.map_nil]); first | done | rfl | (simp only [List.length_drop, List.length_take]; rfl)) ?_; (with_reducible refine (record_EncodePairs.calls k2 ((rd_T77 t431 1).f1) _ _ x7_2 t445 t446 _ ?side1 ?side2 A30.out).mono ?_); (case side1 => repeat (first | exact (Kd.R_reads' HO_7.out).2.2 | (with_reducible refine Kd.C_alloc ?_ _) | (with_reducible refine Kd.C_drewN ?_ _) | (with_reducible refine Kd.C_drew ?_))); (case side2 => exact (Kd.R_reads' HO_7.out).2.1); rintro e w40 ⟨v447, rfl, ho0, hb⟩; refine ⟨_, rfl, ?_⟩; have n0_ := Aside0.mk (Kd.R_below (by (with_reducible repeat (first | apply Kd.R_alloc | apply Kd.R_drewN | apply Kd.R_drew)); exact HO_5.out) hb); have n1_ := Aside0.mk (Kd.R_below (by (with_reducible repeat (first | apply Kd.R_alloc | apply Kd.R_drewN | apply Kd.R_drew)); exact HO_7.out) hb); have n2_ := Aside0.mk (Kd.R_lower ho0 (below_size (by repeat (first | (with_reducible first | exact HB.out | apply below_alloc | apply pw_below_drewN | apply below_drew1) | exact HB.out)))); have n3_ := Aside0.mk (below_step (by repeat (first | (with_reducible first | exact HB.out | apply below_alloc | apply pw_below_drewN | apply below_drew1) | exact HB.out)) hb); clear HO_5; clear HO_7; clear HB; have HO_5 := n0_; have HO_7 := n1_; have HO448 := n2_; have HB := n3_; clear n0_ n1_ n2_ n3_; (try clear hb); (try clear hb2); (try clear hk); (try clear hi); (try clear ho0); obtain ⟨Ao41, co41, eo41⟩ := Kd.R_slice HO448.out; subst eo41) | (go_at_call 46; (with_reducible refine (bytes_Equal.calls _ _ t445 _ _ l0 false _ ?side1 ?side2 ?side3 ?side4 A32.out).mono ?_); (case side1 => repeat (first | exact (Kd.R_reads' HO448.out).2.2 | (with_reducible refine Kd.C_alloc ?_ _) | (with_reducible refine Kd.C_drewN ?_ _) | (with_reducible refine Kd.C_drew ?_))); (case side2 => exact (Kd.R_reads' HO448.out).2.1); (case side3 => repeat (first | exact (Kd.C_below HR0.out HB.out) | (with_reducible refine Kd.C_alloc ?_ _) | (with_reducible refine Kd.C_drewN ?_ _) | (with_reducible refine Kd.C_drew ?_))); (case side4 => exact HC0.out); rintro e w' ⟨rfl, ⟨nd, rfl⟩⟩))
                      go_ret3
                      exact ⟨_, by first | rfl | (simp [errW_none, errW_some] <;> rfl) | (simp [*, errW_none, errW_some] <;> rfl), by first | exact Kd.R_nil _ _ _ _ _ | exact Kd.N_nil _ _ _ _ _ | exact Kd.V_nil _ _ _ _ _ | exact Kd.Q_nil _ _ _ _ _ | exact Kd.S_nil _ _ _ _ _, by repeat (first | (with_reducible first | exact HB.out | apply below_alloc | apply pw_below_drewN | apply below_drew1) | exact HB.out)⟩
                  · rw [if_neg c31] at H
                    have c31b0 : (t446 == 0) = false := beq_eq_false_iff_ne.mpr c31
                    have c31b1 : (t446 != 0) = true := bne_iff_ne.mpr c31
                    simp only [Option.some.injEq, Prod.mk.injEq] at H
                    obtain ⟨rfl, rfl, rfl⟩ := H
                    obtain ⟨Ao42, co42, eo42⟩ := Kd.R_slice HO_5.out
                    subst eo42
                    have p444 : 0 ≤ (1 : Int) := (by omega)
                    have q444 : 1 < (t431.length : Int) := of_decide_eq_true (by first | (with_reducible assumption) | assumption)
                    obtain ⟨ad444, e444, hx444_0, hx444_1, hx444_2⟩ := at_T77 (Kd.R_reads' HO_5.out).2.2 1 p444 q444
                    cases e444
                    (try simp only [show (1 : Int).toNat = 1 from rfl, Nat.reduceMul, Nat.reduceEqDiff, Go.Addr.add, ↓reduceIte] at hx444_0)
                    (try simp only [show (1 : Int).toNat = 1 from rfl, Nat.reduceMul, Nat.reduceEqDiff, Go.Addr.add, ↓reduceIte] at hx444_1)
                    (try simp only [show (1 : Int).toNat = 1 from rfl, Nat.reduceMul, Nat.reduceEqDiff, Go.Addr.add, ↓reduceIte] at hx444_2)
                    have qi444 : (1 < t431.length) = True := eq_true (by omega)
                    (try rw [show ((1 : Int)).toNat = 1 from rfl] at hx444_0)
                    (try rw [show 1 * 3 = 3 from rfl] at hx444_0)
                    (try rw [show ((1 : Int)).toNat = 1 from rfl] at hx444_1)
                    (try rw [show 1 * 3 = 3 from rfl] at hx444_1)
                    (try rw [show ((1 : Int)).toNat = 1 from rfl] at hx444_2)
                    (try rw [show 1 * 3 = 3 from rfl] at hx444_2)
                    replace p444 := eq_true p444
                    replace q444 := eq_true q444
                    obtain ⟨Ao43, co43, eo43⟩ := Kd.R_slice HO_7.out
                    subst eo43
                    go_wp2_with (first | ((with_reducible refine gate_callee (f := 24) rfl ?_); refine goesL_ (some 83) rfl rfl Tryd.func24 (by kernel_rfl) rfl #[.int .i64 ((rd_T77 t431 1).f1), .slice Ao43 x7_2.length co43] rfl (by (try simp only [List.map_toArray, List.map_cons, List.map_nil]); first | done | rfl | (simp only [List.length_drop, List.length_take]; rfl)) ?_; (with_reducible refine (record_EncodePairs.calls k2 ((rd_T77 t431 1).f1) _ _ x7_2 t445 t446 _ ?side1 ?side2 A30.out).mono ?_); (case side1 => repeat (first | exact (Kd.R_reads' HO_7.out).2.2 | (with_reducible refine Kd.C_alloc ?_ _) | (with_reducible refine Kd.C_drewN ?_ _) | (with_reducible refine Kd.C_drew ?_))); (case side2 => exact (Kd.R_reads' HO_7.out).2.1); rintro e w44 ⟨v447, rfl, ho0, hb⟩; refine ⟨_, rfl, ?_⟩; have n0_ := Aside0.mk (Kd.R_below (by (with_reducible repeat (first | apply Kd.R_alloc | apply Kd.R_drewN | apply Kd.R_drew)); exact HO_5.out) hb); have n1_ := Aside0.mk (Kd.R_below (by (with_reducible repeat (first | apply Kd.R_alloc | apply Kd.R_drewN | apply Kd.R_drew)); exact HO_7.out) hb); have n2_ := Aside0.mk (Kd.R_lower ho0 (below_size (by repeat (first | (with_reducible first | exact HB.out | apply below_alloc | apply pw_below_drewN | apply below_drew1) | exact HB.out)))); have n3_ := Aside0.mk (below_step (by repeat (first | (with_reducible first | exact HB.out | apply below_alloc | apply pw_below_drewN | apply below_drew1) | exact HB.out)) hb); clear HO_5; clear HO_7; clear HB; have HO_5 := n0_; have HO_7 := n1_; have HO448 := n2_; have HB := n3_; clear n0_ n1_ n2_ n3_; (try clear hb); (try clear hb2); (try clear hk); (try clear hi); (try clear ho0)))
                    go_ret3
                    exact ⟨_, by first | rfl | (simp [errW_none, errW_some] <;> rfl) | (simp [*, errW_none, errW_some] <;> rfl), by first | exact Kd.R_nil _ _ _ _ _ | exact Kd.N_nil _ _ _ _ _ | exact Kd.V_nil _ _ _ _ _ | exact Kd.Q_nil _ _ _ _ _ | exact Kd.S_nil _ _ _ _ _, by repeat (first | (with_reducible first | exact HB.out | apply below_alloc | apply pw_below_drewN | apply below_drew1) | exact HB.out)⟩
                · rw [if_neg c29] at H
                  exact absurd H (by simp)
  · rw [if_neg c3] at H
    have c3b0 : (t432 == 0) = false := beq_eq_false_iff_ne.mpr c3
    have c3b1 : (t432 != 0) = true := bne_iff_ne.mpr c3
    simp only [Option.some.injEq, Prod.mk.injEq] at H
    obtain ⟨rfl, rfl, rfl⟩ := H
    go_enter Tryd.func26, Tryd.ntmps26
    go_wp2_with (first | ((with_reducible refine gate_callee (f := 45) rfl ?_); refine goesL_ (some 12) rfl rfl Tryd.func45 (by kernel_rfl) rfl #[.slice A0 l0.length c0] rfl (by (try simp only [List.map_toArray, List.map_cons, List.map_nil]); first | done | rfl | (simp only [List.length_drop, List.length_take]; rfl)) ?_; (with_reducible refine (record_unseal.calls k _ _ l0 t431 t432 _ ?side1 ?side2 A2.out).mono ?_); (case side1 => repeat (first | exact HR0.out | (with_reducible refine Kd.C_alloc ?_ _) | (with_reducible refine Kd.C_drewN ?_ _) | (with_reducible refine Kd.C_drew ?_))); (case side2 => exact HC0.out); rintro e w45 ⟨v433, rfl, ho0, hb⟩; refine ⟨_, rfl, ?_⟩; have n0_ := Aside0.mk (Kd.R_lower ho0 (below_size (by repeat (first | (with_reducible first | exact HB.out | apply below_alloc | apply pw_below_drewN | apply below_drew1) | exact HB.out)))); have n1_ := Aside0.mk (below_step (by repeat (first | (with_reducible first | exact HB.out | apply below_alloc | apply pw_below_drewN | apply below_drew1) | exact HB.out)) hb); clear HB; have HO434 := n0_; have HB := n1_; clear n0_ n1_; (try clear hb); (try clear hb2); (try clear hk); (try clear hi); (try clear ho0)))
    go_ret3
    exact ⟨_, by first | rfl | (simp [errW_none, errW_some] <;> rfl) | (simp [*, errW_none, errW_some] <;> rfl), by first | exact Kd.R_nil _ _ _ _ _ | exact Kd.N_nil _ _ _ _ _ | exact Kd.V_nil _ _ _ _ _ | exact Kd.Q_nil _ _ _ _ _ | exact Kd.S_nil _ _ _ _ _, by repeat (first | (with_reducible first | exact HB.out | apply below_alloc | apply pw_below_drewN | apply below_drew1) | exact HB.out)⟩
end
end Go.Proofs.YtmkkeccmjejfnaaDoor.PA
namespace Go.Proofs.YtmkkeccmjejfnaaDoor.PA
section

open Go.RowKit Go.Proofs.YtmkkeccmjejfnaaDoorW.PrintWords Go.Proofs.YtmkkeccmjejfnaaDoorW.PrintLast Go.Proofs.YtmkkeccmjejfnaaDoorW.PrintMore
attribute [local go_sem] pr_leq pr_geq pr_gtr max2_int min2_int max_two min_two max_three min_three max_four min_four
set_option linter.unusedVariables false
set_option linter.unusedSimpArgs false
attribute [local go_sem high] eqA65
def cisternref07_SamePairs.l0 : Nat → List (S65) → List (S65) → Int → Option (Bool)
  | 0, _, _, _ => none
  | k + 1, x0, x1, x5 => if x5 < (x0.length : Int) then (if 0 ≤ x5 then (if x5 < (x1.length : Int) then (if (!((((rd_T65 x0 x5).f0).toList) == (((rd_T65 x1 x5).f0).toList)) || (!((((rd_T65 x0 x5).f1).toList) == (((rd_T65 x1 x5).f1).toList)))) = true then (some false) else (cisternref07_SamePairs.l0 k x0 x1 (wrap64 (x5 + 1)))) else (none)) else (none)) else (some true)
def cisternref07_SamePairs.f (k : Nat) (l0 : List (S65)) (l1 : List (S65)) : Option (Bool) := if (l0.length : Int) = (l1.length : Int) then (cisternref07_SamePairs.l0 k l0 l1 0) else (some false)
set_option maxHeartbeats 8000000 in
set_option maxRecDepth 100000 in
theorem cisternref07_SamePairs.calls (k : Nat) (A0 : Option Addr) (c0 : Nat) (l0 : List (S65)) (A1 : Option Addr) (c1 : Nat) (l1 : List (S65)) (r : Bool) (w : World) (hr0 : Kd.C k65 w A0 l0.length l0) (hc0 : l0.length ≤ c0) (hr1 : Kd.C k65 w A1 l1.length l1) (hc1 : l1.length ≤ c1) (h : cisternref07_SamePairs.f k l0 l1 = some r) :
    Calls Tryd.prog 27 #[.slice A0 l0.length c0, .slice A1 l1.length c1] w fun e w' => e = .returned (.bool r) ∧ Drawn0 w w' := by
  have hu65 := Tryd.underlying65
  have HR0 := Aside0.mk hr0
  have HC0 := Aside0.mk hc0
  clear hr0 hc0
  have HR1 := Aside0.mk hr1
  have HC1 := Aside0.mk hc1
  clear hr1 hc1
  have H : (if (l0.length : Int) = (l1.length : Int) then (cisternref07_SamePairs.l0 k l0 l1 0) else (some false)) = some r := h
  clear h
  by_cases c3 : (l0.length : Int) = (l1.length : Int)
  · rw [if_pos c3] at H
    have c3b0 : ((l0.length : Int) == (l1.length : Int)) = true := beq_iff_eq.mpr c3
    have c3b1 : ((l0.length : Int) != (l1.length : Int)) = false := bne_eq_false_iff_eq.mpr c3
    have c3b2 : (l0.length == l1.length) = true := by first | simpa using c3 | (simp at c3 ⊢; omega)
    clear c3
    have H' := Aside0.mk H
    clear H
    go_enter Tryd.func27, Tryd.ntmps27
    go_wp2
    repeat (go_quiet (fail); try go_wp2)
    go_loopg [5] k (fun kq v5 w' => ∃ (x5_1 : Int), v5 = .int .i64 x5_1 ∧ Aside0 (cisternref07_SamePairs.l0 kq l0 l1 x5_1 = some r) ∧ Aside0 (kq ≤ k) ∧ Drawn0 w w')
    case atStart => exact ⟨(0), (by first | rfl | (simp; done) | (simp [*]; done)), H', ⟨Nat.le_refl _⟩, by repeat (first | exact Drawn0.refl _ | apply Drawn0.step)⟩
    case round =>
      clear H'
      try clear c1
      try clear c2
      try clear p2
      try clear c3
      try clear c3b0
      try clear c3b1
      try clear c3b2
      obtain ⟨x5_1, rfl, HA, HK1, ⟨m1, rfl⟩⟩ := hrel
      cases gk with
      | zero => exact absurd HA.out (by simp [cisternref07_SamePairs.l0])
      | succ k1 =>
        have H := HA.out
        clear HA
        simp only [cisternref07_SamePairs.l0] at H
        by_cases c4 : x5_1 < (l0.length : Int)
        · rw [if_pos c4] at H
          have c4b0 : decide (x5_1 < (l0.length : Int)) = true := decide_eq_true c4
          clear c4
          by_cases c5 : 0 ≤ x5_1
          · rw [if_pos c5] at H
            have c5b0 : decide (0 ≤ x5_1) = true := decide_eq_true c5
            clear c5
            by_cases c6 : x5_1 < (l1.length : Int)
            · rw [if_pos c6] at H
              have c6b0 : decide (x5_1 < (l1.length : Int)) = true := decide_eq_true c6
              clear c6
              by_cases c7 : (!((((rd_T65 l0 x5_1).f0).toList) == (((rd_T65 l1 x5_1).f0).toList)) || (!((((rd_T65 l0 x5_1).f1).toList) == (((rd_T65 l1 x5_1).f1).toList)))) = true
              · rw [if_pos c7] at H
                have c7b0 : (!((((rd_T65 l0 x5_1).f0).toList) == (((rd_T65 l1 x5_1).f0).toList)) || (!((((rd_T65 l0 x5_1).f1).toList) == (((rd_T65 l1 x5_1).f1).toList)))) = true := c7
                clear c7
                obtain rfl := Option.some.inj H
                have p451 : 0 ≤ (x5_1 : Int) := of_decide_eq_true (by first | (with_reducible assumption) | assumption)
                have q451 : x5_1 < (l0.length : Int) := of_decide_eq_true (by first | (with_reducible assumption) | assumption)
                obtain ⟨ad451, e451, hx451_0, hx451_1⟩ := at_T65 HR0.out x5_1 p451 q451
                cases e451
                replace p451 := eq_true p451
                replace q451 := eq_true q451
                have p452 : 0 ≤ (x5_1 : Int) := of_decide_eq_true (by first | (with_reducible assumption) | assumption)
                have q452 : x5_1 < (l1.length : Int) := of_decide_eq_true (by first | (with_reducible assumption) | assumption)
                obtain ⟨ad452, e452, hx452_0, hx452_1⟩ := at_T65 HR1.out x5_1 p452 q452
                cases e452
                replace p452 := eq_true p452
                replace q452 := eq_true q452
                go_wp2
                repeat (go_quiet (fail); try go_wp2)
                go_ret
                exact ⟨by first | rfl | (simp; done) | (simp [*]; done), by repeat (first | exact Drawn0.refl _ | apply Drawn0.step)⟩
              · rw [if_neg c7] at H
                have c7b0 : (!((((rd_T65 l0 x5_1).f0).toList) == (((rd_T65 l1 x5_1).f0).toList)) || (!((((rd_T65 l0 x5_1).f1).toList) == (((rd_T65 l1 x5_1).f1).toList)))) = false := by simpa using c7
                clear c7
                have H' := Aside0.mk H
                clear H
                have p451 : 0 ≤ (x5_1 : Int) := of_decide_eq_true (by first | (with_reducible assumption) | assumption)
                have q451 : x5_1 < (l0.length : Int) := of_decide_eq_true (by first | (with_reducible assumption) | assumption)
                obtain ⟨ad451, e451, hx451_0, hx451_1⟩ := at_T65 HR0.out x5_1 p451 q451
                cases e451
                replace p451 := eq_true p451
                replace q451 := eq_true q451
                have p452 : 0 ≤ (x5_1 : Int) := of_decide_eq_true (by first | (with_reducible assumption) | assumption)
                have q452 : x5_1 < (l1.length : Int) := of_decide_eq_true (by first | (with_reducible assumption) | assumption)
                obtain ⟨ad452, e452, hx452_0, hx452_1⟩ := at_T65 HR1.out x5_1 p452 q452
                cases e452
                replace p452 := eq_true p452
                replace q452 := eq_true q452
                go_wp2
                repeat (go_quiet (fail); try go_wp2)
                go_roundg k1
                case measure => have := HK1.out; omega
                case rel => exact ⟨(wrap64 (x5_1 + 1)), (by first | rfl | (simp; done) | (simp [*]; done)), H', ⟨by have := HK1.out; omega⟩, by repeat (first | exact Drawn0.refl _ | apply Drawn0.step)⟩
            · rw [if_neg c6] at H
              exact absurd H (by simp)
          · rw [if_neg c5] at H
            exact absurd H (by simp)
        · rw [if_neg c4] at H
          have c4b0 : decide (x5_1 < (l0.length : Int)) = false := decide_eq_false c4
          clear c4
          obtain rfl := Option.some.inj H
          go_wp2
          repeat (go_quiet (fail); try go_wp2)
          go_ret
          exact ⟨by first | rfl | (simp; done) | (simp [*]; done), by repeat (first | exact Drawn0.refl _ | apply Drawn0.step)⟩
  · rw [if_neg c3] at H
    have c3b0 : ((l0.length : Int) == (l1.length : Int)) = false := beq_eq_false_iff_ne.mpr c3
    have c3b1 : ((l0.length : Int) != (l1.length : Int)) = true := bne_iff_ne.mpr c3
    have c3b2 : (l0.length == l1.length) = false := by first | simpa using c3 | (simp at c3 ⊢; omega)
    obtain rfl := Option.some.inj H
    go_enter Tryd.func27, Tryd.ntmps27
    go_wp2
    repeat (go_quiet (fail); try go_wp2)
    go_ret
    exact ⟨by first | rfl | (simp; done) | (simp [*]; done), by repeat (first | exact Drawn0.refl _ | apply Drawn0.step)⟩
end
end Go.Proofs.YtmkkeccmjejfnaaDoor.PA
namespace Go.Proofs.YtmkkeccmjejfnaaDoor.PA
section

open Go.RowKit Go.Proofs.YtmkkeccmjejfnaaDoorW.PrintWords Go.Proofs.YtmkkeccmjejfnaaDoorW.PrintLast Go.Proofs.YtmkkeccmjejfnaaDoorW.PrintMore
set_option linter.unusedVariables false
set_option linter.unusedSimpArgs false
section
open Go.ChangeShapes Go.WideShapes Go.Deep
variable {H : Type} {enc : TypeId × Value → H} {P : Program} {w : World} {base : Nat} {spare : Nat → Bool} {held : Bool}
theorem ra_addr (a : Addr) (m i : Nat) : (a.add m).add i = a.add (m + i) := Go.Deep.add_add a m i
theorem open_rows {α : Type} [Inhabited α] (k : Kd α) (Wf : α → Prop) {t e : TypeId} {fuel : Nat} {A : Option Addr} {len cap : Nat} {x : DataW H × List MemPlace} (ht : P.underlying t = some (.slice e)) (hce : P.cellsOf e = k.sz)
    (He : ∀ n cs y, DataW.trod enc P w base spare held n e cs = some y → ∃ v, k.K w v cs ∧ Wf v)
    (h : DataW.trod enc P w base spare held fuel t [.slice A len cap] = some x) : ∃ l : List α, l.length = len ∧ k.C w A len l ∧ len ≤ cap ∧ ∀ v ∈ l, Wf v := by
  rcases open_slice ht h with ⟨hcs, _⟩ | ⟨a, l, c, m, n, D, Pl, hcs, _, hl, hm, hmm, _, hx⟩
  · simp at hcs
    obtain ⟨rfl, rfl, rfl⟩ := hcs
    exact ⟨[], rfl, ⟨rfl, by omega, fun h0 => absurd h0 (by omega)⟩, Nat.le_refl _, by simp⟩
  · simp at hcs
    obtain ⟨rfl, rfl, rfl⟩ := hcs
    have hlm : len ≤ m := by rw [hmm]; split <;> omega
    obtain ⟨f, hf⟩ := choose_lt (α := α) (n := len) (p := fun i v => ∃ cs, w.cells? base (a.add (i * k.sz)) k.sz = some cs ∧ k.K w v cs ∧ Wf v) (fun i hi => by
      obtain ⟨cs', h1, h2⟩ := hx i (by omega)
      rw [hce] at h1
      obtain ⟨v, h3, h4⟩ := He _ _ _ h2
      exact ⟨v, cs', h1, h3, h4⟩)
    refine ⟨(List.range len).map f, by simp, ⟨by simp, by simp only [maxLen] at hm; omega, fun _ => ⟨a, rfl, fun j p hj => ?_⟩⟩, hl, fun v hv => ?_⟩
    · have hjl : j < len := by
        rcases Nat.lt_or_ge j len with h' | h'
        · exact h'
        · rw [List.getElem?_eq_none (by simpa using h')] at hj; cases hj
      simp [hjl] at hj
      subst hj
      obtain ⟨cs, h1, h2, _⟩ := hf j hjl
      obtain ⟨_, h3, h4⟩ := World.cells?_some h1
      refine ⟨cs, h3, h2, fun i u hu => ?_⟩
      have hi : i < k.sz := by rw [← h3]; exact (List.getElem?_eq_some_iff.1 hu).1
      rw [← ra_addr, h4 i hi, hu]
    · simp only [List.mem_map, List.mem_range] at hv
      obtain ⟨j, hj, rfl⟩ := hv
      exact (hf j hj).choose_spec.2.2
end
theorem toList_data (a : ByteArray) : a.toList = a.data.toList := by
  have key : ∀ (d i : Nat) (r : List UInt8), i + d = a.size → ByteArray.toList.loop a i r = r.reverse ++ a.data.toList.drop i := by
    intro d
    induction d with
    | zero =>
      intro i r h
      unfold ByteArray.toList.loop
      rw [if_neg (by omega), List.drop_eq_nil_of_le (by simp; show a.size ≤ i; omega), List.append_nil]
    | succ d ih =>
      intro i r h
      have hi : i < a.data.toList.length := by simp; show i < a.size; omega
      unfold ByteArray.toList.loop
      rw [if_pos (by omega), ih (i + 1) _ (by omega), List.drop_eq_getElem_cons hi]
      have : a.get! i = a.data.toList[i] := by
        cases a with
        | mk bs =>
          simp at hi
          show bs[i]! = _
          rw [getElem!_pos bs i hi]
          simp
      simp [this]
  have := key a.size 0 [] (by omega)
  simpa [ByteArray.toList] using this
theorem toList_inj' {a b : ByteArray} : a.toList = b.toList ↔ a = b := by
  rw [toList_data, toList_data]
  constructor
  · intro h; exact ByteArray.ext (Array.toList_inj.1 h)
  · rintro rfl; rfl
theorem strOfNums_append (a b : List Int) : strOfNums a ++ strOfNums b = strOfNums (a ++ b) := by
  apply ByteArray.ext
  simp [strOfNums]
theorem strOfNums_inj {a b : List Int} (ha : byteL a) (hb : byteL b) (h : strOfNums a = strOfNums b) : a = b := by
  rw [← bytesOf_strOfNums a ha, ← bytesOf_strOfNums b hb, h]
theorem strOfNums_bytesOf (s : ByteArray) : strOfNums (bytesOf s) = s := by
  apply ByteArray.ext
  simp only [strOfNums, bytesOf, List.map_map]
  have : ∀ l : List UInt8, l.map ((fun n : Int => UInt8.ofNat n.toNat) ∘ fun b : UInt8 => ((b.toNat : Nat) : Int)) = l := by
    intro l
    conv => rhs; rw [← List.map_id l]
    refine List.map_congr_left (fun b _ => ?_)
    simp
  rw [this]
theorem bytesOf_byteL (s : ByteArray) : byteL (bytesOf s) := by
  intro b hb
  simp only [bytesOf, List.mem_map] at hb
  obtain ⟨x, _, rfl⟩ := hb
  have := x.toNat_lt
  omega
theorem byteL_append {a b : List Int} (ha : byteL a) (hb : byteL b) : byteL (a ++ b) := by
  intro x hx
  rcases List.mem_append.1 hx with h | h
  · exact ha x h
  · exact hb x h
theorem byteL_leB (x : Int) (n : Nat) : byteL (leB x n) := leB_byte x n
theorem byteL_cons {b : Int} {l : List Int} (h : byteL (b :: l)) : 0 ≤ b ∧ b ≤ 255 ∧ byteL l := ⟨(h b (by simp)).1, (h b (by simp)).2, fun x hx => h x (by simp [hx])⟩
theorem byteL_mk {b : Int} {l : List Int} (h0 : 0 ≤ b) (h1 : b ≤ 255) (h : byteL l) : byteL (b :: l) := by
  intro x hx
  rcases List.mem_cons.1 hx with rfl | hx
  · exact ⟨h0, h1⟩
  · exact h x hx
theorem encI_byteL (x : S77) : byteL (encI x) := by
  unfold encI
  split
  · exact byteL_mk (by omega) (by omega) (byteL_leB _ _)
  · exact byteL_mk (by omega) (by omega) (byteL_append (byteL_leB _ _) (bytesOf_byteL _))
theorem encL_byteL (l : List S77) : byteL (encL l) := by
  intro b hb
  simp only [encL, List.mem_flatMap] at hb
  obtain ⟨x, _, hx⟩ := hb
  exact encI_byteL x b hx
theorem encL_append (l m : List S77) : encL (l ++ m) = encL l ++ encL m := by simp [encL]
theorem encL_cons (x : S77) (l : List S77) : encL (x :: l) = encI x ++ encL l := by simp [encL]
theorem checkV_iff (l : List S77) : pack_checkV l = 0 ↔ l.length ≤ 4000 ∧ ∀ x ∈ l, okB x = true ∧ longB x = false := by
  unfold pack_checkV
  constructor
  · intro h
    by_cases h1 : 4000 < (l.length : Int)
    · rw [if_pos h1] at h; cases h
    rw [if_neg h1] at h
    by_cases h2 : l.any longB = true
    · rw [if_pos h2] at h; cases h
    rw [if_neg h2] at h
    by_cases h3 : l.all okB = true
    · refine ⟨by omega, fun x hx => ⟨List.all_eq_true.1 h3 x hx, ?_⟩⟩
      cases hh : longB x
      · rfl
      · exact absurd (List.any_eq_true.2 ⟨x, hx, hh⟩) h2
    · rw [if_neg h3] at h; cases h
  · rintro ⟨h1, h2⟩
    rw [if_neg (by omega), if_neg (by simp only [List.any_eq_true, not_exists, not_and]; intro x hx; simp [(h2 x hx).2]), if_pos (by simp only [List.all_eq_true]; exact fun x hx => (h2 x hx).1)]
theorem encode_some (l : List S77) : pack_Encode.f l = some (if pack_checkV l = 0 then encL l else [], pack_checkV l) := rfl
def decL : Nat → List S77 → List Int → List S77 × Int
  | 0, acc, _ => (acc, 0)
  | n + 1, acc, b =>
    match b with
    | [] => (acc, 0)
    | c :: r =>
      if c = 1 ∧ 8 ≤ r.length then
        (if (acc ++ [(⟨1, wrap64 (getV (r.take 8)), ⟨#[]⟩⟩ : S77)]).length > 4000 then ([], 2) else decL n (acc ++ [(⟨1, wrap64 (getV (r.take 8)), ⟨#[]⟩⟩ : S77)]) (r.drop 8))
      else if c = 2 ∧ 2 ≤ r.length then
        (if getV (r.take 2) > 50000 ∨ getV (r.take 2) > (r.length : Int) - 2 then ([], 2)
         else if (acc ++ [(⟨2, 0, strOfNums ((r.drop 2).take (getV (r.take 2)).toNat)⟩ : S77)]).length > 4000 then ([], 2)
         else decL n (acc ++ [(⟨2, 0, strOfNums ((r.drop 2).take (getV (r.take 2)).toNat)⟩ : S77)]) (r.drop (2 + (getV (r.take 2)).toNat)))
      else ([], 2)
theorem get_val' (l : List Int) (hl : byteL l) (h8 : l.length ≤ 8) (k : Nat) (hk : 9 ≤ k) : pack_get.f k l = some (getV l) := by
  have h := get_tells l hl h8 l.length k 0 (by omega) (by omega)
  simpa [pack_get.f, getV] using h
theorem getV2 (l : List Int) (hl : byteL l) (h : l.length = 2) : 0 ≤ getV l ∧ getV l ≤ 65535 := by
  have := getV_range l hl
  rw [h] at this
  omega
theorem w64_small (x : Int) (h0 : 0 ≤ x) (h1 : x ≤ 9223372036854775807) : wrap64 x = x := by unfold wrap64; omega
theorem decode_tells : ∀ (n : Nat) (b : List Int) (acc : List S77) (k : Nat), byteL b → b.length ≤ n → b.length ≤ 140737488351232 → acc.length ≤ 4000 → 4 * n + 20 ≤ k → pack_Decode.l0 k b acc = some (decL (n + 1) acc b) := by
  intro n
  induction n with
  | zero =>
    intro b acc k hb hn hl ha hk
    obtain rfl : b = [] := List.eq_nil_of_length_eq_zero (by omega)
    obtain ⟨k, rfl⟩ : ∃ m, k = m + 1 := ⟨k - 1, by omega⟩
    simp [pack_Decode.l0, decL]
  | succ n ih =>
    intro b acc k hb hn hl ha hk
    obtain ⟨k, rfl⟩ : ∃ m, k = m + 4 := ⟨k - 4, by omega⟩
    match b, hb, hn, hl with
    | [], _, _, _ => simp [pack_Decode.l0, decL]
    | c :: r, hb, hn, hl =>
      obtain ⟨hc0, hc1, hr⟩ := byteL_cons hb
      have hrl : r.length ≤ n := by simpa using hn
      have hrl2 : r.length ≤ 140737488351231 := by simp only [List.length_cons] at hl; omega
      have hrd : rd (c :: r) 0 = c := by simp [rd]
      have hd1 : (c :: r).drop 1 = r := rfl
      rw [show k + 4 = (k + 3) + 1 by omega]
      simp only [pack_Decode.l0]
      rw [if_pos (by simp only [List.length_cons]; omega), if_pos (by simp only [List.length_cons]; omega), if_pos (by simp only [List.length_cons]; omega), hrd, hd1]
      simp only [Option.bind_some]
      rw [decL]
      by_cases h1 : c = 1 ∧ 8 ≤ r.length
      · rw [if_pos h1, if_pos h1.1, show k + 3 = (k + 2) + 1 by omega]
        simp only [pack_Decode.j1]
        rw [if_pos (by simpa using (by omega : (8 : Int) ≤ r.length)), if_pos (by omega), get_val' _ (byteL_take hr 8) (by simp; omega) _ (by omega)]
        simp only [Option.bind_some]
        rw [if_pos (by omega)]
        by_cases h4 : (acc ++ [(⟨1, wrap64 (getV (r.take 8)), ⟨#[]⟩⟩ : S77)]).length > 4000
        · rw [if_pos (by omega), if_pos h4]
        · rw [if_neg (by omega), if_neg h4]
          exact ih _ _ _ (byteL_drop hr 8) (by simp; omega) (by simp; omega) (by omega) (by omega)
      · rw [if_neg h1]
        have e1 : (if c = 1 then pack_Decode.j1 (k + 3) acc c r (decide ((r.length : Int) ≥ 8)) else pack_Decode.j1 (k + 3) acc c r false) = pack_Decode.j1 (k + 3) acc c r false := by
          by_cases hc : c = 1
          · rw [if_pos hc]
            congr 1
            simp only [decide_eq_false_iff_not]
            have : ¬ 8 ≤ r.length := fun h => h1 ⟨hc, h⟩
            omega
          · rw [if_neg hc]
        rw [e1, show k + 3 = (k + 2) + 1 by omega]
        simp only [pack_Decode.j1]
        rw [if_neg (by simp)]
        by_cases h2 : c = 2 ∧ 2 ≤ r.length
        · have hg := getV2 (r.take 2) (byteL_take hr 2) (by rw [List.length_take]; omega)
          rw [if_pos h2, if_pos h2.1, show k + 2 = (k + 1) + 1 by omega]
          simp only [pack_Decode.j2]
          rw [if_pos (by simpa using (by omega : (2 : Int) ≤ r.length)), if_pos (by omega), get_val' _ (byteL_take hr 2) (by simp; omega) _ (by omega)]
          simp only [Option.bind_some]
          rw [w64_small _ hg.1 (by omega), w64_small ((r.length : Int) - 2) (by omega) (by omega)]
          generalize hgv : getV (r.take 2) = v at *
          by_cases h5 : v > 50000 ∨ v > (r.length : Int) - 2
          · rw [if_pos h5]
            by_cases h6 : v > 50000
            · rw [if_pos h6]; simp [pack_Decode.j3]
            · rw [if_neg h6, show decide (v > (r.length : Int) - 2) = true by simpa using h5.resolve_left h6]; simp [pack_Decode.j3]
          · rw [if_neg h5, if_neg (by omega), show decide (v > (r.length : Int) - 2) = false by simp; omega]
            simp only [pack_Decode.j3]
            rw [if_neg (by simp), w64_small (2 + v) (by omega) (by omega), if_pos (by omega), if_pos (by omega), if_pos (by omega)]
            simp only [Option.bind_some]
            have et : (2 + v).toNat = 2 + v.toNat := by omega
            rw [if_pos (by omega), et, List.drop_take, show 2 + v.toNat - 2 = v.toNat by omega]
            by_cases h4 : (acc ++ [(⟨2, 0, strOfNums ((r.drop 2).take v.toNat)⟩ : S77)]).length > 4000
            · rw [if_pos (by omega), if_pos h4]
            · rw [if_neg (by omega), if_neg h4]
              exact ih _ _ _ (byteL_drop hr _) (by simp; omega) (by simp; omega) (by omega) (by omega)
        · rw [if_neg h2]
          have e2 : (if c = 2 then pack_Decode.j2 (k + 2) acc r (decide ((r.length : Int) ≥ 2)) else pack_Decode.j2 (k + 2) acc r false) = pack_Decode.j2 (k + 2) acc r false := by
            by_cases hc : c = 2
            · rw [if_pos hc]
              congr 1
              simp only [decide_eq_false_iff_not]
              have : ¬ 2 ≤ r.length := fun h => h2 ⟨hc, h⟩
              omega
            · rw [if_neg hc]
          rw [e2]
          simp [pack_Decode.j2]
def decF (b : List Int) : List S77 × Int := decL (b.length + 1) [] b
theorem decode_val (b : List Int) (hb : byteL b) (hl : b.length ≤ 140737488351232) (k : Nat) (hk : 4 * b.length + 20 ≤ k) : pack_Decode.f k b = some (decF b) :=
  decode_tells b.length b [] k hb (Nat.le_refl _) hl (by simp) hk
def wfI (x : S77) : Prop := (Lit.int .i64 x.f1).wf = true
theorem wf_i64 {x : Int} (h : (Lit.int .i64 x).wf = true) : -9223372036854775808 ≤ x ∧ x ≤ 9223372036854775807 := by
  simpa [Lit.wf, IntKind.min, IntKind.max, IntKind.signed, IntKind.bits] using h
theorem i64_u64 (x : Int) (h0 : -9223372036854775808 ≤ x) (h1 : x ≤ 9223372036854775807) : wrap64 (IntKind.u64.wrap x) = x := by
  have : IntKind.u64.wrap x = x % 18446744073709551616 := by simp [IntKind.wrap, IntKind.signed, IntKind.bits]
  rw [this]; unfold wrap64; omega
theorem dec_enc : ∀ (l : List S77) (acc : List S77) (n : Nat), (∀ x ∈ l, okB x = true ∧ longB x = false ∧ wfI x) → acc.length + l.length ≤ 4000 → (encL l).length < n → decL n acc (encL l) = (acc ++ l, 0) := by
  intro l
  induction l with
  | nil =>
    intro acc n _ _ hn
    obtain ⟨n, rfl⟩ : ∃ m, n = m + 1 := ⟨n - 1, by omega⟩
    simp [encL, decL]
  | cons x l ih =>
    intro acc n h ha hn
    obtain ⟨n, rfl⟩ : ∃ m, n = m + 1 := ⟨n - 1, by omega⟩
    obtain ⟨h1, h2, h3⟩ := h x (by simp)
    have hrest := fun y (hy : y ∈ l) => h y (by simp [hy])
    have hw := wf_i64 h3
    have hur := u64_range x.f1
    simp only [List.length_cons] at ha
    rw [encL_cons] at hn ⊢
    by_cases k1 : x.f0 = 1
    · have e : encI x = 1 :: leB (IntKind.u64.wrap x.f1) 8 := by rw [encI, if_pos k1]
      have hx : x = ⟨1, x.f1, ⟨#[]⟩⟩ := by
        have hs : x.f2 = ⟨#[]⟩ := by
          rw [okB_1 k1] at h1
          exact toList_inj'.1 (by simpa using h1)
        obtain ⟨a, b, c⟩ := x
        simp only at k1 hs
        subst k1 hs
        rfl
      rw [e] at hn ⊢
      simp only [List.cons_append]
      rw [decL, if_pos ⟨rfl, by simp [leB_length]⟩]
      rw [List.take_append_of_le_length (by rw [leB_length]; omega), List.take_of_length_le (by rw [leB_length]; omega), getV_leB _ 8 hur.1 (by simpa using hur.2), i64_u64 _ hw.1 hw.2]
      rw [List.drop_append_of_le_length (by rw [leB_length]; omega), List.drop_eq_nil_of_le (by rw [leB_length]; omega), List.nil_append, ← hx]
      rw [if_neg (by simp; omega), ih _ _ hrest (by simp; omega) (by simp [leB_length] at hn; omega)]
      simp
    · have k2 := kind_ok h1 k1
      have e : encI x = 2 :: (leB (x.f2.size : Int) 2 ++ bytesOf x.f2) := by rw [encI, if_neg k1]
      have hz : x.f2.size ≤ 50000 := by
        simp only [longB, k2, Bool.and_eq_false_iff, decide_eq_false_iff_not] at h2
        rcases h2 with h2 | h2
        · cases h2
        · omega
      have hx : x = ⟨2, 0, x.f2⟩ := by
        rw [okB_2 k2] at h1
        obtain ⟨a, b, c⟩ := x
        simp only [beq_iff_eq] at k2 h1
        subst k2 h1
        rfl
      rw [e] at hn ⊢
      simp only [List.cons_append]
      have t2 : (leB (x.f2.size : Int) 2 ++ bytesOf x.f2 ++ encL l).take 2 = leB (x.f2.size : Int) 2 := by
        rw [List.append_assoc, List.take_append_of_le_length (by rw [leB_length]; omega), List.take_of_length_le (by rw [leB_length]; omega)]
      have d2 : (leB (x.f2.size : Int) 2 ++ bytesOf x.f2 ++ encL l).drop 2 = bytesOf x.f2 ++ encL l := by
        rw [List.append_assoc, List.drop_append_of_le_length (by rw [leB_length]; omega), List.drop_eq_nil_of_le (by rw [leB_length]; omega), List.nil_append]
      have gv : getV (leB (x.f2.size : Int) 2) = (x.f2.size : Int) := getV_leB _ 2 (by omega) (by omega)
      rw [decL, if_neg (by simp), if_pos ⟨rfl, by simp only [List.length_append, leB_length]; omega⟩, t2, gv, if_neg (by simp [leB_length, bytesOf_length]; omega), d2, Int.toNat_natCast]
      rw [List.take_append_of_le_length (by rw [bytesOf_length]; omega), List.take_of_length_le (by rw [bytesOf_length]; omega), strOfNums_bytesOf, ← hx]
      have d3 : (leB (x.f2.size : Int) 2 ++ bytesOf x.f2 ++ encL l).drop (2 + x.f2.size) = encL l := by
        rw [← List.drop_drop, d2, List.drop_append_of_le_length (by rw [bytesOf_length]; omega), List.drop_eq_nil_of_le (by rw [bytesOf_length]; omega), List.nil_append]
      rw [if_neg (by simp; omega), d3, ih _ _ hrest (by simp; omega) (by simp [leB_length] at hn; omega)]
      simp
theorem u64_i64 (x : Int) (h0 : 0 ≤ x) (h1 : x < 18446744073709551616) : IntKind.u64.wrap (wrap64 x) = x := by
  have : ∀ y, IntKind.u64.wrap y = y % 18446744073709551616 := fun y => by simp [IntKind.wrap, IntKind.signed, IntKind.bits]
  rw [this]; unfold wrap64; omega
theorem wfI_wrap (v : Int) (a : Int) (s : ByteArray) : wfI ⟨a, wrap64 v, s⟩ := by
  unfold wfI Lit.wf
  simp [IntKind.min, IntKind.max, IntKind.signed, IntKind.bits]
  unfold wrap64
  omega
theorem enc_dec : ∀ (n : Nat) (acc : List S77) (b : List Int), byteL b → b.length < n → acc.length ≤ 4000 →
    decL n acc b = ([], 2) ∨ ∃ m, decL n acc b = (acc ++ m, 0) ∧ encL m = b ∧ (∀ x ∈ m, okB x = true ∧ longB x = false ∧ wfI x) ∧ acc.length + m.length ≤ 4000 := by
  intro n
  induction n with
  | zero => intro acc b _ h; omega
  | succ n ih =>
    intro acc b hb hn ha
    match b, hb, hn with
    | [], _, _ => exact .inr ⟨[], by simp [decL], by simp [encL], by simp, by simpa using ha⟩
    | c :: r, hb, hn =>
      obtain ⟨hc0, hc1, hr⟩ := byteL_cons hb
      have hrl : r.length < n := by simpa using hn
      rw [decL]
      by_cases h1 : c = 1 ∧ 8 ≤ r.length
      · rw [if_pos h1]
        by_cases h4 : (acc ++ [(⟨1, wrap64 (getV (r.take 8)), ⟨#[]⟩⟩ : S77)]).length > 4000
        · rw [if_pos h4]; exact .inl rfl
        · rw [if_neg h4]
          rcases ih (acc ++ [(⟨1, wrap64 (getV (r.take 8)), ⟨#[]⟩⟩ : S77)]) (r.drop 8) (byteL_drop hr 8) (by simp; omega) (by omega) with h | ⟨m, hm, he, hw, hl⟩
          · exact .inl h
          · refine .inr ⟨⟨1, wrap64 (getV (r.take 8)), ⟨#[]⟩⟩ :: m, by rw [hm]; simp, ?_, ?_, by simp at hl ⊢; omega⟩
            · have hlen : (r.take 8).length = 8 := by rw [List.length_take]; omega
              have hg := getV_range (r.take 8) (byteL_take hr 8)
              rw [hlen] at hg
              rw [encL_cons, he, encI, if_pos rfl, u64_i64 _ hg.1 (by simpa using hg.2)]
              have h8 := leB_getV (r.take 8) (byteL_take hr 8)
              rw [hlen] at h8
              rw [h8, h1.1]
              simp
            · intro x hx
              rcases List.mem_cons.1 hx with rfl | hx
              · exact ⟨by simp [okB, toList_data], by simp [longB], wfI_wrap _ _ _⟩
              · exact hw x hx
      · rw [if_neg h1]
        by_cases h2 : c = 2 ∧ 2 ≤ r.length
        · rw [if_pos h2]
          have hlen : (r.take 2).length = 2 := by rw [List.length_take]; omega
          have hg := getV2 (r.take 2) (byteL_take hr 2) hlen
          have h8 := leB_getV (r.take 2) (byteL_take hr 2)
          rw [hlen] at h8
          generalize hgv : getV (r.take 2) = v at *
          by_cases h5 : v > 50000 ∨ v > (r.length : Int) - 2
          · rw [if_pos h5]; exact .inl rfl
          · rw [if_neg h5]
            by_cases h4 : (acc ++ [(⟨2, 0, strOfNums ((r.drop 2).take v.toNat)⟩ : S77)]).length > 4000
            · rw [if_pos h4]; exact .inl rfl
            · rw [if_neg h4]
              rcases ih (acc ++ [(⟨2, 0, strOfNums ((r.drop 2).take v.toNat)⟩ : S77)]) (r.drop (2 + v.toNat)) (byteL_drop hr _) (by simp; omega) (by omega) with h | ⟨m, hm, he, hw, hl⟩
              · exact .inl h
              · have hsz : (strOfNums ((r.drop 2).take v.toNat)).size = v.toNat := by rw [size_strOfNums]; simp; omega
                refine .inr ⟨⟨2, 0, strOfNums ((r.drop 2).take v.toNat)⟩ :: m, by rw [hm]; simp, ?_, ?_, by simp at hl ⊢; omega⟩
                · rw [encL_cons, he, encI, if_neg (by simp)]
                  simp only [hsz]
                  rw [show ((v.toNat : Nat) : Int) = v by omega, h8, bytesOf_strOfNums _ (byteL_take (byteL_drop hr 2) _), h2.1]
                  simp only [List.cons_append]
                  congr 1
                  rw [List.append_assoc, ← List.drop_drop, List.take_append_drop, List.take_append_drop]
                · intro x hx
                  rcases List.mem_cons.1 hx with rfl | hx
                  · refine ⟨by simp [okB], ?_, by show (Lit.int .i64 0).wf = true; decide⟩
                    simp only [longB, hsz, Bool.and_eq_false_iff, decide_eq_false_iff_not]
                    right; omega
                  · exact hw x hx
        · rw [if_neg h2]; exact .inl rfl
theorem decF_enc (l : List S77) (hc : pack_checkV l = 0) (hw : ∀ x ∈ l, wfI x) : decF (encL l) = (l, 0) := by
  obtain ⟨h1, h2⟩ := (checkV_iff l).1 hc
  have := dec_enc l [] ((encL l).length + 1) (fun x hx => ⟨(h2 x hx).1, (h2 x hx).2, hw x hx⟩) (by simpa using h1) (by omega)
  simpa [decF] using this
theorem decF_tells (b : List Int) (hb : byteL b) : decF b = ([], 2) ∨ ∃ m, decF b = (m, 0) ∧ encL m = b ∧ pack_checkV m = 0 ∧ ∀ x ∈ m, wfI x := by
  rcases enc_dec (b.length + 1) [] b hb (by omega) (by simp) with h | ⟨m, h1, h2, h3, h4⟩
  · exact .inl h
  · exact .inr ⟨m, by simpa [decF] using h1, h2, (checkV_iff m).2 ⟨by simpa using h4, fun x hx => ⟨(h3 x hx).1, (h3 x hx).2.1⟩⟩, fun x hx => (h3 x hx).2.2⟩
def sealL (l : List Int) : List Int := l ++ leB (crcV l) 4
theorem sealL_length (l : List Int) : (sealL l).length = l.length + 4 := by simp [sealL, leB_length]
theorem sealL_byteL {l : List Int} (h : byteL l) : byteL (sealL l) := byteL_append h (byteL_leB _ _)
theorem seal_val (l : List Int) (hl : byteL l) (hm : l.length ≤ 140737488351232) : pack_Seal.f (10 * l.length + 20) l = some (sealL l) := by
  have hcr := crcV_range l hl
  have h1 : pack_Crc.f (10 * l.length + 20) l = some (crcV l) := by
    have h := crc_tells l hl (by omega) l.length (10 * l.length + 20) 0 4294967295 (by decide) (by omega) (by omega)
    simpa [pack_Crc.f, crcV] using h
  have h2 : pack_put.f (10 * l.length + 20) l (crcV l) 4 = some (l ++ leB (crcV l) 4) := by
    rw [pack_put.f]
    exact put_tells 4 (by omega) 4 (10 * l.length + 20) (crcV l) l 0 (by omega) (by omega) (by omega) (by omega)
  unfold pack_Seal.f
  rw [bytes_Clone.f, if_pos (by omega), h1]
  simp only [Option.bind_some]
  rw [u64_id _ hcr.1 (by omega), h2]
  rfl
def mirV (x : Nat) : Nat → Nat
  | 0 => 0
  | n + 1 => 2 * mirV x n + (x / 2 ^ n) % 2
theorem mirV_bit (x n i : Nat) : (mirV x n).testBit i = (decide (i < n) && x.testBit (n - 1 - i)) := by
  induction n generalizing i with
  | zero => simp [mirV]
  | succ n ih =>
    rw [mirV]
    cases i with
    | zero =>
      rw [Nat.testBit_zero]
      have : x.testBit n = decide ((x / 2 ^ n) % 2 = 1) := by rw [Nat.testBit_eq_decide_div_mod_eq]
      simp only [Nat.add_sub_cancel, Nat.sub_zero, this]
      rw [show (2 * mirV x n + x / 2 ^ n % 2) % 2 = x / 2 ^ n % 2 by omega]
      simp
    | succ i =>
      rw [Nat.testBit_add_one, show (2 * mirV x n + x / 2 ^ n % 2) / 2 = mirV x n by omega, ih]
      have e : n + 1 - 1 - (i + 1) = n - 1 - i := by omega
      rw [e]
      simp
theorem mirV_lt (x n : Nat) : mirV x n < 2 ^ n := by
  induction n with
  | zero => simp [mirV]
  | succ n ih => rw [mirV, Nat.pow_succ]; omega
theorem mirV_xor (a b n : Nat) : mirV (a ^^^ b) n = mirV a n ^^^ mirV b n := by
  apply Nat.eq_of_testBit_eq
  intro i
  rw [Nat.testBit_xor, mirV_bit, mirV_bit, mirV_bit, Nat.testBit_xor]
  cases decide (i < n) <;> simp
theorem mirV_mirV (x n : Nat) (h : x < 2 ^ n) : mirV (mirV x n) n = x := by
  apply Nat.eq_of_testBit_eq
  intro i
  rw [mirV_bit, mirV_bit]
  by_cases hi : i < n
  · simp only [hi, decide_true, Bool.true_and]
    rw [show n - 1 - (n - 1 - i) = i by omega]
    simp
    omega
  · simp only [hi, decide_false, Bool.false_and]
    symm
    exact Nat.testBit_lt_two_pow (Nat.lt_of_lt_of_le h (Nat.pow_le_pow_right (by decide) (by omega)))
theorem mirV_byte (b : Nat) (h : b < 256) : mirV b 32 = mirV b 8 * 16777216 := by
  apply Nat.eq_of_testBit_eq
  intro i
  rw [show 16777216 = 2 ^ 24 from rfl, Nat.mul_comm, Nat.testBit_two_pow_mul, mirV_bit, mirV_bit]
  by_cases h1 : 24 ≤ i
  · by_cases h2 : i < 32
    · simp only [h1, h2, show i - 24 < 8 by omega, decide_true, Bool.true_and]
      rw [show 8 - 1 - (i - 24) = 32 - 1 - i by omega]
    · simp only [h2, show ¬ i - 24 < 8 by omega, decide_false, Bool.false_and, Bool.and_false]
  · have : b.testBit (32 - 1 - i) = false := Nat.testBit_lt_two_pow (Nat.lt_of_lt_of_le h (by rw [show 256 = 2 ^ 8 from rfl]; exact Nat.pow_le_pow_right (by decide) (by omega)))
    simp [h1, this]
def refBit (r : Nat) : Nat := if r * 2 / 4294967296 = 0 then r * 2 else (r * 2) ^^^ 4374732215
theorem mirV_half (s : Nat) (h : s < 4294967296) : mirV (s / 2) 32 = (mirV s 32 * 2) % 4294967296 := by
  apply Nat.eq_of_testBit_eq
  intro i
  rw [show 4294967296 = 2 ^ 32 from rfl, Nat.testBit_mod_two_pow, mirV_bit]
  by_cases hi : i < 32
  · simp only [hi, decide_true, Bool.true_and]
    cases i with
    | zero =>
      have : (s / 2).testBit 31 = false := Nat.testBit_lt_two_pow (by omega)
      rw [this]
      simp [Nat.testBit_zero]
    | succ i =>
      rw [Nat.testBit_add_one, Nat.mul_div_cancel _ (by decide), mirV_bit, ← Nat.testBit_add_one]
      simp only [show i < 32 by omega, decide_true, Bool.true_and]
      rw [show 32 - 1 - (i + 1) + 1 = 32 - 1 - i by omega]
  · simp [hi]
theorem mirV_odd (s : Nat) : mirV s 32 / 2147483648 = s % 2 := by
  have h := mirV_bit s 32 31
  have hl := mirV_lt s 32
  rw [Nat.testBit_eq_decide_div_mod_eq, show 32 - 1 - 31 = 0 by rfl, Nat.testBit_zero] at h
  have h2 : mirV s 32 / 2 ^ 31 < 2 := by omega
  have h3 : 2 ^ 31 = 2147483648 := rfl
  rw [h3] at h h2
  simp at h
  omega
theorem mir_step (s : Nat) (h : s < 4294967296) : mirV (crcBit s) 32 = refBit (mirV s 32) := by
  have h1 := mirV_half s h
  have h2 := mirV_odd s
  have h3 := mirV_lt s 32
  unfold crcBit refBit
  by_cases ho : s % 2 = 1
  · rw [if_pos ho, if_neg (by omega), mirV_xor, h1, show mirV 3988292384 32 = 79764919 by decide +kernel]
    have e : mirV s 32 * 2 = (mirV s 32 * 2) % 4294967296 ^^^ 4294967296 := by
      have hm : (mirV s 32 * 2) % 4294967296 < 2 ^ 32 := Nat.mod_lt _ (by decide)
      rw [Nat.xor_comm]
      have := Nat.two_pow_add_eq_or_of_lt hm 1
      rw [show 2 ^ 32 * 1 = 4294967296 by rfl] at this
      have hx : 4294967296 ^^^ (mirV s 32 * 2) % 4294967296 = 4294967296 ||| (mirV s 32 * 2) % 4294967296 := by
        apply Nat.eq_of_testBit_eq
        intro i
        rw [Nat.testBit_xor, Nat.testBit_or, show 4294967296 = 2 ^ 32 from rfl, Nat.testBit_mod_two_pow, Nat.testBit_two_pow]
        by_cases hi : i < 32
        · have : ¬ 32 = i := by omega
          simp [hi, this]
        · simp [hi]
      rw [hx, ← this]
      omega
    conv => rhs; rw [e]
    rw [Nat.xor_assoc, show 4294967296 ^^^ 4374732215 = 79764919 by decide +kernel]
  · rw [if_neg ho, if_pos (by omega), h1]
    omega
theorem mirror_tells (x : Nat) (hx : x < 18446744073709551616) (n : Nat) (hn : n ≤ 32) : ∀ (d k i : Nat), i + d = n → d < k → cisternref03_mirror.l0 k (x : Int) (n : Int) ((mirV x i : Nat) : Int) (i : Int) = some ((mirV x n : Nat) : Int) := by
  intro d
  induction d with
  | zero =>
    intro k i hd hk
    obtain ⟨k, rfl⟩ : ∃ m, k = m + 1 := ⟨k - 1, by omega⟩
    obtain rfl : i = n := by omega
    simp only [cisternref03_mirror.l0]
    rw [if_neg (by omega)]
  | succ d ih =>
    intro k i hd hk
    obtain ⟨k, rfl⟩ : ∃ m, k = m + 1 := ⟨k - 1, by omega⟩
    have hml := mirV_lt x i
    have hp : 2 ^ i ≤ 2 ^ 31 := Nat.pow_le_pow_right (by decide) (by omega)
    have hsh : shr .u64 (x : Int) (i : Int) = ((x / 2 ^ i : Nat) : Int) := by
      unfold shr
      rw [Int.toNat_natCast, Nat.min_eq_left (by show i ≤ 64; omega)]
      simp
    have hxi : x / 2 ^ i < 18446744073709551616 := Nat.lt_of_le_of_lt (Nat.div_le_self _ _) hx
    have hand : Go.bits .and .u64 ((x / 2 ^ i : Nat) : Int) 1 = ((x / 2 ^ i % 2 : Nat) : Int) := by
      have h := (bits_nat .u64 64 (by decide) (fun n h0 h1 => u64_id n h0 (by simpa using h1)) (x / 2 ^ i) 1 hxi (by decide)).1
      rw [Nat.and_one_is_mod] at h
      simpa using h
    simp only [cisternref03_mirror.l0]
    rw [if_pos (by omega), if_pos (by omega), hsh, hand, u64_id (((mirV x i : Nat) : Int) * 2) (by omega) (by omega), u64_id _ (by omega) (by omega), show wrap64 ((i : Int) + 1) = ((i + 1 : Nat) : Int) by unfold wrap64; omega]
    have e : ((mirV x i : Nat) : Int) * 2 + ((x / 2 ^ i % 2 : Nat) : Int) = ((mirV x (i + 1) : Nat) : Int) := by
      rw [mirV]; omega
    rw [e]
    exact ih k (i + 1) (by omega) (by omega)
theorem mirror_val (x : Nat) (hx : x < 18446744073709551616) (n k : Nat) (hn : n ≤ 32) (hk : n < k) : cisternref03_mirror.f k (x : Int) (n : Int) = some ((mirV x n : Nat) : Int) :=
  mirror_tells x hx n hn n k 0 (by omega) hk
def refBits : Nat → Nat → Nat
  | 0, r => r
  | n + 1, r => refBits n (refBit r)
theorem refBit_lt {r : Nat} (h : r < 4294967296) : refBit r < 4294967296 := by
  have := mir_step (mirV r 32) (mirV_lt r 32)
  rw [mirV_mirV r 32 h] at this
  rw [← this]
  exact mirV_lt _ 32
theorem refBits_mir (n s : Nat) (h : s < 4294967296) : refBits n (mirV s 32) = mirV (crcBits n s) 32 := by
  induction n generalizing s with
  | zero => rfl
  | succ n ih => rw [refBits, ← mir_step s h, ih _ (crcBit_lt h), crcBits_succ]
theorem refcrc1_tells (s : ByteArray) (i : Nat) : ∀ (d k j : Nat) (r : Nat), r < 4294967296 → j + d = 8 → d < k → ∀ z, cisternref03_Crc.l0 (k - 1 - d) s ((refBits d r : Nat) : Int) (wrap64 ((i : Int) + 1)) = some z → cisternref03_Crc.l1 k s (r : Int) (i : Int) (j : Int) = some z := by
  intro d
  induction d with
  | zero =>
    intro k j r hr hd hk z hz
    obtain ⟨k, rfl⟩ : ∃ m, k = m + 1 := ⟨k - 1, by omega⟩
    simp only [cisternref03_Crc.l1]
    rw [if_neg (by omega)]
    exact hz
  | succ d ih =>
    intro k j r hr hd hk z hz
    obtain ⟨k, rfl⟩ : ∃ m, k = m + 1 := ⟨k - 1, by omega⟩
    have hz2 := ih k (j + 1) (refBit r) (refBit_lt hr) (by omega) (by omega) z (by rw [show k - 1 - d = k + 1 - 1 - (d + 1) by omega]; exact hz)
    simp only [cisternref03_Crc.l1]
    rw [if_pos (by omega), u64_id ((r : Int) * 2) (by omega) (by omega), show wrap64 ((j : Int) + 1) = ((j + 1 : Nat) : Int) by unfold wrap64; omega]
    unfold refBit at hz2
    by_cases h : r * 2 / 4294967296 = 0
    · rw [if_pos h] at hz2
      rw [if_pos (by omega), show (r : Int) * 2 = ((r * 2 : Nat) : Int) by omega]
      exact hz2
    · rw [if_neg h] at hz2
      rw [if_neg (by omega), show (r : Int) * 2 = ((r * 2 : Nat) : Int) by omega, show (4374732215 : Int) = ((4374732215 : Nat) : Int) from rfl, xor_u64 _ _ (by omega) (by omega)]
      exact hz2
theorem refcrc_tells (s : ByteArray) (hm : s.size ≤ 9223372036854775807) : ∀ (d k i : Nat) (x : Nat), x < 4294967296 → i + d = s.size → 10 * d + 40 < k → cisternref03_Crc.l0 k s ((mirV x 32 : Nat) : Int) (i : Int) = some ((crcL x ((bytesOf s).drop i) ^^^ 4294967295 : Nat) : Int) := by
  have hb := bytesOf_byteL s
  have hlen := bytesOf_length s
  intro d
  induction d with
  | zero =>
    intro k i x hx hd hk
    obtain ⟨k, rfl⟩ : ∃ m, k = m + 1 := ⟨k - 1, by omega⟩
    have hxx := Nat.xor_lt_two_pow (n := 32) hx (show 4294967295 < 2 ^ 32 by decide)
    have hl := mirV_lt x 32
    simp only [cisternref03_Crc.l0]
    rw [if_neg (by omega), List.drop_eq_nil_of_le (by omega), crcL_nil, show (4294967295 : Int) = ((4294967295 : Nat) : Int) from rfl, xor_u64 _ _ (by omega) (by decide)]
    have e : mirV x 32 ^^^ 4294967295 = mirV (x ^^^ 4294967295) 32 := by rw [mirV_xor, show mirV 4294967295 32 = 4294967295 by decide +kernel]
    have := mirror_val (mirV (x ^^^ 4294967295) 32) (by have := mirV_lt (x ^^^ 4294967295) 32; omega) 32 k (by omega) (by omega)
    rw [e, show (32 : Int) = ((32 : Nat) : Int) from rfl, this, mirV_mirV _ 32 hxx]
    simp only [Option.bind_some]
    congr 1
    unfold wrap64
    omega
  | succ d ih =>
    intro k i x hx hd hk
    obtain ⟨k, rfl⟩ : ∃ m, k = m + 1 := ⟨k - 1, by omega⟩
    have hi : i < (bytesOf s).length := by omega
    obtain ⟨e, b0, b1⟩ := rd_nat (bytesOf s) hb i hi
    have hbt : bt s (i : Int) = (((bytesOf s)[i].toNat : Nat) : Int) := by rw [← rd_bytesOf, e]; omega
    generalize hv : (bytesOf s)[i].toNat = v at hbt
    have hv2 : v < 256 := by omega
    have hmb := mirV_lt v 8
    simp only [cisternref03_Crc.l0]
    rw [if_pos (by omega), if_pos (by omega), hbt, u64_id _ (by omega) (by omega), show (8 : Int) = ((8 : Nat) : Int) from rfl, mirror_val v (by omega) 8 k (by omega) (by omega)]
    simp only [Option.bind_some]
    have hl := mirV_lt x 32
    have hxv : x ^^^ v < 4294967296 := Nat.xor_lt_two_pow (n := 32) hx (by omega)
    rw [u64_id (((mirV v 8 : Nat) : Int) * 16777216) (by omega) (by omega), show ((mirV v 8 : Nat) : Int) * 16777216 = ((mirV v 8 * 16777216 : Nat) : Int) by omega, ← mirV_byte v hv2, xor_u64 _ _ (by omega) (by have := mirV_lt v 32; omega), ← mirV_xor]
    refine refcrc1_tells s i 8 k 0 _ (mirV_lt _ 32) rfl (by omega) _ ?_
    rw [refBits_mir 8 _ hxv, show wrap64 ((i : Int) + 1) = ((i + 1 : Nat) : Int) by unfold wrap64; omega]
    rw [ih (k - 1 - 8) (i + 1) _ (crcBits_lt hxv) (by omega) (by omega)]
    rw [List.drop_eq_getElem_cons hi, crcL_cons, ← hv]
    rfl
theorem refcrc_val (s : ByteArray) (hm : s.size ≤ 9223372036854775807) (k : Nat) (hk : 10 * s.size + 50 ≤ k) : cisternref03_Crc.f k s = some (crcV (bytesOf s)) := by
  have h := refcrc_tells s hm s.size k 0 4294967295 (by decide) (by omega) (by omega)
  rw [show mirV 4294967295 32 = 4294967295 by decide +kernel] at h
  simpa [cisternref03_Crc.f, crcV] using h
theorem refseal_val (s : ByteArray) (hm : s.size ≤ 140737488351232) (k : Nat) (hk : 10 * s.size + 50 ≤ k) : cisternref03_Seal.f k s = some (strOfNums (sealL (bytesOf s))) := by
  have hcr := crcV_range (bytesOf s) (bytesOf_byteL s)
  unfold cisternref03_Seal.f
  rw [refcrc_val s (by omega) k hk]
  simp only [Option.bind_some]
  rw [u64_id _ hcr.1 (by omega), cisternref03_little.f, show (4 : Int) = ((4 : Nat) : Int) from rfl, little_tells 4 (by omega) 4 k _ [] 0 hcr.1 (by omega) (by omega) (by omega) (by omega) (by simp)]
  simp only [Option.bind_some, List.nil_append]
  rw [if_pos (by rw [size_strOfNums]; simp [leB_length]; omega), sealL]
  have h1 := strOfNums_append (bytesOf s) (leB (crcV (bytesOf s)) 4)
  rw [strOfNums_bytesOf] at h1
  rw [h1]
theorem sealL_take (l : List Int) : (sealL l).take l.length = l := by simp [sealL]
theorem sealL_drop (l : List Int) : (sealL l).drop l.length = leB (crcV l) 4 := by simp [sealL]
theorem openL_seal (l : List Int) (hl : byteL l) : openL (sealL l) = (l, 0) := by
  have hcr := crcV_range l hl
  unfold openL
  rw [sealL_length, if_neg (by omega), show l.length + 4 - 4 = l.length by omega, sealL_take, sealL_drop, getV_leB _ 4 hcr.1 (by omega), if_pos rfl]
theorem wf_u8 {l : List Int} (h : ∀ v ∈ l, (Lit.int .u8 v).wf = true) : byteL l := by
  intro b hb
  have := h b hb
  simpa [Lit.wf, IntKind.min, IntKind.max, IntKind.signed, IntKind.bits] using this
theorem someB_zeros (n : Nat) : someB (List.replicate n 0) = false := by
  unfold someB
  simp
theorem frameL_length (l : List Int) (n : Nat) (h : 2 + l.length ≤ n) : (frameL l n).length = n := by simp [frameL]; omega
theorem frameL_byteL (l : List Int) (n : Nat) (h : 2 + l.length ≤ n) (hn : n ≤ 60000) (hl : byteL l) : byteL (frameL l n) := by
  refine byteL_mk (by omega) (by omega) (byteL_mk (by omega) (by omega) (byteL_append hl (fun b hb => ?_)))
  rw [List.eq_of_mem_replicate hb]
  omega
theorem unframe_frame (l : List Int) (n : Nat) (h : 2 + l.length ≤ n) (hn : n ≤ 60000) : unframeL (frameL l n) = (l, 0) := by
  have hl := frameL_length l n h
  unfold unframeL
  rw [hl, if_neg (by omega)]
  have h2 : (frameL l n).take 2 = [(l.length : Int) % 256, (l.length : Int) / 256] := rfl
  have hv : getV [(l.length : Int) % 256, (l.length : Int) / 256] = (l.length : Int) := by
    simp only [getV]
    omega
  have hd : (frameL l n).drop (2 + l.length) = List.replicate (n - 2 - l.length) 0 := by
    rw [Nat.add_comm]
    simp [frameL]
  have hd2 : ((frameL l n).drop 2).take l.length = l := by simp [frameL]
  rw [h2, hv, Int.toNat_natCast, hd, someB_zeros, if_neg (by simp; omega), hd2]
def OwnN (w : World) (b : Nat) (v : Value) (n : Nat) : Prop := ∃ ys : List Int, ys.length = n ∧ (Kd.int .u8).R 5 w b (fun _ => True) v ys
def KeptV (w w' : World) (v : Value) : Prop := w.heap.size ≤ w'.heap.size ∧ ∀ k, k < w.heap.size → some k ≠ v.ownBlock → w'.heap[k]? = w.heap[k]?
theorem KeptV.refl (w : World) (v : Value) : KeptV w w v := ⟨Nat.le_refl _, fun _ _ _ => rfl⟩
theorem OwnN.of {w : World} {b : Nat} {v : Value} {ys : List Int} (h : (Kd.int .u8).R 5 w b (fun _ => True) v ys) : ∃ A c, v = .slice A ys.length c ∧ OwnN w b (.slice A ys.length c) ys.length := by
  obtain ⟨A, c, rfl⟩ := Kd.R_slice h
  exact ⟨A, c, rfl, ys, rfl, h⟩
theorem OwnN.below {w w1 : World} {b : Nat} {v : Value} {n : Nat} (h : OwnN w b v n) (hb : Below w.heap.size w w1) : OwnN w1 b v n := by
  obtain ⟨ys, hl, hR⟩ := h
  exact ⟨ys, hl, Kd.R_below hR hb⟩
theorem OwnN.at_ {w : World} {b : Nat} {A : Option Addr} {n m c : Nat} (h : OwnN w b (.slice A n c) n) (i : Nat) (hi : i < n) :
    ∃ g, A = some ⟨g, 0, none⟩ ∧ Aside0 (b ≤ g) ∧ (∃ u, w.cell? ⟨g, i, none⟩ = some u) ∧ w.frozen? ⟨g, i, none⟩ = false ∧ Aside0 (∀ x, OwnN (w.setCell ⟨g, i, none⟩ (.int .u8 x)) b (.slice A n c) n) ∧ Aside0 (∀ w0 x, KeptV w0 w (.slice A n c) → KeptV w0 (w.setCell ⟨g, i, none⟩ x) (.slice A n c)) ∧ Aside0 (∀ B w0 x, B ≤ b → Below B w0 w → Below B w0 (w.setCell ⟨g, i, none⟩ x)) := by
  obtain ⟨ys, rfl, hR⟩ := h
  obtain ⟨inner, ho⟩ := Kd.R_own hR
  rcases ho.2 with ⟨hv, h0⟩ | ⟨g, cap, cur, hv, hg, _⟩
  · exfalso
    simp only [Value.slice.injEq] at hv
    omega
  · simp only [Value.slice.injEq] at hv
    obtain ⟨rfl, _, _⟩ := hv
    obtain ⟨k1, k2⟩ := Kd.R_cell (0 : Int) hR (i : Int) (by omega) (by omega)
    rw [Int.toNat_natCast] at k1 k2
    refine ⟨g, rfl, ⟨hg⟩, ⟨_, k1⟩, k2, ⟨fun x => ?_⟩, ⟨fun w0 x hk => ?_⟩, ⟨fun B w0 x hB hb => hb.setCell (by show B ≤ g; omega) x⟩⟩
    · have h := Kd.R_putn hR (i : Int) x
      rw [Int.toNat_natCast] at h
      exact ⟨_, List.length_set, h⟩
    · refine ⟨by simpa [World.setCell] using hk.1, fun k h1 h2 => ?_⟩
      rw [Below.heap_setCell w ⟨g, i, none⟩ x k (fun e => h2 (by rw [e]; rfl))]
      exact hk.2 k h1 h2
end
end Go.Proofs.YtmkkeccmjejfnaaDoor.PA
namespace Go.Proofs.YtmkkeccmjejfnaaDoor.PA
section

open Go.RowKit Go.Proofs.YtmkkeccmjejfnaaDoorW.PrintWords Go.Proofs.YtmkkeccmjejfnaaDoorW.PrintLast Go.Proofs.YtmkkeccmjejfnaaDoorW.PrintMore
set_option linter.unusedVariables false
set_option linter.unusedSimpArgs false
theorem toK {α : Type} {g : Nat → Option α} (h : ∀ k, LeO (g k) (g (k + 1))) {k k' : Nat} (hk : k ≤ k') {r : α} (hr : g k = some r) : g k' = some r := at_rounds h hk hr
def numI (ns : List Int) : List S77 := ns.map (fun n => ⟨1, n, ⟨#[]⟩⟩)
def textI : Option ByteArray → List S77
  | none => []
  | some t => [⟨2, 0, t⟩]
def recI (ns : List Int) (t : Option ByteArray) : List S77 := numI ns ++ textI t
def wf64 (x : Int) : Prop := -9223372036854775808 ≤ x ∧ x ≤ 9223372036854775807
theorem wf64_iff {x : Int} : (Lit.int .i64 x).wf = true ↔ wf64 x := by
  simp [Lit.wf, IntKind.min, IntKind.max, IntKind.signed, IntKind.bits, wf64]
theorem size_nil : (⟨#[]⟩ : ByteArray).size = 0 := rfl
def tsz (t : Option ByteArray) : Nat := (t.getD ⟨#[]⟩).size
theorem recI_check (ns : List Int) (t : Option ByteArray) (hn : ns.length ≤ 100) (ht : tsz t ≤ 160) : pack_checkV (recI ns t) = 0 := by
  refine (checkV_iff _).2 ⟨?_, fun x hx => ?_⟩
  · cases t <;> simp [recI, numI, textI] <;> omega
  · rcases List.mem_append.1 hx with hx | hx
    · obtain ⟨n, _, rfl⟩ := List.mem_map.1 hx
      exact ⟨by simp [okB, toList_data], by simp [longB]⟩
    · cases t with
      | none => simp [textI] at hx
      | some t =>
        rcases List.mem_singleton.1 hx with rfl
        refine ⟨by simp [okB], ?_⟩
        simp only [tsz, Option.getD_some] at ht
        simp [longB]
        omega
theorem recI_wf (ns : List Int) (t : Option ByteArray) (h : ∀ n ∈ ns, wf64 n) : ∀ x ∈ recI ns t, wfI x := by
  intro x hx
  rcases List.mem_append.1 hx with hx | hx
  · obtain ⟨n, hn, rfl⟩ := List.mem_map.1 hx
    exact wf64_iff.2 (h n hn)
  · cases t with
    | none => simp [textI] at hx
    | some t =>
      rcases List.mem_singleton.1 hx with rfl
      exact (by decide : (Lit.int .i64 0).wf = true)
theorem encI_num (n : Int) : (encI (⟨1, n, ⟨#[]⟩⟩ : S77)).length = 9 := by simp [encI, leB_length]
theorem recI_len (ns : List Int) (t : Option ByteArray) : (encL (recI ns t)).length ≤ 9 * ns.length + 3 + tsz t := by
  have h1 : (encL (numI ns)).length = 9 * ns.length := by
    induction ns with
    | nil => rfl
    | cons n ns ih =>
      rw [show numI (n :: ns) = ⟨1, n, ⟨#[]⟩⟩ :: numI ns from rfl, encL_cons, List.length_append, ih, encI_num, List.length_cons]
      omega
  rw [recI, encL_append, List.length_append, h1]
  cases t with
  | none => simp [textI, encL]; omega
  | some t => simp [textI, encL, encI, leB_length, bytesOf_length, tsz]; omega
def secL (l : List S77) : List Int := frameL (sealL (encL l)) 256
theorem secL_byteL (l : List S77) (h : (encL l).length ≤ 250) : byteL (secL l) := frameL_byteL _ _ (by rw [sealL_length]; omega) (by omega) (sealL_byteL (encL_byteL l))
theorem secL_length (l : List S77) (h : (encL l).length ≤ 250) : (secL l).length = 256 := frameL_length _ _ (by rw [sealL_length]; omega)
theorem sealK (l : List Int) (hl : byteL l) (hm : l.length ≤ 140737488351232) (k : Nat) (hk : 10 * l.length + 20 ≤ k) : pack_Seal.f k l = some (sealL l) := toK (pack_Seal.mono l) hk (seal_val l hl hm)
theorem sector_val (l : List S77) (hc : pack_checkV l = 0) (h : (encL l).length ≤ 250) (k : Nat) (hk : 3000 ≤ k) : record_sector.f k l = some (secL l, 0) := by
  have e1 : pack_Encode.f l = some (encL l, 0) := by rw [encode_some, if_pos hc, hc]
  have e2 := sealK (encL l) (encL_byteL l) (by omega) k (by omega)
  have e3 : pack_Frame.f (sealL (encL l)) 256 = some (frameL (sealL (encL l)) 256, 0) := by
    unfold pack_Frame.f frameV
    rw [sealL_length, if_pos (by omega), if_neg (by omega), if_neg (by omega)]
    rfl
  unfold record_sector.f
  rw [e1, Option.bind_some]
  rw [if_pos rfl, e2, Option.bind_some, e3]
  rfl
theorem wsuc (i : Nat) (h : i ≤ 9223372036854775806) : wrap64 ((i : Int) + 1) = ((i + 1 : Nat) : Int) := by unfold wrap64; omega
theorem rd_get (l : List Int) (i : Nat) (h : i < l.length) : rd l (i : Int) = l[i] := by
  unfold rd; rw [Int.toNat_natCast, List.getD_eq_getElem?_getD, List.getElem?_eq_getElem h, Option.getD_some]
theorem numbers_tells (ns : List Int) (hl : ns.length ≤ 1000) : ∀ (d k i : Nat), i + d = ns.length → d < k → record_numbers.l0 k (numI (ns.take i)) ns (ns.length : Int) (i : Int) = some (numI ns) := by
  intro d
  induction d with
  | zero =>
    intro k i hi hk
    obtain ⟨k, rfl⟩ : ∃ m, k = m + 1 := ⟨k - 1, by omega⟩
    simp only [record_numbers.l0]
    rw [if_neg (by omega), List.take_of_length_le (by omega)]
  | succ d ih =>
    intro k i hi hk
    obtain ⟨k, rfl⟩ : ∃ m, k = m + 1 := ⟨k - 1, by omega⟩
    have hil : i < ns.length := by omega
    simp only [record_numbers.l0]
    rw [if_pos (by omega), if_pos (by omega), if_pos (by omega), if_pos (by simp [numI]; omega), wsuc i (by omega), rd_get ns i hil]
    have e : numI (ns.take i) ++ [⟨1, ns[i], ⟨#[]⟩⟩] = numI (ns.take (i + 1)) := by
      rw [List.take_succ_eq_append_getElem hil]
      simp only [numI, List.map_append, List.map_cons, List.map_nil]
    rw [e]
    exact ih k (i + 1) (by omega) (by omega)
theorem numbers_val (ns : List Int) (hl : ns.length ≤ 1000) (k : Nat) (hk : ns.length < k) : record_numbers.f k ns = some (numI ns) := numbers_tells ns hl ns.length k 0 (by omega) hk
def natB (ns : List Int) : Bool := ns.all (fun n => decide (0 ≤ n))
theorem natural_tells (ns : List Int) (hl : ns.length ≤ 1000) : ∀ (d k i : Nat), i + d = ns.length → d < k → record_natural.l0 k ns (ns.length : Int) (i : Int) = some (natB (ns.drop i)) := by
  intro d
  induction d with
  | zero =>
    intro k i hi hk
    obtain ⟨k, rfl⟩ : ∃ m, k = m + 1 := ⟨k - 1, by omega⟩
    simp only [record_natural.l0]
    rw [if_neg (by omega), List.drop_eq_nil_of_le (by omega)]
    rfl
  | succ d ih =>
    intro k i hi hk
    obtain ⟨k, rfl⟩ : ∃ m, k = m + 1 := ⟨k - 1, by omega⟩
    have hil : i < ns.length := by omega
    have e : natB (ns.drop i) = (decide (0 ≤ ns[i]) && natB (ns.drop (i + 1))) := by rw [List.drop_eq_getElem_cons hil]; rfl
    simp only [record_natural.l0]
    rw [if_pos (by omega), if_pos (by omega), if_pos (by omega), rd_get ns i hil]
    by_cases h : ns[i] < 0
    · rw [if_pos h, e, decide_eq_false (by omega)]
      rfl
    · rw [if_neg h, wsuc i (by omega), ih k (i + 1) (by omega) (by omega), e, decide_eq_true (by omega), Bool.true_and]
theorem natural_val (ns : List Int) (hl : ns.length ≤ 1000) (k : Nat) (hk : ns.length < k) : record_natural.f k ns = some (natB ns) := natural_tells ns hl ns.length k 0 (by omega) hk
def logB (ns : List Int) (t : ByteArray) : Bool :=
  match ns with
  | [n0, _, _, _, _, _, n6] => n0 == 1 || (n0 == 2 && (n6 == 0 && t.toList == ([] : List UInt8)))
  | _ => false
theorem superR_val (a b c : Int) (k : Nat) (hk : 10 ≤ k) : record_Super_right.f k a b c = some (natB [a, b, c]) := by
  unfold record_Super_right.f
  rw [natural_val _ (by simp) k (by simp; omega)]
  rfl
theorem logR_val (n0 n1 n2 n3 n4 n5 n6 : Int) (t : ByteArray) (k : Nat) (hk : 20 ≤ k) : record_Log_right.f k n0 n1 n2 n3 n4 n5 n6 t = some (natB [n1, n2, n3, n4, n5, n6] && (decide (t.size ≤ 160) && logB [n0, n1, n2, n3, n4, n5, n6] t)) := by
  obtain ⟨k, rfl⟩ : ∃ m, k = m + 1 := ⟨k - 1, by omega⟩
  unfold record_Log_right.f
  rw [natural_val _ (by simp) _ (by simp; omega), Option.bind_some]
  cases hn : natB [n1, n2, n3, n4, n5, n6]
  · rw [if_neg (by decide)]
    simp [record_Log_right.j0]
  · rw [if_pos rfl, Bool.true_and]
    simp only [record_Log_right.j0]
    by_cases h1 : 160 < t.size
    · rw [decide_eq_true (show (t.size : Int) > 160 by omega), if_pos rfl, decide_eq_false (by omega)]
      rfl
    · rw [decide_eq_false (show ¬ (t.size : Int) > 160 by omega), if_neg (by decide), decide_eq_true (by omega), Bool.true_and]
      by_cases h2 : n0 = 2
      · rw [if_pos h2]
        by_cases h3 : n6 = 0
        · rw [if_pos h3]
          simp [logB, h2, h3]
        · rw [if_neg h3]
          simp [logB, h2, h3]
      · rw [if_neg h2]
        simp [logB, h2]
theorem homeR_val (p : Int) (t : ByteArray) : record_Home_right.f p t = some (decide (0 ≤ p) && decide (t.size ≤ 160)) := by
  unfold record_Home_right.f
  by_cases h : 0 ≤ p
  · rw [if_pos h, decide_eq_true h, Bool.true_and]
    congr 1
    exact decide_eq_decide.2 (by omega)
  · rw [if_neg h, decide_eq_false h]
    rfl
/-- What must be of a record of a kind. -/
def rightB (kind : Int) (ns : List Int) (t : ByteArray) : Bool :=
  natB ns && (decide (t.size ≤ 160) && (if kind = 1 then decide (ns.length = 3) && t.toList == ([] : List UInt8) else if kind = 2 then logB ns t else decide (ns.length = 1)))
def txt (kind : Int) (t : ByteArray) : Option ByteArray := if kind = 1 then none else some t
def encV (kind : Int) (ns : List Int) (t : ByteArray) : List Int × Int := if rightB kind ns t = true then (secL (recI (kind :: ns) (txt kind t)), 0) else ([], 2)
theorem encodeSuper_val (a b c : Int) (k : Nat) (hk : 3000 ≤ k) : record_EncodeSuper.f k a b c = some (encV 1 [a, b, c] ⟨#[]⟩) := by
  have hr : rightB 1 [a, b, c] ⟨#[]⟩ = natB [a, b, c] := by simp [rightB, toList_data, size_nil]
  unfold record_EncodeSuper.f encV
  rw [superR_val a b c k (by omega), Option.bind_some, hr]
  cases hn : natB [a, b, c]
  · rfl
  · rw [if_pos rfl, if_pos rfl, numbers_val _ (by simp) k (by simp; omega), Option.bind_some]
    have e : numI [1, a, b, c] = recI (1 :: [a, b, c]) (txt 1 ⟨#[]⟩) := by simp [recI, txt, textI]
    have hl := recI_len (1 :: [a, b, c]) (txt 1 ⟨#[]⟩)
    rw [e, sector_val _ (recI_check _ _ (by simp) (by simp [txt, tsz, size_nil])) (by simp [txt, tsz, size_nil] at hl ⊢; omega) k hk]
    rfl
theorem encodeLog_val (n0 n1 n2 n3 n4 n5 n6 : Int) (t : ByteArray) (k : Nat) (hk : 3000 ≤ k) : record_EncodeLog.f k n0 n1 n2 n3 n4 n5 n6 t = some (encV 2 [n0, n1, n2, n3, n4, n5, n6] t) := by
  have hr : rightB 2 [n0, n1, n2, n3, n4, n5, n6] t = (natB [n1, n2, n3, n4, n5, n6] && (decide (t.size ≤ 160) && logB [n0, n1, n2, n3, n4, n5, n6] t)) := by
    unfold rightB
    rw [if_neg (by decide), if_pos rfl]
    cases hl : logB [n0, n1, n2, n3, n4, n5, n6] t
    · simp
    · have h0 : 0 ≤ n0 := by
        simp only [logB, Bool.or_eq_true, Bool.and_eq_true, beq_iff_eq] at hl
        rcases hl with h | h
        · omega
        · omega
      have : natB [n0, n1, n2, n3, n4, n5, n6] = natB [n1, n2, n3, n4, n5, n6] := by
        simp [natB, h0]
      rw [this]
  unfold record_EncodeLog.f encV
  rw [logR_val _ _ _ _ _ _ _ _ k (by omega), Option.bind_some, ← hr]
  cases hn : rightB 2 [n0, n1, n2, n3, n4, n5, n6] t
  · rfl
  · have hs : t.size ≤ 160 := by
      simp only [rightB, Bool.and_eq_true, decide_eq_true_eq] at hn
      exact hn.2.1
    rw [if_pos rfl, if_pos rfl, numbers_val _ (by simp) k (by simp; omega), Option.bind_some]
    simp only [record_text.f, Option.bind_some]
    have e : numI [2, n0, n1, n2, n3, n4, n5, n6] ++ [⟨2, 0, t⟩] = recI (2 :: [n0, n1, n2, n3, n4, n5, n6]) (txt 2 t) := by simp [recI, txt, textI]
    have hl := recI_len (2 :: [n0, n1, n2, n3, n4, n5, n6]) (txt 2 t)
    have hts : tsz (txt 2 t) = t.size := by simp [txt, tsz]
    rw [hts] at hl
    rw [if_pos (by simp [numI]), e, sector_val _ (recI_check _ _ (by simp) (by omega)) (by simp at hl ⊢; omega) k hk]
    rfl
theorem encodeHome_val (p : Int) (t : ByteArray) (k : Nat) (hk : 3000 ≤ k) : record_EncodeHome.f k p t = some (encV 3 [p] t) := by
  have hr : rightB 3 [p] t = (decide (0 ≤ p) && decide (t.size ≤ 160)) := by simp [rightB, natB]
  unfold record_EncodeHome.f encV
  rw [homeR_val, Option.bind_some, ← hr]
  cases hn : rightB 3 [p] t
  · rfl
  · have hs : t.size ≤ 160 := by
      simp only [rightB, Bool.and_eq_true, decide_eq_true_eq] at hn
      exact hn.2.1
    rw [if_pos rfl, if_pos rfl, numbers_val _ (by simp) k (by simp; omega), Option.bind_some]
    simp only [record_text.f, Option.bind_some]
    have e : numI [3, p] ++ [⟨2, 0, t⟩] = recI (3 :: [p]) (txt 3 t) := by simp [recI, txt, textI]
    have hl := recI_len (3 :: [p]) (txt 3 t)
    have hts : tsz (txt 3 t) = t.size := by simp [txt, tsz]
    rw [hts] at hl
    rw [if_pos (by simp [numI]), e, sector_val _ (recI_check _ _ (by simp) (by omega)) (by simp at hl ⊢; omega) k hk]
    rfl
end
end Go.Proofs.YtmkkeccmjejfnaaDoor.PA
namespace Go.Proofs.YtmkkeccmjejfnaaDoor.PA
section

open Go.RowKit Go.Proofs.YtmkkeccmjejfnaaDoorW.PrintWords Go.Proofs.YtmkkeccmjejfnaaDoorW.PrintLast Go.Proofs.YtmkkeccmjejfnaaDoorW.PrintMore
set_option linter.unusedVariables false
set_option linter.unusedSimpArgs false
def unsealV (u : List Int) : List S77 × Int := if (openL u).2 = 0 then decF (openL u).1 else ([], (openL u).2)
theorem openL_byteL {u : List Int} (h : byteL u) : byteL (openL u).1 := by
  unfold openL
  split
  · intro b hb; cases hb
  · split
    · exact byteL_take h _
    · intro b hb; cases hb
theorem openL_len (u : List Int) : (openL u).1.length ≤ u.length := by
  unfold openL
  split
  · simp
  · split
    · rw [List.length_take]; omega
    · simp
theorem unseal_val (u : List Int) (hb : byteL u) (hl : u.length ≤ 140737488351232) (k : Nat) (hk : 4 * u.length + 100 ≤ k) : record_unseal.f k u = some (unsealV u) := by
  have e1 : pack_Open.f u = some (openL u) := by rw [pack_Open.f, if_pos ⟨byteB_iff.2 hb, by omega⟩]
  have hlen := openL_len u
  unfold record_unseal.f unsealV
  rw [e1, Option.bind_some]
  by_cases h : (openL u).2 = 0
  · rw [if_pos h, if_pos h, decode_val _ (openL_byteL hb) (by omega) k (by omega)]
    rfl
  · rw [if_neg h, if_neg h]
theorem unframeL_byteL {b : List Int} (h : byteL b) : byteL (unframeL b).1 := by
  unfold unframeL
  split
  · intro b hb; cases hb
  · split
    · intro b hb; cases hb
    · exact byteL_take (byteL_drop h _) _
theorem unframeL_len (b : List Int) : (unframeL b).1.length ≤ 60000 := by
  unfold unframeL
  split
  · simp
  · split
    · simp
    · rw [List.length_take, List.length_drop]; omega
def openV (b : List Int) (kind : Int) (m : Nat) (tx : Bool) : List Int × ByteArray × Int :=
  if (unframeL b).2 = 0 then (if (unsealV (unframeL b).1).2 = 0 then itemsV b.length (unsealV (unframeL b).1).1 kind m tx else ([], ⟨#[]⟩, (unsealV (unframeL b).1).2)) else ([], ⟨#[]⟩, 2)
theorem open_val (b : List Int) (hb : byteL b) (hl : b.length ≤ 140737488351232) (kind : Int) (m : Nat) (hm : m ≤ 100) (tx : Bool) (k : Nat) (hk : 300000 ≤ k) : record_open.f k b kind (m : Int) tx = some (openV b kind m tx) := by
  have e1 : pack_Unframe.f b = some (unframeL b) := by unfold pack_Unframe.f; rw [if_pos ⟨byteB_iff.2 hb, by omega⟩]
  have hlen := unframeL_len b
  unfold record_open.f openV
  rw [if_pos (by omega), e1, Option.bind_some, Int.toNat_natCast]
  by_cases h : (unframeL b).2 = 0
  · rw [if_pos h, if_pos h, unseal_val _ (unframeL_byteL hb) (by omega) k (by omega), Option.bind_some]
    split <;> rfl
  · rw [if_neg h, if_neg h]
theorem recI_items (kind : Int) (ns : List Int) (t : Option ByteArray) : itemsV 256 (recI (kind :: ns) t) kind ns.length t.isSome = (ns, t.getD ⟨#[]⟩, 0) := by
  have hl : (recI (kind :: ns) t).length = 1 + ns.length + (if t.isSome = true then 1 else 0) := by
    cases t <;> simp [recI, numI, textI] <;> omega
  have hh : headB (rd_T77 (recI (kind :: ns) t) 0) kind = true := by
    have : rd_T77 (recI (kind :: ns) t) 0 = ⟨1, kind, ⟨#[]⟩⟩ := rfl
    rw [this]
    simp [headB, toList_data]
  have hmid : ((recI (kind :: ns) t).drop 1).take ns.length = numI ns := by
    have : (recI (kind :: ns) t).drop 1 = numI ns ++ textI t := rfl
    rw [this, List.take_append_of_le_length (by simp [numI]), List.take_of_length_le (by simp [numI])]
  have hall : (numI ns).all (fun x => x.f0 == 1) = true := by simp [numI]
  have hmap : (numI ns).map (·.f1) = ns := by simp [numI, Function.comp_def]
  unfold itemsV
  rw [if_neg (by rw [hl, hh]; simp), hmid, hall, hmap, if_neg (by decide)]
  cases t with
  | none => rfl
  | some t =>
    have hlast : rd_T77 (recI (kind :: ns) (some t)) ((ns.length : Int) + 1) = ⟨2, 0, t⟩ := by
      unfold rd_T77
      rw [show ((ns.length : Int) + 1).toNat = ns.length + 1 by omega, List.getD_eq_getElem?_getD]
      have : (recI (kind :: ns) (some t))[ns.length + 1]? = some ⟨2, 0, t⟩ := by
        rw [recI, List.getElem?_append_right (by simp [numI])]
        simp [numI, textI]
      rw [this]
      rfl
    rw [if_neg (by simp), hlast]
    rfl
theorem small_enc (kind : Int) (ns : List Int) (t : Option ByteArray) (hn : ns.length ≤ 7) (ht : tsz t ≤ 160) : (encL (recI (kind :: ns) t)).length ≤ 250 := by
  have := recI_len (kind :: ns) t
  simp at this
  omega
theorem unseal_enc (kind : Int) (ns : List Int) (t : Option ByteArray) (hn : ns.length ≤ 7) (ht : tsz t ≤ 160) (hw : ∀ n ∈ kind :: ns, wf64 n) :
    (unframeL (secL (recI (kind :: ns) t))) = (sealL (encL (recI (kind :: ns) t)), 0) ∧ unsealV (sealL (encL (recI (kind :: ns) t))) = (recI (kind :: ns) t, 0) := by
  have hs := small_enc kind ns t hn ht
  refine ⟨unframe_frame _ _ (by rw [sealL_length]; omega) (by omega), ?_⟩
  unfold unsealV
  rw [openL_seal _ (encL_byteL _), if_pos rfl]
  exact decF_enc _ (recI_check _ _ (by simp; omega) ht) (recI_wf _ _ hw)
theorem open_enc (kind : Int) (ns : List Int) (t : Option ByteArray) (hn : ns.length ≤ 7) (ht : tsz t ≤ 160) (hw : ∀ n ∈ kind :: ns, wf64 n) :
    openV (secL (recI (kind :: ns) t)) kind ns.length t.isSome = (ns, t.getD ⟨#[]⟩, 0) := by
  obtain ⟨h1, h2⟩ := unseal_enc kind ns t hn ht hw
  unfold openV
  rw [h1, if_pos rfl]
  simp only [h2]
  rw [if_pos trivial, secL_length _ (small_enc kind ns t hn ht)]
  exact recI_items kind ns t
theorem seal_open {u c : List Int} (hb : byteL u) (h : openL u = (c, 0)) : u = sealL c := by
  unfold openL at h
  split at h
  · simp at h
  · rename_i h4
    split at h
    · rename_i hg
      simp only [Prod.mk.injEq, and_true] at h
      have := leB_getV (u.drop (u.length - 4)) (byteL_drop hb _)
      rw [List.length_drop, show u.length - (u.length - 4) = 4 by omega] at this
      rw [← h, sealL, ← hg, this, List.take_append_drop]
    · simp at h
theorem someB_rep {l : List Int} (h : ¬ someB l = true) : l = List.replicate l.length 0 := by
  refine List.eq_replicate_iff.2 ⟨rfl, fun b hb => ?_⟩
  simp only [someB, List.any_eq_true, bne_iff_ne, not_exists, not_and, Decidable.not_not] at h
  exact h b hb
theorem frame_unframe {b u : List Int} (hb : byteL b) (h : unframeL b = (u, 0)) : b = frameL u b.length := by
  unfold unframeL at h
  split at h
  · simp at h
  · rename_i h1
    split at h
    · simp at h
    · rename_i h2
      have hl : 2 ≤ b.length ∧ b.length ≤ 60000 := by omega
      have l2 : (b.take 2).length = 2 := by rw [List.length_take]; omega
      have hg := getV2 _ (byteL_take hb 2) l2
      obtain ⟨n, hn⟩ : ∃ n : Nat, getV (b.take 2) = (n : Int) := ⟨(getV (b.take 2)).toNat, by omega⟩
      rw [hn, Int.toNat_natCast] at h h2
      simp only [Prod.mk.injEq, and_true] at h
      have hnl : 2 + n ≤ b.length := by
        rcases Nat.lt_or_ge b.length (2 + n) with h3 | h3
        · exact absurd (.inl (by omega)) h2
        · exact h3
      have hz : ¬ someB (b.drop (2 + n)) = true := fun h3 => h2 (.inr h3)
      have hul : u.length = n := by rw [← h, List.length_take, List.length_drop]; omega
      match b, l2, hl with
      | x :: y :: r, _, hl =>
        have hx := (byteL_cons hb)
        have hy := (byteL_cons hx.2.2)
        have hv : getV [x, y] = x + 256 * y := by simp [getV]
        have hn' : x + 256 * y = (n : Int) := by rw [← hv]; exact hn
        have e1 : (u.length : Int) % 256 = x := by rw [hul]; omega
        have e2 : (u.length : Int) / 256 = y := by rw [hul]; omega
        have e3 : r = u ++ r.drop n := by rw [← h]; exact (List.take_append_drop n r).symm
        have e4 : (x :: y :: r).drop (2 + n) = r.drop n := by rw [Nat.add_comm]; rfl
        rw [e4] at hz
        have e5 := someB_rep hz
        have e6 : (r.drop n).length = (x :: y :: r).length - 2 - u.length := by rw [List.length_drop, hul]; simp
        unfold frameL
        rw [e1, e2, ← e6, ← e5, ← e3]
theorem num_item {x : S77} (h : okB x = true) (h1 : x.f0 = 1) : x = ⟨1, x.f1, ⟨#[]⟩⟩ := by
  have h2 : x.f2 = ⟨#[]⟩ := by
    have : x.f2.toList = [] := by simpa [okB, h1] using h
    rw [show (⟨#[]⟩ : ByteArray) = ⟨#[]⟩ from rfl]
    exact toList_inj'.1 (by rw [this]; simp [toList_data])
  calc x = ⟨x.f0, x.f1, x.f2⟩ := rfl
    _ = _ := by rw [h1, h2]
theorem text_item {x : S77} (h : okB x = true) (h1 : x.f0 = 2) : x = ⟨2, 0, x.f2⟩ := by
  have h2 : x.f1 = 0 := by simpa [okB, h1] using h
  calc x = ⟨x.f0, x.f1, x.f2⟩ := rfl
    _ = _ := by rw [h1, h2]
theorem mid_num (l : List S77) (hok : ∀ x ∈ l, okB x = true) (h : l.all (fun x => x.f0 == 1) = true) : l = numI (l.map (·.f1)) := by
  induction l with
  | nil => rfl
  | cons x l ih =>
    simp only [List.all_cons, Bool.and_eq_true, beq_iff_eq] at h
    have hx := num_item (hok x (by simp)) h.1
    have hl := ih (fun y hy => hok y (by simp [hy])) h.2
    calc x :: l = ⟨1, x.f1, ⟨#[]⟩⟩ :: numI (l.map (·.f1)) := by rw [← hl, ← hx]
      _ = _ := rfl
theorem items_tells {n : Nat} {l : List S77} {kind : Int} {m : Nat} {tx : Bool} {ns : List Int} {t : ByteArray} (hok : ∀ x ∈ l, okB x = true) (h : itemsV n l kind m tx = (ns, t, 0)) :
    n = 256 ∧ l = recI (kind :: ns) (if tx = true then some t else none) ∧ ns.length = m ∧ (tx = false → t = ⟨#[]⟩) := by
  unfold itemsV at h
  by_cases h1 : n ≠ 256 ∨ l.length ≠ 1 + m + (if tx = true then 1 else 0) ∨ headB (rd_T77 l 0) kind = false
  · rw [if_pos h1] at h
    simp at h
  · rw [if_neg h1] at h
    by_cases h2 : ((l.drop 1).take m).all (fun x => x.f0 == 1) = false
    · rw [if_pos h2] at h
      simp at h
    · rw [if_neg h2] at h
      have g1 : n = 256 := by omega
      have g2 : l.length = 1 + m + (if tx = true then 1 else 0) := by omega
      have g3 : headB (rd_T77 l 0) kind = true := by
        cases hh : headB (rd_T77 l 0) kind
        · exact absurd (.inr (.inr hh)) h1
        · rfl
      have g4 : ((l.drop 1).take m).all (fun x => x.f0 == 1) = true := by
        cases hh : ((l.drop 1).take m).all (fun x => x.f0 == 1)
        · exact absurd hh h2
        · rfl
      match l, g2, g3, g4, hok, h with
      | [], g2, _, _, _, _ => exfalso; simp at g2; omega
      | x :: r, g2, g3, g4, hok, h =>
        have hx0 : rd_T77 (x :: r) 0 = x := rfl
        rw [hx0] at g3
        simp only [headB, Bool.and_eq_true, beq_iff_eq] at g3
        have hx : x = ⟨1, kind, ⟨#[]⟩⟩ := by
          have := num_item (hok x (by simp)) g3.1
          rw [g3.2.1] at this
          exact this
        have hrl : r.length = m + (if tx = true then 1 else 0) := by simp at g2; omega
        have hd : (x :: r).drop 1 = r := rfl
        rw [hd] at g4 h
        have hmid := mid_num (r.take m) (fun y hy => hok y (by simp [List.mem_of_mem_take hy])) g4
        refine ⟨g1, ?_⟩
        cases tx with
        | false =>
          rw [if_pos rfl] at h
          simp only [Prod.mk.injEq, and_true] at h
          obtain ⟨h3, h4⟩ := h
          have hrm : r.take m = r := List.take_of_length_le (by simp at hrl; omega)
          refine ⟨?_, by rw [← h3, List.length_map, hrm]; simpa using hrl, fun _ => h4.symm⟩
          rw [← h3]
          show x :: r = ⟨1, kind, ⟨#[]⟩⟩ :: (numI ((r.take m).map (·.f1)) ++ [])
          rw [← hmid, hrm, List.append_nil, ← hx]
        | true =>
          rw [if_neg (by decide)] at h
          split at h
          · rename_i h5
            simp only [Prod.mk.injEq, and_true] at h
            obtain ⟨h3, h4⟩ := h
            have hml : m < r.length := by simp at hrl; omega
            have hlast : rd_T77 (x :: r) ((m : Int) + 1) = r[m] := by
              unfold rd_T77
              rw [show ((m : Int) + 1).toNat = m + 1 by omega, List.getD_eq_getElem?_getD, List.getElem?_cons_succ, List.getElem?_eq_getElem hml]
              rfl
            rw [hlast] at h4 h5
            have hy := text_item (hok r[m] (by simp)) h5
            rw [h4] at hy
            have hr : r = r.take m ++ [r[m]] := by
              rw [← List.take_succ_eq_append_getElem hml, List.take_of_length_le (by simp at hrl; omega)]
            refine ⟨?_, by rw [← h3, List.length_map, List.length_take]; omega, fun h => by cases h⟩
            rw [← h3]
            show x :: r = ⟨1, kind, ⟨#[]⟩⟩ :: (numI ((r.take m).map (·.f1)) ++ [⟨2, 0, t⟩])
            rw [← hmid, ← hx, ← hy, ← hr]
          · simp at h
theorem open_tells {b : List Int} (hb : byteL b) {kind : Int} {m : Nat} {tx : Bool} {ns : List Int} {t : ByteArray} (h : openV b kind m tx = (ns, t, 0)) :
    b = secL (recI (kind :: ns) (if tx = true then some t else none)) ∧ unframeL b = (sealL (encL (recI (kind :: ns) (if tx = true then some t else none))), 0) ∧ unsealV (unframeL b).1 = (recI (kind :: ns) (if tx = true then some t else none), 0) ∧ ns.length = m ∧ (tx = false → t = ⟨#[]⟩) ∧ ∀ n ∈ kind :: ns, wf64 n := by
  unfold openV at h
  split at h
  · rename_i h1
    split at h
    · rename_i h2
      obtain ⟨u, hu⟩ : ∃ u, u = (unframeL b).1 := ⟨_, rfl⟩
      have hu2 : unframeL b = (u, 0) := by rw [hu, ← h1]
      rw [← hu] at h h2 ⊢
      have hub : byteL u := by rw [hu]; exact unframeL_byteL hb
      have h3 : (openL u).2 = 0 := by
        unfold unsealV at h2
        split at h2
        · assumption
        · exact h2
      have hc : openL u = ((openL u).1, 0) := by rw [← h3]
      have hs := seal_open hub hc
      have hv : unsealV u = decF (openL u).1 := by unfold unsealV; rw [if_pos h3]
      rcases decF_tells _ (openL_byteL hub) with h4 | ⟨l, h4, h5, h6, h7⟩
      · rw [hv, h4] at h2
        cases h2
      · rw [hv, h4] at h
        obtain ⟨_, hok⟩ := (checkV_iff l).1 h6
        obtain ⟨g1, g2, g3, g4⟩ := items_tells (fun x hx => (hok x hx).1) h
        refine ⟨?_, ?_, by rw [hv, h4, g2], g3, g4, fun n hn => ?_⟩
        · have hf := frame_unframe hb hu2
          rw [hf, g1, hs, ← h5, g2]
          rfl
        · rw [hu2, hs, ← h5, g2]
        · have : (⟨1, n, ⟨#[]⟩⟩ : S77) ∈ l := by
            rw [g2, recI]
            refine List.mem_append_left _ ?_
            exact List.mem_map.2 ⟨n, hn, rfl⟩
          exact wf64_iff.1 (h7 _ this)
    · simp only [Prod.mk.injEq] at h
      rename_i h2
      exact absurd h.2.2 h2
  · simp at h
end
end Go.Proofs.YtmkkeccmjejfnaaDoor.PA
namespace Go.Proofs.YtmkkeccmjejfnaaDoor.PA
section

open Go.RowKit Go.Proofs.YtmkkeccmjejfnaaDoorW.PrintWords Go.Proofs.YtmkkeccmjejfnaaDoorW.PrintLast Go.Proofs.YtmkkeccmjejfnaaDoorW.PrintMore
set_option linter.unusedVariables false
set_option linter.unusedSimpArgs false
def cnt (kind : Int) : Nat := if kind = 1 then 3 else if kind = 2 then 7 else 1
def docV (b : List Int) (kind : Int) : Int × List Int × ByteArray × Int :=
  if (openV b kind (cnt kind) (decide (kind ≠ 1))).2.2 = 0 then
    (if rightB kind (openV b kind (cnt kind) (decide (kind ≠ 1))).1 (openV b kind (cnt kind) (decide (kind ≠ 1))).2.1 = true then (kind, (openV b kind (cnt kind) (decide (kind ≠ 1))).1, (openV b kind (cnt kind) (decide (kind ≠ 1))).2.1, 0) else (0, [], ⟨#[]⟩, 2))
  else (0, [], ⟨#[]⟩, (openV b kind (cnt kind) (decide (kind ≠ 1))).2.2)
theorem rightB_len {kind : Int} {ns : List Int} {t : ByteArray} (h : rightB kind ns t = true) : ns.length = cnt kind ∧ t.size ≤ 160 := by
  unfold rightB at h
  simp only [Bool.and_eq_true, decide_eq_true_eq] at h
  refine ⟨?_, h.2.1⟩
  have h2 := h.2.2
  unfold cnt
  by_cases k1 : kind = 1
  · rw [if_pos k1] at h2 ⊢
    simp only [Bool.and_eq_true, decide_eq_true_eq] at h2
    exact h2.1
  · rw [if_neg k1] at h2 ⊢
    by_cases k2 : kind = 2
    · rw [if_pos k2] at h2 ⊢
      unfold logB at h2
      split at h2
      · rfl
      · cases h2
    · rw [if_neg k2] at h2 ⊢
      simpa using h2
theorem rightB_one {ns : List Int} {t : ByteArray} (h : rightB 1 ns t = true) : t = ⟨#[]⟩ := by
  unfold rightB at h
  simp only [Bool.and_eq_true, decide_eq_true_eq, if_true, beq_iff_eq] at h
  exact toList_inj'.1 (by rw [h.2.2.2]; simp [toList_data])
theorem txt_some (kind : Int) (t : ByteArray) : (txt kind t).isSome = decide (kind ≠ 1) := by
  unfold txt
  by_cases k : kind = 1 <;> simp [k]
theorem txt_get {kind : Int} {ns : List Int} {t : ByteArray} (h : rightB kind ns t = true) : (txt kind t).getD ⟨#[]⟩ = t ∧ tsz (txt kind t) ≤ 160 := by
  have hs := (rightB_len h).2
  unfold txt
  by_cases k : kind = 1
  · subst k
    rw [if_pos rfl]
    exact ⟨(rightB_one h).symm, by simp [tsz, size_nil]⟩
  · rw [if_neg k]
    exact ⟨rfl, by simpa [tsz] using hs⟩
theorem cnt_le (kind : Int) : cnt kind ≤ 7 := by
  unfold cnt
  split
  · omega
  · split <;> omega
/-- What is encoded is decoded. -/
theorem doc_enc (kind : Int) (ns : List Int) (t : ByteArray) (h : rightB kind ns t = true) (hw : ∀ n ∈ kind :: ns, wf64 n) : docV (secL (recI (kind :: ns) (txt kind t))) kind = (kind, ns, t, 0) := by
  obtain ⟨hl, hs⟩ := rightB_len h
  obtain ⟨hg, ht⟩ := txt_get h
  have ho := open_enc kind ns (txt kind t) (by rw [hl]; exact cnt_le kind) ht hw
  rw [hl, txt_some, hg] at ho
  unfold docV
  rw [ho]
  simp only [h, if_true]
/-- By another kind's call it isn't. -/
theorem doc_other (kind k2 : Int) (ns : List Int) (t : ByteArray) (h : rightB kind ns t = true) (hw : ∀ n ∈ kind :: ns, wf64 n) (hk : k2 ≠ kind) : docV (secL (recI (kind :: ns) (txt kind t))) k2 = (0, [], ⟨#[]⟩, 2) := by
  obtain ⟨hl, hs⟩ := rightB_len h
  obtain ⟨hg, ht⟩ := txt_get h
  obtain ⟨h1, h2⟩ := unseal_enc kind ns (txt kind t) (by rw [hl]; exact cnt_le kind) ht hw
  have ho : openV (secL (recI (kind :: ns) (txt kind t))) k2 (cnt k2) (decide (k2 ≠ 1)) = ([], ⟨#[]⟩, 2) := by
    unfold openV
    rw [h1, if_pos rfl]
    simp only [h2]
    rw [if_pos trivial]
    unfold itemsV
    rw [if_pos]
    right; right
    have : rd_T77 (recI (kind :: ns) (txt kind t)) 0 = ⟨1, kind, ⟨#[]⟩⟩ := rfl
    rw [this]
    simp [headB, Ne.symm hk]
  unfold docV
  rw [ho]
  rfl
/-- What is decoded is encoded. -/
theorem doc_tells {b : List Int} (hb : byteL b) {kind : Int} {ns : List Int} {t : ByteArray} {k2 : Int} (h : docV b kind = (k2, ns, t, 0)) :
    k2 = kind ∧ rightB kind ns t = true ∧ b = secL (recI (kind :: ns) (txt kind t)) ∧ (∀ n ∈ kind :: ns, wf64 n) ∧ unframeL b = (sealL (encL (recI (kind :: ns) (txt kind t))), 0) ∧ unsealV (unframeL b).1 = (recI (kind :: ns) (txt kind t), 0) := by
  unfold docV at h
  split at h
  · rename_i h1
    split at h
    · rename_i h2
      simp only [Prod.mk.injEq, and_true] at h
      obtain ⟨h3, h4, h5⟩ := h
      rw [h4, h5] at h2
      have ho : openV b kind (cnt kind) (decide (kind ≠ 1)) = (ns, t, 0) := by rw [← h4, ← h5, ← h1]
      obtain ⟨g1, g2, g3, g4, g5, g6⟩ := open_tells hb ho
      have ht : (if decide (kind ≠ 1) = true then some t else none) = txt kind t := by
        unfold txt
        by_cases k : kind = 1 <;> simp [k]
      rw [ht] at g1 g2 g3
      exact ⟨h3.symm, h2, g1, g6, g2, g3⟩
    · simp at h
  · rename_i h1
    simp only [Prod.mk.injEq] at h
    exact absurd h.2.2.2 h1
theorem docV_form (b : List Int) (kind : Int) : (∃ ns t, docV b kind = (kind, ns, t, 0) ∧ rightB kind ns t = true ∧ openV b kind (cnt kind) (decide (kind ≠ 1)) = (ns, t, 0)) ∨ ∃ e, e ≠ 0 ∧ docV b kind = (0, [], ⟨#[]⟩, e) ∧ ((openV b kind (cnt kind) (decide (kind ≠ 1))).2.2 = e ∨ ((openV b kind (cnt kind) (decide (kind ≠ 1))).2.2 = 0 ∧ e = 2 ∧ rightB kind (openV b kind (cnt kind) (decide (kind ≠ 1))).1 (openV b kind (cnt kind) (decide (kind ≠ 1))).2.1 = false)) := by
  unfold docV
  by_cases h1 : (openV b kind (cnt kind) (decide (kind ≠ 1))).2.2 = 0
  · rw [if_pos h1]
    by_cases h2 : rightB kind (openV b kind (cnt kind) (decide (kind ≠ 1))).1 (openV b kind (cnt kind) (decide (kind ≠ 1))).2.1 = true
    · rw [if_pos h2]
      exact .inl ⟨_, _, rfl, h2, by rw [← h1]⟩
    · rw [if_neg h2]
      exact .inr ⟨2, by decide, rfl, .inr ⟨h1, rfl, by simpa using h2⟩⟩
  · rw [if_neg h1]
    exact .inr ⟨_, h1, rfl, .inl rfl⟩
theorem super_tells (b : List Int) (hb : byteL b) (hl : b.length ≤ 140737488351232) (k : Nat) (hk : 300000 ≤ k) :
    (∃ x y z, docV b 1 = (1, [x, y, z], ⟨#[]⟩, 0) ∧ record_DecodeSuper.f k b = some (x, y, z, 0)) ∨ (∃ e, e ≠ 0 ∧ docV b 1 = (0, [], ⟨#[]⟩, e) ∧ record_DecodeSuper.f k b = some (0, 0, 0, e)) := by
  have ho : record_open.f k b 1 3 false = some (openV b 1 (cnt 1) (decide ((1 : Int) ≠ 1))) := open_val b hb hl 1 3 (by omega) false k hk
  unfold record_DecodeSuper.f
  rw [ho, Option.bind_some]
  rcases docV_form b 1 with ⟨ns, t, h1, h2, h3⟩ | ⟨e, he, h1, h2⟩
  · have hn := (rightB_len h2).1
    have ht := rightB_one h2
    subst ht
    match ns, hn with
    | [x, y, z], _ =>
      refine .inl ⟨x, y, z, h1, ?_⟩
      rw [h3]
      have hr : natB [x, y, z] = true := by
        unfold rightB at h2
        simp only [Bool.and_eq_true] at h2
        exact h2.1
      simp only [if_true, List.length_cons, List.length_nil]
      rw [if_pos (by decide), if_pos (by decide), if_pos (by decide), superR_val _ _ _ k (by omega), Option.bind_some]
      have e1 : rd [x, y, z] 0 = x := rfl
      have e2 : rd [x, y, z] 1 = y := rfl
      have e3 : rd [x, y, z] 2 = z := rfl
      rw [e1, e2, e3, hr, if_pos rfl]
  · refine .inr ⟨e, he, h1, ?_⟩
    rcases h2 with h2 | ⟨h2, h3, h4⟩
    · rw [h2, if_neg he]
    · obtain ⟨ns, t, h5⟩ : ∃ ns t, openV b 1 (cnt 1) (decide ((1 : Int) ≠ 1)) = (ns, t, 0) := ⟨_, _, by rw [← h2]⟩
      obtain ⟨_, _, _, g4, g5, _⟩ := open_tells hb h5
      have ht := g5 (by decide)
      subst ht
      rw [h5] at h4 ⊢
      match ns, g4 with
      | [x, y, z], _ =>
        have hr : natB [x, y, z] = false := by
          cases hh : natB [x, y, z]
          · rfl
          · simp [rightB, hh, toList_data, size_nil] at h4
        simp only [if_true, List.length_cons, List.length_nil]
        rw [if_pos (by decide), if_pos (by decide), if_pos (by decide), superR_val _ _ _ k (by omega), Option.bind_some]
        have e1 : rd [x, y, z] 0 = x := rfl
        have e2 : rd [x, y, z] 1 = y := rfl
        have e3 : rd [x, y, z] 2 = z := rfl
        rw [e1, e2, e3, hr, if_neg (by decide), h3]
theorem logright (n0 n1 n2 n3 n4 n5 n6 : Int) (t : ByteArray) : rightB 2 [n0, n1, n2, n3, n4, n5, n6] t = (natB [n1, n2, n3, n4, n5, n6] && (decide (t.size ≤ 160) && logB [n0, n1, n2, n3, n4, n5, n6] t)) := by
  unfold rightB
  rw [if_neg (by decide), if_pos rfl]
  cases hl : logB [n0, n1, n2, n3, n4, n5, n6] t
  · simp
  · have h0 : 0 ≤ n0 := by
      simp only [logB, Bool.or_eq_true, Bool.and_eq_true, beq_iff_eq] at hl
      rcases hl with h | h
      · omega
      · omega
    have : natB [n0, n1, n2, n3, n4, n5, n6] = natB [n1, n2, n3, n4, n5, n6] := by
      simp [natB, h0]
    rw [this]
theorem log_tells (b : List Int) (hb : byteL b) (hl : b.length ≤ 140737488351232) (k : Nat) (hk : 300000 ≤ k) :
    (∃ n0 n1 n2 n3 n4 n5 n6 t, docV b 2 = (2, [n0, n1, n2, n3, n4, n5, n6], t, 0) ∧ record_DecodeLog.f k b = some (n0, n1, n2, n3, n4, n5, n6, t, 0)) ∨ (∃ e, e ≠ 0 ∧ docV b 2 = (0, [], ⟨#[]⟩, e) ∧ record_DecodeLog.f k b = some (0, 0, 0, 0, 0, 0, 0, ⟨#[]⟩, e)) := by
  have ho : record_open.f k b 2 7 true = some (openV b 2 (cnt 2) (decide ((2 : Int) ≠ 1))) := open_val b hb hl 2 7 (by omega) true k hk
  unfold record_DecodeLog.f
  rw [ho, Option.bind_some]
  rcases docV_form b 2 with ⟨ns, t, h1, h2, h3⟩ | ⟨e, he, h1, h2⟩
  · have hn := (rightB_len h2).1
    match ns, hn with
    | [n0, n1, n2, n3, n4, n5, n6], _ =>
      refine .inl ⟨n0, n1, n2, n3, n4, n5, n6, t, h1, ?_⟩
      rw [h3, if_pos rfl]
      show (record_Log_right.f k n0 n1 n2 n3 n4 n5 n6 t).bind _ = _
      rw [logR_val _ _ _ _ _ _ _ _ k (by omega), ← logright, h2, Option.bind_some, if_pos rfl]
  · refine .inr ⟨e, he, h1, ?_⟩
    rcases h2 with h2 | ⟨h2, h3, h4⟩
    · rw [h2, if_neg he]
    · obtain ⟨ns, t, h5⟩ : ∃ ns t, openV b 2 (cnt 2) (decide ((2 : Int) ≠ 1)) = (ns, t, 0) := ⟨_, _, by rw [← h2]⟩
      obtain ⟨_, _, _, g4, g5, _⟩ := open_tells hb h5
      rw [h5] at h4 ⊢
      match ns, g4 with
      | [n0, n1, n2, n3, n4, n5, n6], _ =>
        rw [if_pos rfl]
        show (record_Log_right.f k n0 n1 n2 n3 n4 n5 n6 t).bind _ = _
        rw [logR_val _ _ _ _ _ _ _ _ k (by omega), ← logright, h4, Option.bind_some, if_neg (by decide), h3]
theorem home_tells (b : List Int) (hb : byteL b) (hl : b.length ≤ 140737488351232) (k : Nat) (hk : 300000 ≤ k) :
    (∃ p t, docV b 3 = (3, [p], t, 0) ∧ record_DecodeHome.f k b = some (p, t, 0)) ∨ (∃ e, e ≠ 0 ∧ docV b 3 = (0, [], ⟨#[]⟩, e) ∧ record_DecodeHome.f k b = some (0, ⟨#[]⟩, e)) := by
  have ho : record_open.f k b 3 1 true = some (openV b 3 (cnt 3) (decide ((3 : Int) ≠ 1))) := open_val b hb hl 3 1 (by omega) true k hk
  have hr : ∀ p t, rightB 3 [p] t = (decide (0 ≤ p) && decide (t.size ≤ 160)) := fun p t => by simp [rightB, natB]
  unfold record_DecodeHome.f
  rw [ho, Option.bind_some]
  rcases docV_form b 3 with ⟨ns, t, h1, h2, h3⟩ | ⟨e, he, h1, h2⟩
  · have hn := (rightB_len h2).1
    match ns, hn with
    | [p], _ =>
      refine .inl ⟨p, t, h1, ?_⟩
      rw [h3, if_pos rfl, if_pos (by simp)]
      have e1 : rd [p] 0 = p := rfl
      simp only [e1]
      rw [homeR_val, ← hr, h2, Option.bind_some, if_pos rfl]
  · refine .inr ⟨e, he, h1, ?_⟩
    rcases h2 with h2 | ⟨h2, h3, h4⟩
    · rw [h2, if_neg he]
    · obtain ⟨ns, t, h5⟩ : ∃ ns t, openV b 3 (cnt 3) (decide ((3 : Int) ≠ 1)) = (ns, t, 0) := ⟨_, _, by rw [← h2]⟩
      obtain ⟨_, _, _, g4, g5, _⟩ := open_tells hb h5
      rw [h5] at h4 ⊢
      match ns, g4 with
      | [p], _ =>
        rw [if_pos rfl, if_pos (by simp)]
        have e1 : rd [p] 0 = p := rfl
        simp only [e1]
        rw [homeR_val, ← hr, h4, Option.bind_some, if_neg (by decide), h3]
theorem known_val (k : Nat) (hk : 300000 ≤ k) : cisternlaw07_known.f k = some true := by
  have hr : rightB 1 [3, 2, 7] ⟨#[]⟩ = true := by simp [rightB, natB, toList_data, size_nil]
  have hw : ∀ n ∈ (1 : Int) :: [3, 2, 7], wf64 n := by intro n hn; simp at hn; unfold wf64; omega
  have he := encodeSuper_val 3 2 7 k (by omega)
  have hv : encV 1 [3, 2, 7] ⟨#[]⟩ = (secL (recI (1 :: [3, 2, 7]) (txt 1 ⟨#[]⟩)), 0) := by unfold encV; rw [if_pos hr]
  obtain ⟨b, hbe⟩ : ∃ b, b = secL (recI (1 :: [3, 2, 7]) (txt 1 ⟨#[]⟩)) := ⟨_, rfl⟩
  have hsm := small_enc 1 [3, 2, 7] (txt 1 ⟨#[]⟩) (by simp) (txt_get hr).2
  have hb : byteL b := by rw [hbe]; exact secL_byteL _ hsm
  have hl : b.length = 256 := by rw [hbe]; exact secL_length _ hsm
  have hd : docV b 1 = (1, [3, 2, 7], ⟨#[]⟩, 0) := by rw [hbe]; exact doc_enc 1 _ _ hr hw
  rw [hv, ← hbe] at he
  unfold cisternlaw07_known.f
  rw [he, Option.bind_some]
  rcases super_tells b hb (by omega) k hk with ⟨x, y, z, h1, h2⟩ | ⟨e, h0, h1, _⟩
  · rw [hd] at h1
    simp only [Prod.mk.injEq, List.cons.injEq, and_true, true_and] at h1
    obtain ⟨rfl, rfl, rfl⟩ := h1
    rw [h2, Option.bind_some, if_pos rfl, if_pos rfl, if_pos (by rw [hl]; rfl)]
    rfl
  · rw [hd] at h1
    simp at h1
end
end Go.Proofs.YtmkkeccmjejfnaaDoor.PA
namespace Go.Proofs.YtmkkeccmjejfnaaDoor.PA
section

open Go.RowKit Go.Proofs.YtmkkeccmjejfnaaDoorW.PrintWords Go.Proofs.YtmkkeccmjejfnaaDoorW.PrintLast Go.Proofs.YtmkkeccmjejfnaaDoorW.PrintMore
set_option linter.unusedVariables false
set_option linter.unusedSimpArgs false
theorem refright_tells (kind : Int) (ns : List Int) (t : ByteArray) (h0 : 1 ≤ kind) (h3 : kind ≤ 3) (hlen : ns.length = cnt kind) (hs : t.size ≤ 160) : ∀ (d k i : Nat), i + d = ns.length → d < k →
    cisternref07_Right.l0 k (i : Int) kind ns t = some (natB (ns.drop i) && (if kind = 1 then t.toList == ([] : List UInt8) else if kind = 2 then logB ns t else true)) := by
  have hc := cnt_le kind
  intro d
  induction d with
  | zero =>
    intro k i hi hk
    obtain ⟨k, rfl⟩ : ∃ m, k = m + 1 := ⟨k - 1, by omega⟩
    simp only [cisternref07_Right.l0]
    rw [if_neg (by omega), List.drop_eq_nil_of_le (by omega), show natB [] = true from rfl, Bool.true_and]
    by_cases k1 : kind = 1
    · rw [if_pos k1, if_pos k1]
    · rw [if_neg k1, if_neg k1]
      by_cases k2 : kind = 2
      · rw [if_pos k2, if_pos k2]
        have hl7 : ns.length = 7 := by rw [hlen, k2]; rfl
        match ns, hl7 with
        | [n0, n1, n2, n3, n4, n5, n6], _ =>
          have e0 : rd [n0, n1, n2, n3, n4, n5, n6] 0 = n0 := rfl
          have e6 : rd [n0, n1, n2, n3, n4, n5, n6] 6 = n6 := rfl
          rw [e0, e6, if_pos (by simp)]
          by_cases g1 : n0 = 1
          · rw [if_pos g1]
            simp [logB, g1]
          · rw [if_neg g1]
            by_cases g2 : n0 = 2
            · rw [if_pos g2, if_pos (by simp)]
              by_cases g3 : n6 = 0
              · rw [if_pos g3]
                simp [logB, g2, g3]
              · rw [if_neg g3]
                simp [logB, g2, g3]
            · rw [if_neg g2]
              simp [logB, g1, g2]
      · rw [if_neg k2, if_neg k2]
  | succ d ih =>
    intro k i hi hk
    obtain ⟨k, rfl⟩ : ∃ m, k = m + 1 := ⟨k - 1, by omega⟩
    have hil : i < ns.length := by omega
    have e : natB (ns.drop i) = (decide (0 ≤ ns[i]) && natB (ns.drop (i + 1))) := by rw [List.drop_eq_getElem_cons hil]; rfl
    simp only [cisternref07_Right.l0]
    rw [if_pos (by omega), if_pos (by omega), rd_get ns i hil]
    by_cases h : ns[i] < 0
    · rw [if_pos h, e, decide_eq_false (by omega)]
      simp
    · rw [if_neg h, wsuc i (by omega), ih k (i + 1) (by omega) (by omega), e, decide_eq_true (by omega), Bool.true_and]
def refRightB (kind : Int) (ns : List Int) (t : ByteArray) : Bool := decide (1 ≤ kind ∧ kind ≤ 3) && rightB kind ns t
theorem count_val (kind : Int) (h0 : 1 ≤ kind) (h3 : kind ≤ 3) : cisternref07_count.f kind = some (cnt kind : Int) := by
  have : kind = 1 ∨ kind = 2 ∨ kind = 3 := by omega
  rcases this with rfl | rfl | rfl <;> rfl
theorem refright_val (kind : Int) (ns : List Int) (t : ByteArray) (k : Nat) (hk : 20 ≤ k) : cisternref07_Right.f k kind ns t = some (refRightB kind ns t) := by
  obtain ⟨k, rfl⟩ : ∃ m, k = m + 1 := ⟨k - 1, by omega⟩
  unfold cisternref07_Right.f refRightB
  by_cases h0 : kind < 1
  · rw [if_pos h0, decide_eq_false (by omega)]
    simp [cisternref07_Right.j0]
  · rw [if_neg h0]
    by_cases h3 : kind > 3
    · rw [if_pos h3, decide_eq_false (by omega)]
      simp [cisternref07_Right.j0]
    · rw [if_neg h3, count_val kind (by omega) (by omega), Option.bind_some, show decide (1 ≤ kind ∧ kind ≤ 3) = true from decide_eq_true ⟨by omega, by omega⟩, Bool.true_and]
      by_cases hl : ns.length = cnt kind
      · rw [if_pos (by omega)]
        simp only [cisternref07_Right.j0]
        by_cases hs : 160 < t.size
        · rw [decide_eq_true (show (t.size : Int) > 160 by omega), if_pos rfl]
          simp [rightB, show ¬ t.size ≤ 160 by omega]
        · rw [decide_eq_false (show ¬ (t.size : Int) > 160 by omega), if_neg (by decide), show (0 : Int) = ((0 : Nat) : Int) from rfl, refright_tells kind ns t (by omega) (by omega) hl (by omega) ns.length k 0 (by omega) (by have := cnt_le kind; omega)]
          rw [List.drop_zero]
          unfold rightB
          rw [decide_eq_true (show t.size ≤ 160 by omega), Bool.true_and]
          congr 2
          by_cases k1 : kind = 1
          · rw [if_pos k1, if_pos k1, decide_eq_true (by rw [hl, k1]; rfl), Bool.true_and]
          · rw [if_neg k1, if_neg k1]
            by_cases k2 : kind = 2
            · rw [if_pos k2, if_pos k2]
            · rw [if_neg k2, if_neg k2]
              symm
              exact decide_eq_true (by rw [hl]; unfold cnt; rw [if_neg k1, if_neg k2])
      · rw [if_neg (by omega)]
        simp only [cisternref07_Right.j0]
        rw [if_pos trivial]
        cases hh : rightB kind ns t
        · rfl
        · exact absurd (rightB_len hh).1 hl
theorem refencode_sec (l : List S77) (hc : pack_checkV l = 0) (h : (encL l).length ≤ 250) (k : Nat) (hk : 5000 ≤ k) :
    ((cisternref03_Encode.f l).bind fun t247 => ((cisternref03_Seal.f k t247).bind fun t248 => ((cisternref03_DocFrame.f t248 256).bind fun bt249 => (some bt249.1)))) = some (strOfNums (secL l)) := by
  have hb := encL_byteL l
  have e0 : cisternref03_Encode.f l = some (strOfNums (encL l)) := by unfold cisternref03_Encode.f; rw [if_pos (check_ok hc).1]
  rw [e0, Option.bind_some, refseal_val _ (by rw [size_strOfNums]; omega) k (by rw [size_strOfNums]; omega), bytesOf_strOfNums _ hb, Option.bind_some]
  have e3 : cisternref03_DocFrame.f (strOfNums (sealL (encL l))) 256 = some (strOfNums (secL l), 0) := by
    unfold cisternref03_DocFrame.f frameV
    rw [bytesOf_strOfNums _ (sealL_byteL hb), size_strOfNums, sealL_length, if_pos (by omega), if_neg (by omega), if_neg (by omega)]
    rfl
  rw [e3]
  rfl
theorem refenc_tells (kind : Int) (ns : List Int) (t : ByteArray) (hn : ns.length ≤ 7) (hs : tsz (txt kind t) ≤ 160) : ∀ (d k i : Nat), i + d = ns.length → d + 5000 < k →
    cisternref07_Encode.l0 k (numI (kind :: ns.take i)) (i : Int) kind ns t = some (strOfNums (secL (recI (kind :: ns) (txt kind t)))) := by
  have hsm := small_enc kind ns (txt kind t) hn hs
  have hck := recI_check (kind :: ns) (txt kind t) (by simp; omega) hs
  intro d
  induction d with
  | zero =>
    intro k i hi hk
    obtain ⟨k, rfl⟩ : ∃ m, k = m + 1 := ⟨k - 1, by omega⟩
    simp only [cisternref07_Encode.l0]
    rw [if_neg (by omega), List.take_of_length_le (by omega)]
    simp only [cisternref07_texted.f]
    rw [Option.bind_some]
    by_cases k1 : kind = 1
    · rw [if_neg (by simp [k1])]
      have e : numI (kind :: ns) = recI (kind :: ns) (txt kind t) := by simp [recI, txt, k1, textI]
      rw [e]
      exact refencode_sec _ hck hsm k (by omega)
    · rw [if_pos (by simp [k1]), if_pos (by simp [numI]; omega)]
      have e : numI (kind :: ns) ++ [⟨2, 0, t⟩] = recI (kind :: ns) (txt kind t) := by simp [recI, txt, k1, textI]
      rw [e]
      exact refencode_sec _ hck hsm k (by omega)
  | succ d ih =>
    intro k i hi hk
    obtain ⟨k, rfl⟩ : ∃ m, k = m + 1 := ⟨k - 1, by omega⟩
    have hil : i < ns.length := by omega
    simp only [cisternref07_Encode.l0]
    rw [if_pos (by omega), if_pos (by omega), if_pos (by simp [numI]; omega), wsuc i (by omega), rd_get ns i hil]
    have e : numI (kind :: ns.take i) ++ [⟨1, ns[i], ⟨#[]⟩⟩] = numI (kind :: ns.take (i + 1)) := by
      rw [List.take_succ_eq_append_getElem hil]
      simp only [numI, List.map_append, List.map_cons, List.map_nil, List.cons_append]
    rw [e]
    exact ih k (i + 1) (by omega) (by omega)
theorem refenc_val (kind : Int) (ns : List Int) (t : ByteArray) (h : rightB kind ns t = true) (k : Nat) (hk : 6000 ≤ k) : cisternref07_Encode.f k kind ns t = some (strOfNums (secL (recI (kind :: ns) (txt kind t)))) := by
  have hl := (rightB_len h).1
  have hc := cnt_le kind
  exact refenc_tells kind ns t (by omega) (txt_get h).2 ns.length k 0 (by omega) (by omega)
theorem docencode_val (kind : Int) (ns : List Int) (t : ByteArray) (h0 : 1 ≤ kind) (h3 : kind ≤ 3) (k : Nat) (hk : 6000 ≤ k) : cisternref07_DocEncode.f k kind ns t = some (strOfNums (encV kind ns t).1, (encV kind ns t).2) := by
  unfold cisternref07_DocEncode.f encV
  rw [refright_val kind ns t k (by omega), Option.bind_some]
  have : refRightB kind ns t = rightB kind ns t := by unfold refRightB; rw [decide_eq_true ⟨h0, h3⟩, Bool.true_and]
  rw [this]
  cases hr : rightB kind ns t
  · rfl
  · rw [if_pos rfl, refenc_val kind ns t hr k hk]
    rfl
theorem rd77_get (l : List S77) (i : Nat) (h : i < l.length) : rd_T77 l (i : Int) = l[i] := by
  unfold rd_T77; rw [Int.toNat_natCast, List.getD_eq_getElem?_getD, List.getElem?_eq_getElem h]; rfl
theorem decF_le (c : List Int) (hc : byteL c) : (decF c).1.length ≤ 4000 := by
  rcases decF_tells c hc with h | ⟨m, h, _, h2, _⟩
  · rw [h]; simp
  · rw [h]; exact ((checkV_iff m).1 h2).1
theorem unsealV_le (u : List Int) (hb : byteL u) : (unsealV u).1.length ≤ 4000 := by
  unfold unsealV
  split
  · exact decF_le _ (openL_byteL hb)
  · simp
end
end Go.Proofs.YtmkkeccmjejfnaaDoor.PA
namespace Go.Proofs.YtmkkeccmjejfnaaDoor.PA
section

open Go.RowKit Go.Proofs.YtmkkeccmjejfnaaDoorW.PrintWords Go.Proofs.YtmkkeccmjejfnaaDoorW.PrintLast Go.Proofs.YtmkkeccmjejfnaaDoorW.PrintMore
set_option linter.unusedVariables false
set_option linter.unusedSimpArgs false
theorem unsealV_wf {u : List Int} (hb : byteL u) : ∀ x ∈ (unsealV u).1, wfI x := by
  intro x hx
  unfold unsealV at hx
  split at hx
  · rcases decF_tells _ (openL_byteL hb) with h | ⟨m, h, _, _, h3⟩
    · rw [h] at hx; cases hx
    · rw [h] at hx; exact h3 x hx
  · cases hx
end
end Go.Proofs.YtmkkeccmjejfnaaDoor.PA
namespace Go.Proofs.YtmkkeccmjejfnaaDoor.PA
section

open Go.RowKit Go.Proofs.YtmkkeccmjejfnaaDoorW.PrintWords Go.Proofs.YtmkkeccmjejfnaaDoorW.PrintLast Go.Proofs.YtmkkeccmjejfnaaDoorW.PrintMore
set_option linter.unusedVariables false
set_option linter.unusedSimpArgs false
theorem rd65_get (l : List S65) (i : Nat) (h : i < l.length) : rd_T65 l (i : Int) = l[i] := by
  unfold rd_T65; rw [Int.toNat_natCast, List.getD_eq_getElem?_getD, List.getElem?_eq_getElem h]; rfl
theorem wpre (i : Nat) (h : i + 1 ≤ 9223372036854775807) : wrap64 (((i + 1 : Nat) : Int) - 1) = (i : Int) := by unfold wrap64; omega
def pairsI : List S65 → List S77
  | [] => []
  | p :: l => ⟨2, 0, p.f0⟩ :: ⟨2, 0, p.f1⟩ :: pairsI l
theorem pairsI_len : ∀ l : List S65, (pairsI l).length = 2 * l.length
  | [] => rfl
  | p :: l => by simp only [pairsI, List.length_cons, pairsI_len l]; omega
theorem pairsI_append : ∀ l m : List S65, pairsI (l ++ m) = pairsI l ++ pairsI m
  | [], m => rfl
  | p :: l, m => by simp only [List.cons_append, pairsI, pairsI_append l m]
def sizeS : List S65 → Int → Int
  | [], s => s
  | p :: l, s => if s > 60000 then s else sizeS l (wrap64 (s + 6 + p.f0.size + p.f1.size))
def pairB : Option S65 → S65 → Bool
  | none, p => !(p.f0.toList == []) && (decide (p.f0.size ≤ 32) && decide (p.f1.size ≤ 48))
  | some q, p => !(p.f0.toList == []) && (decide (p.f0.size ≤ 32) && (decide (p.f1.size ≤ 48) && Op.bytesLess q.f0.toList p.f0.toList))
def fitL : Option S65 → List S65 → Bool
  | _, [] => true
  | q, p :: l => pairB q p && fitL (some p) l
def prevS (l : List S65) : Nat → Option S65
  | 0 => none
  | i + 1 => l[i]?
theorem wr3' (a b c : Int) : wrap64 (a + wrap64 (wrap64 (6 + b) + c)) = wrap64 (a + 6 + b + c) := by unfold wrap64; omega
theorem fit_step (l : List S65) (i : Nat) (h : i < l.length) : fitL (prevS l i) (l.drop i) = (pairB (prevS l i) l[i] && fitL (prevS l (i + 1)) (l.drop (i + 1))) := by
  rw [List.drop_eq_getElem_cons h]
  simp only [fitL, prevS, List.getElem?_eq_getElem h]
theorem recfit_tells (l : List S65) (hl : l.length ≤ 140737488351232) : ∀ (d k i : Nat), i + d = l.length → d < k → record_fit.l0 k l l (l.length : Int) (i : Int) = some (fitL (prevS l i) (l.drop i)) := by
  intro d
  induction d with
  | zero =>
    intro k i hi hk
    obtain ⟨k, rfl⟩ : ∃ m, k = m + 1 := ⟨k - 1, by omega⟩
    simp only [record_fit.l0]
    rw [if_neg (by omega), List.drop_of_length_le (by omega)]
    cases prevS l i <;> rfl
  | succ d ih =>
    intro k i hi hk
    obtain ⟨k, rfl⟩ : ∃ m, k = m + 1 := ⟨k - 1, by omega⟩
    have hil : i < l.length := by omega
    have IH := ih k (i + 1) (by omega) (by omega)
    simp only [record_fit.l0]
    rw [if_pos (by omega), if_pos (by omega), if_pos (by omega), wsuc i (by omega), rd65_get l i hil, IH, fit_step l i hil]
    by_cases h1 : l[i].f0.toList = []
    · rw [if_pos h1]; cases prevS l i <;> simp [pairB, h1]
    · rw [if_neg h1]
      have b1 : (l[i].f0.toList == []) = false := by simpa using h1
      by_cases h2 : l[i].f0.size ≤ 32
      · rw [if_neg (by omega)]
        by_cases h3 : l[i].f1.size ≤ 48
        · rw [if_neg (by omega)]
          cases i with
          | zero => rw [if_neg (by simp)]; simp [pairB, prevS, b1, h2, h3]
          | succ j =>
            rw [if_pos (by omega), wpre j (by omega), if_pos (by omega), if_pos (by omega), rd65_get l j (by omega)]
            simp only [prevS, List.getElem?_eq_getElem (show j < l.length by omega), pairB, b1, h2, h3, Bool.not_false, decide_true, Bool.true_and]
            cases Op.bytesLess l[j].f0.toList l[j + 1].f0.toList <;> simp
        · rw [if_pos (by omega)]; cases prevS l i <;> simp [pairB, h3]
      · rw [if_pos (by omega)]; cases prevS l i <;> simp [pairB, h2]
theorem recfit_val (l : List S65) (hl : l.length ≤ 140737488351232) (k : Nat) (hk : l.length < k) : record_fit.f k l = some (fitL none l) :=
  recfit_tells l hl l.length k 0 (by omega) hk
theorem fitL_each : ∀ (l : List S65) (q : Option S65), fitL q l = true → ∀ p ∈ l, p.f0.size ≤ 32 ∧ p.f1.size ≤ 48
  | [], _, _, _, h => by cases h
  | p :: l, q, h, x, hx => by
    simp only [fitL, Bool.and_eq_true] at h
    rcases List.mem_cons.1 hx with rfl | hx
    · have := h.1
      cases q <;> simp [pairB] at this <;> omega
    · exact fitL_each l (some p) h.2 x hx
def itemsP (n : Int) (l : List S65) : List S77 := numI [4, n] ++ pairsI l
theorem itemsP_len (n : Int) (l : List S65) : (itemsP n l).length = 2 + 2 * l.length := by
  unfold itemsP; rw [List.length_append, pairsI_len]; rfl
theorem itemsP_mem {n : Int} {l : List S65} {x : S77} (h : x ∈ itemsP n l) : x = ⟨1, 4, ⟨#[]⟩⟩ ∨ x = ⟨1, n, ⟨#[]⟩⟩ ∨ ∃ p ∈ l, x = ⟨2, 0, p.f0⟩ ∨ x = ⟨2, 0, p.f1⟩ := by
  have hp : ∀ (l : List S65), x ∈ pairsI l → ∃ p ∈ l, x = ⟨2, 0, p.f0⟩ ∨ x = ⟨2, 0, p.f1⟩ := by
    intro l
    induction l with
    | nil => intro h; cases h
    | cons p l ih =>
      intro h
      rcases List.mem_cons.1 h with h | h
      · exact ⟨p, List.mem_cons_self, Or.inl h⟩
      rcases List.mem_cons.1 h with h | h
      · exact ⟨p, List.mem_cons_self, Or.inr h⟩
      obtain ⟨q, hq, e⟩ := ih h
      exact ⟨q, List.mem_cons_of_mem _ hq, e⟩
  rcases List.mem_append.1 h with h | h
  · simp only [numI, List.map_cons, List.map_nil, List.mem_cons, List.not_mem_nil, or_false] at h
    rcases h with h | h
    · exact Or.inl h
    · exact Or.inr (Or.inl h)
  · exact Or.inr (Or.inr (hp l h))
theorem itemsP_check (n : Int) (l : List S65) (hl : l.length ≤ 1900) (hf : fitL none l = true) : pack_checkV (itemsP n l) = 0 := by
  refine (checkV_iff _).2 ⟨by rw [itemsP_len]; omega, fun x hx => ?_⟩
  rcases itemsP_mem hx with rfl | rfl | ⟨p, hp, rfl | rfl⟩
  · exact ⟨by simp [okB, toList_data], by simp [longB]⟩
  · exact ⟨by simp [okB, toList_data], by simp [longB]⟩
  · have := fitL_each l none hf p hp
    exact ⟨by simp [okB], by simp [longB]; omega⟩
  · have := fitL_each l none hf p hp
    exact ⟨by simp [okB], by simp [longB]; omega⟩
theorem itemsP_enc (n : Int) (l : List S65) (hf : fitL none l = true) : (encL (itemsP n l)).length ≤ 18 + 86 * l.length := by
  have hp : ∀ (l : List S65), (∀ p ∈ l, p.f0.size ≤ 32 ∧ p.f1.size ≤ 48) → (encL (pairsI l)).length ≤ 86 * l.length := by
    intro l
    induction l with
    | nil => intro _; simp [pairsI, encL]
    | cons p l ih =>
      intro h
      have h1 := h p List.mem_cons_self
      have h2 := ih (fun q hq => h q (List.mem_cons_of_mem _ hq))
      simp only [pairsI, encL_cons, List.length_append, List.length_cons]
      have e1 : (encI (⟨2, 0, p.f0⟩ : S77)).length = 3 + p.f0.size := by simp [encI, leB_length, bytesOf_length]; omega
      have e2 : (encI (⟨2, 0, p.f1⟩ : S77)).length = 3 + p.f1.size := by simp [encI, leB_length, bytesOf_length]; omega
      omega
  have h3 := hp l (fitL_each l none hf)
  unfold itemsP
  rw [encL_append, List.length_append]
  have : (encL (numI [4, n])).length = 18 := by simp [numI, encL_cons, encI_num, encL]
  omega
def blobL (n : Int) (l : List S65) : List Int := sealL (encL (itemsP n l))
def encT (n : Int) (l : List S65) (s : Int) : List Int × Int := if l.length > 1900 ∨ s > 60000 then ([], 14) else if n < 0 ∨ fitL none l = false then ([], 2) else (blobL n l, 0)
def encPV (n : Int) (l : List S65) : List Int × Int := encT n l (sizeS l 22)
theorem recitems_tells (n : Int) (l : List S65) (hl : l.length ≤ 1900) (hf : fitL none l = true) : ∀ (d k i : Nat), i + d = l.length → d + 3000000 < k → record_EncodePairs.l1 k (itemsP n (l.take i)) l (l.length : Int) (i : Int) = some (blobL n l, 0) := by
  have hck := itemsP_check n l hl hf
  have hen := itemsP_enc n l hf
  intro d
  induction d with
  | zero =>
    intro k i hi hk
    obtain ⟨k, rfl⟩ : ∃ m, k = m + 1 := ⟨k - 1, by omega⟩
    simp only [record_EncodePairs.l1]
    have e1 : pack_Encode.f (itemsP n l) = some (encL (itemsP n l), 0) := by rw [encode_some, if_pos hck, hck]
    rw [if_neg (by omega), List.take_of_length_le (by omega), e1, Option.bind_some, if_pos rfl, sealK _ (encL_byteL _) (by omega) k (by omega)]
    rfl
  | succ d ih =>
    intro k i hi hk
    obtain ⟨k, rfl⟩ : ∃ m, k = m + 1 := ⟨k - 1, by omega⟩
    have hil : i < l.length := by omega
    simp only [record_EncodePairs.l1, record_text.f]
    rw [if_pos (by omega), if_pos (by omega), if_pos (by omega), Option.bind_some, Option.bind_some, Option.bind_some]
    rw [if_pos (by rw [itemsP_len, List.length_take]; simp; omega), wsuc i (by omega), rd65_get l i hil]
    have e : itemsP n (l.take i) ++ [⟨2, 0, l[i].f0⟩, ⟨2, 0, l[i].f1⟩] = itemsP n (l.take (i + 1)) := by
      rw [List.take_succ_eq_append_getElem hil, itemsP, itemsP, pairsI_append, List.append_assoc]
      rfl
    rw [e]
    exact ih k (i + 1) (by omega) (by omega)
theorem recj2_val (n : Int) (l : List S65) (hl : l.length ≤ 140737488351232) (big : Bool) (hb : big = true ∨ l.length ≤ 1900) (k : Nat) (hk : l.length + 3100000 ≤ k) :
    record_EncodePairs.j2 k n l big = some (if big = true then ([], 14) else if n < 0 ∨ fitL none l = false then ([], 2) else (blobL n l, 0)) := by
  obtain ⟨k, rfl⟩ : ∃ m, k = m + 1 := ⟨k - 1, by omega⟩
  simp only [record_EncodePairs.j2]
  by_cases h1 : big = true
  · rw [if_pos h1, if_pos h1]
  rw [if_neg h1, if_neg h1]
  have hl2 := hb.resolve_left h1
  by_cases h2 : n < 0
  · rw [if_pos h2, if_pos (Or.inl h2)]
  rw [if_neg h2, recfit_val l hl k (by omega), Option.bind_some]
  cases hf : fitL none l with
  | false => rw [if_neg (by simp), if_pos (Or.inr rfl)]
  | true =>
    rw [if_pos rfl, if_neg (by simp; omega), numbers_val [4, n] (by simp) k (by simp; omega), Option.bind_some]
    have := recitems_tells n l hl2 hf l.length k 0 (by omega) (by omega)
    rw [List.take_zero] at this
    exact this
theorem recj1_val (n : Int) (l : List S65) (hl : l.length ≤ 140737488351232) (s : Int) (k : Nat) (hk : l.length + 3100001 ≤ k) :
    record_EncodePairs.j1 k n l s = some (encT n l s) := by
  obtain ⟨k, rfl⟩ : ∃ m, k = m + 1 := ⟨k - 1, by omega⟩
  simp only [record_EncodePairs.j1]
  unfold encT
  by_cases h1 : l.length > 1900
  · rw [if_pos (by omega), recj2_val n l hl true (Or.inl rfl) k (by omega), if_pos rfl, if_pos (Or.inl h1)]
  rw [if_neg (by omega), recj2_val n l hl _ (Or.inr (by omega)) k (by omega)]
  by_cases h2 : s > 60000
  · rw [if_pos (by simpa using h2), if_pos (Or.inr h2)]
  · rw [if_neg (by simpa using h2), if_neg (show ¬ (l.length > 1900 ∨ s > 60000) by omega)]
theorem recsize_tells (n : Int) (l : List S65) (hl : l.length ≤ 140737488351232) : ∀ (d k i : Nat) (s : Int), i + d = l.length → d + l.length + 3100002 ≤ k →
    record_EncodePairs.l0 k n l s l (l.length : Int) (i : Int) = some (encT n l (sizeS (l.drop i) s)) := by
  intro d
  induction d with
  | zero =>
    intro k i s hi hk
    obtain ⟨k, rfl⟩ : ∃ m, k = m + 1 := ⟨k - 1, by omega⟩
    simp only [record_EncodePairs.l0]
    rw [if_neg (by omega), List.drop_of_length_le (by omega)]
    exact recj1_val n l hl s k (by omega)
  | succ d ih =>
    intro k i s hi hk
    obtain ⟨k, rfl⟩ : ∃ m, k = m + 1 := ⟨k - 1, by omega⟩
    have hil : i < l.length := by omega
    simp only [record_EncodePairs.l0]
    rw [if_pos (by omega), if_pos (by omega), if_pos (by omega), List.drop_eq_getElem_cons hil]
    simp only [sizeS]
    by_cases hs : s > 60000
    · rw [if_pos hs, if_pos hs]
      exact recj1_val n l hl s k (by omega)
    · rw [if_neg hs, if_neg hs, wsuc i (by omega), rd65_get l i hil, wr3']
      exact ih k (i + 1) _ (by omega) (by omega)
theorem encodepairs_val (n : Int) (l : List S65) (hl : l.length ≤ 140737488351232) (k : Nat) (hk : 2 * l.length + 3200000 ≤ k) : record_EncodePairs.f k n l = some (encPV n l) :=
  recsize_tells n l hl l.length k 0 22 (by omega) (by omega)
end
end Go.Proofs.YtmkkeccmjejfnaaDoor.PA
namespace Go.Proofs.YtmkkeccmjejfnaaDoor.PA
section

open Go.RowKit Go.Proofs.YtmkkeccmjejfnaaDoorW.PrintWords Go.Proofs.YtmkkeccmjejfnaaDoorW.PrintLast Go.Proofs.YtmkkeccmjejfnaaDoorW.PrintMore
set_option linter.unusedVariables false
set_option linter.unusedSimpArgs false
theorem itemsP_wf (n : Int) (l : List S65) (hn : wf64 n) : ∀ x ∈ itemsP n l, wfI x := by
  intro x hx
  rcases itemsP_mem hx with rfl | rfl | ⟨p, _, rfl | rfl⟩
  · exact (by decide : (Lit.int .i64 4).wf = true)
  · exact wf64_iff.2 hn
  · exact (by decide : (Lit.int .i64 0).wf = true)
  · exact (by decide : (Lit.int .i64 0).wf = true)
theorem unseal_blob (n : Int) (l : List S65) (hl : l.length ≤ 1900) (hf : fitL none l = true) (hn : wf64 n) : unsealV (blobL n l) = (itemsP n l, 0) := by
  unfold unsealV blobL
  rw [openL_seal _ (encL_byteL _), if_pos rfl]
  exact decF_enc _ (itemsP_check n l hl hf) (itemsP_wf n l hn)
theorem blobL_byteL (n : Int) (l : List S65) : byteL (blobL n l) := sealL_byteL (encL_byteL _)
theorem blobL_len (n : Int) (l : List S65) (hl : l.length ≤ 1900) (hf : fitL none l = true) : (blobL n l).length ≤ 200000 := by
  have := itemsP_enc n l hf
  unfold blobL; rw [sealL_length]; omega
def pairUp : List S77 → List S65
  | a :: b :: r => ⟨a.f2, b.f2⟩ :: pairUp r
  | _ => []
theorem pairUp_pairsI : ∀ l : List S65, pairUp (pairsI l) = l
  | [] => rfl
  | p :: l => by simp only [pairsI, pairUp, pairUp_pairsI l]
def endP (b : List Int) (n : Int) (out : List S65) : Int × List S65 × Int :=
  if (encPV n out).2 = 0 ∧ (encPV n out).1 = b then (n, out, 0) else (0, [], 2)
theorem encPV_byteL (n : Int) (l : List S65) : byteL (encPV n l).1 := by
  unfold encPV encT
  split
  · intro x hx; cases hx
  · split
    · intro x hx; cases hx
    · exact blobL_byteL n l
theorem encPV_ok {n : Int} {l : List S65} (h : (encPV n l).2 = 0) : l.length ≤ 1900 ∧ 0 ≤ n ∧ fitL none l = true ∧ (encPV n l).1 = blobL n l := by
  unfold encPV encT at h ⊢
  split at h
  · simp at h
  · rename_i h1
    split at h
    · simp at h
    · rename_i h2
      rw [if_neg h1, if_neg h2]
      refine ⟨by omega, by omega, ?_, rfl⟩
      cases hf : fitL none l
      · exact absurd (Or.inr hf) h2
      · rfl
theorem recend_val (b : List Int) (hb : byteL b) (n : Int) (out : List S65) (ho : out.length ≤ 4000) (k : Nat) (hk : 4000000 ≤ k) :
    ((record_EncodePairs.f k n out).bind fun bt445 => (if bt445.2 = 0 then ((bytes_Equal.f bt445.1 b).bind fun t449 => (if t449 = true then (some (n, out, (0 : Int))) else (some ((0 : Int), ([] : List (S65)), (2 : Int))))) else (some (0, ([] : List (S65)), 2)))) = some (endP b n out) := by
  rw [encodepairs_val n out (by omega) k (by omega), Option.bind_some]
  unfold endP bytes_Equal.f
  by_cases h1 : (encPV n out).2 = 0
  · rw [if_pos h1, Option.bind_some]
    by_cases h2 : (encPV n out).1 = b
    · rw [if_pos (by rw [h2]; simp), if_pos ⟨h1, h2⟩]
    · rw [if_neg (fun h => h2 (strOfNums_inj (encPV_byteL n out) hb (toList_inj'.1 (by simpa using h)))), if_neg (fun h => h2 h.2)]
  · rw [if_neg h1, if_neg (fun h => h1 h.1)]
theorem drop_two {α : Type} (l : List α) (i : Nat) (h : i + 1 < l.length) : l.drop i = l[i] :: l[i + 1] :: l.drop (i + 2) := by
  rw [List.drop_eq_getElem_cons (by omega), List.drop_eq_getElem_cons (show i + 1 < l.length by omega)]
theorem wsuc2 (i : Nat) (h : i ≤ 9223372036854775800) : wrap64 ((i : Int) + 2) = ((i + 2 : Nat) : Int) := by unfold wrap64; omega
def valP (b : List Int) (its : List S77) (out : List S65) : Int × List S65 × Int := if its.length < 2 then (0, [], 2) else endP b ((its.getD 1 ⟨0, 0, ⟨#[]⟩⟩).f1) out
def textsB (l : List S77) : Bool := l.all (fun x => x.f0 == 2)
def valT (b : List Int) (its l : List S77) (out : List S65) : Int × List S65 × Int := if textsB l = true then valP b its (out ++ pairUp l) else (0, [], 2)
theorem valT_nil (b : List Int) (its : List S77) (out : List S65) : valT b its [] out = valP b its out := by simp [valT, textsB, pairUp]
theorem texts_cons (x y : S77) (r : List S77) : textsB (x :: y :: r) = (x.f0 == 2 && (y.f0 == 2 && textsB r)) := rfl
theorem valT_cons (b : List Int) (its : List S77) (x y : S77) (r : List S77) (out : List S65) : valT b its (x :: y :: r) out = if x.f0 = 2 ∧ y.f0 = 2 then valT b its r (out ++ [⟨x.f2, y.f2⟩]) else (0, [], 2) := by
  unfold valT
  rw [texts_cons]
  by_cases h1 : x.f0 = 2
  · by_cases h2 : y.f0 = 2
    · simp only [h1, h2, beq_self_eq_true, Bool.true_and, and_self, if_true, pairUp, List.append_assoc, List.cons_append, List.nil_append]
    · simp [h2]
  · simp [h1]
theorem recpairs_tells (b : List Int) (hb : byteL b) (its : List S77) (hl : its.length ≤ 4000) (h2 : 2 ≤ its.length) : ∀ (d k i : Nat) (out : List S65), its.length = i + 2 * d → i ≤ 5000 → 2 * d + 4000010 < k → out.length ≤ i →
    out.length + (its.length - i) ≤ 4000 → record_DecodePairs.l0 k b its out (i : Int) = some (valT b its (its.drop i) out) := by
  intro d
  induction d with
  | zero =>
    intro k i out hi h5 hk hn ho
    obtain ⟨k, rfl⟩ : ∃ m, k = m + 1 := ⟨k - 1, by omega⟩
    simp only [record_DecodePairs.l0]
    rw [if_neg (by omega), List.drop_of_length_le (by omega), valT_nil, if_pos (by omega)]
    unfold valP
    rw [if_neg (by omega)]
    exact recend_val b hb _ out (by omega) k (by omega)
  | succ d ih =>
    intro k i out hi h5 hk hn ho
    obtain ⟨k, rfl⟩ : ∃ m, k = m + 1 := ⟨k - 1, by omega⟩
    have hc : i + 1 < its.length := by omega
    simp only [record_DecodePairs.l0]
    rw [if_pos (by omega), if_pos (by omega), wsuc i (by omega), rd77_get its i (by omega), rd77_get its (i + 1) hc, drop_two its i hc]
    rw [valT_cons]
    by_cases g1 : its[i].f0 = 2
    · rw [if_pos g1, if_pos (by omega), if_pos (by omega)]
      by_cases g2 : its[i + 1].f0 = 2
      · rw [if_pos g2, if_pos (by omega), wsuc2 i (by omega), if_pos ⟨g1, g2⟩]
        exact ih k (i + 2) _ (by omega) (by omega) (by omega) (by simp; omega) (by simp; omega)
      · rw [if_neg g2, if_neg (fun h => g2 h.2)]
    · rw [if_neg g1, if_neg (fun h => g1 h.1)]
def docPV (b : List Int) : Int × List S65 × Int := if (unsealV b).2 = 0 then valP b (unsealV b).1 (pairUp ((unsealV b).1.drop 2)) else (0, [], (unsealV b).2)
theorem valP_tells {b : List Int} (hb : byteL b) {its : List S77} (hu : unsealV b = (its, 0)) :
    valP b its (pairUp (its.drop 2)) = (0, [], 2) ∨ ∃ n out, its = itemsP n out ∧ wf64 n ∧ 0 ≤ n ∧ out.length ≤ 1900 ∧ fitL none out = true ∧ b = blobL n out ∧ (encPV n out).2 = 0 ∧ valP b its (pairUp (its.drop 2)) = (n, out, 0) := by
  unfold valP
  by_cases h2 : its.length < 2
  · exact Or.inl (if_pos h2)
  rw [if_neg h2]
  have hw : wf64 (its.getD 1 ⟨0, 0, ⟨#[]⟩⟩).f1 := by
    have h := unsealV_wf hb
    rw [hu] at h
    have hm : its[1]'(by omega) ∈ its := List.getElem_mem _
    rw [List.getD_eq_getElem?_getD, List.getElem?_eq_getElem (by omega), Option.getD_some]
    exact wf64_iff.1 (h _ hm)
  generalize (its.getD 1 ⟨0, 0, ⟨#[]⟩⟩).f1 = n at hw ⊢
  generalize pairUp (its.drop 2) = out
  unfold endP
  by_cases h3 : (encPV n out).2 = 0 ∧ (encPV n out).1 = b
  · obtain ⟨h4, h5, h6, h7⟩ := encPV_ok h3.1
    have hbb : b = blobL n out := by rw [← h3.2, h7]
    have := unseal_blob n out h4 h6 hw
    rw [← hbb, hu] at this
    exact Or.inr ⟨n, out, (Prod.mk.inj this).1, hw, h5, h4, h6, hbb, h3.1, if_pos h3⟩
  · exact Or.inl (if_neg h3)
theorem pairsI_texts : ∀ l : List S65, textsB (pairsI l) = true
  | [] => rfl
  | p :: l => by have := pairsI_texts l; simp only [textsB, pairsI, List.all_cons] at this ⊢; simp [this]
theorem decodepairs_val (b : List Int) (hb : byteL b) (hl : b.length ≤ 140737488351232) (k : Nat) (hk : 10 * b.length + 5000000 ≤ k) : record_DecodePairs.f k b = some (docPV b) := by
  have hle := unsealV_le b hb
  unfold record_DecodePairs.f docPV
  rw [unseal_val b hb hl k (by omega), Option.bind_some]
  by_cases h : (unsealV b).2 = 0
  · rw [if_pos h, if_pos h]
    obtain ⟨its, hu⟩ : ∃ its, unsealV b = (its, 0) := ⟨(unsealV b).1, by rw [← h]⟩
    have HV := valP_tells hb hu
    simp only [hu] at hle ⊢
    have J1 : record_DecodePairs.j0 k b its true = some (0, [], 2) := by
      obtain ⟨k, rfl⟩ : ∃ m, k = m + 1 := ⟨k - 1, by omega⟩
      simp only [record_DecodePairs.j0]
      rw [if_pos trivial]
    have J0 : 2 ≤ its.length → its.length % 2 = 0 → record_DecodePairs.j0 k b its false = some (valT b its (its.drop 2) []) := by
      intro h2 hev
      obtain ⟨k, rfl⟩ : ∃ m, k = m + 1 := ⟨k - 1, by omega⟩
      simp only [record_DecodePairs.j0]
      rw [if_neg (by simp)]
      exact recpairs_tells b hb its hle h2 ((its.length - 2) / 2) k 2 [] (by omega) (by omega) (by omega) (by simp) (by simp; omega)
    rcases HV with HV | ⟨n, out, e, hw, h0, h19, hf, hbb, hok, HV⟩
    · rw [HV]
      by_cases h2 : (its.length : Int) < 2
      · rw [if_pos h2, J1]
      rw [if_neg h2]
      by_cases h3 : (its.length : Int) % 2 = 0
      · rw [if_pos h3, if_pos (by omega)]
        split
        · exact J1
        · rw [if_pos (by omega)]
          cases hq : ((rd_T77 its 1).f0 != 1)
          · rw [J0 (by omega) (by omega)]
            unfold valT
            rw [List.nil_append, HV]
            simp
          · exact J1
      · rw [if_neg h3, J1]
    · rw [HV]
      have hlen := itemsP_len n out
      have r0 : rd_T77 its 0 = ⟨1, 4, ⟨#[]⟩⟩ := by rw [e]; rfl
      have r1 : rd_T77 its 1 = ⟨1, n, ⟨#[]⟩⟩ := by rw [e]; rfl
      rw [← e] at hlen
      rw [if_neg (by omega), if_pos (by omega), if_pos (by omega), r0, r1, if_neg (by simp [toList_data]), if_pos (by omega)]
      rw [show ((1 : Int) != 1) = false by rfl, J0 (by omega) (by omega)]
      unfold valT
      have ed : its.drop 2 = pairsI out := by rw [e]; rfl
      rw [ed] at HV ⊢
      rw [if_pos (pairsI_texts out), List.nil_append, HV]
  · rw [if_neg h, if_neg h]
theorem samepairs_tells (l : List S65) (hl : l.length ≤ 140737488351232) : ∀ (d k i : Nat), i + d = l.length → d < k → cisternref07_SamePairs.l0 k l l (i : Int) = some true := by
  intro d
  induction d with
  | zero =>
    intro k i hi hk
    obtain ⟨k, rfl⟩ : ∃ m, k = m + 1 := ⟨k - 1, by omega⟩
    simp only [cisternref07_SamePairs.l0]
    rw [if_neg (by omega)]
  | succ d ih =>
    intro k i hi hk
    obtain ⟨k, rfl⟩ : ∃ m, k = m + 1 := ⟨k - 1, by omega⟩
    simp only [cisternref07_SamePairs.l0]
    rw [if_pos (by omega), if_pos (by omega), if_pos (by omega), if_neg (by simp), wsuc i (by omega)]
    exact ih k (i + 1) (by omega) (by omega)
theorem samepairs_val (l : List S65) (hl : l.length ≤ 140737488351232) (k : Nat) (hk : l.length < k) : cisternref07_SamePairs.f k l l = some true := by
  unfold cisternref07_SamePairs.f
  rw [if_pos rfl]
  exact samepairs_tells l hl l.length k 0 (by omega) hk
end
end Go.Proofs.YtmkkeccmjejfnaaDoor.PA
namespace Go.Proofs.YtmkkeccmjejfnaaDoor.PA
section

open Go.RowKit Go.Proofs.YtmkkeccmjejfnaaDoorW.PrintWords Go.Proofs.YtmkkeccmjejfnaaDoorW.PrintLast Go.Proofs.YtmkkeccmjejfnaaDoorW.PrintMore
set_option linter.unusedVariables false
set_option linter.unusedSimpArgs false
theorem alloc3 (w : World) (o0 o1 o2 : Obj) : (((w.alloc o0).alloc o1).alloc o2).heap[w.heap.size]? = some o0 ∧ (((w.alloc o0).alloc o1).alloc o2).heap[w.heap.size + 1]? = some o1 ∧ (((w.alloc o0).alloc o1).alloc o2).heap[w.heap.size + 2]? = some o2 ∧ Below w.heap.size w (((w.alloc o0).alloc o1).alloc o2) := by
  have h0 := heap_alloc_new w o0
  have h1 := heap_alloc_new (w.alloc o0) o1
  have h2 := heap_alloc_new ((w.alloc o0).alloc o1) o2
  have s1 : (w.alloc o0).heap.size = w.heap.size + 1 := by simp
  have s2 : ((w.alloc o0).alloc o1).heap.size = w.heap.size + 2 := by simp
  have b1 := below_alloc (Below.refl (w.alloc o0).heap.size (w.alloc o0)) o1
  have b2 := below_alloc (Below.refl ((w.alloc o0).alloc o1).heap.size ((w.alloc o0).alloc o1)) o2
  refine ⟨?_, ?_, ?_, below_alloc (below_alloc (below_alloc (Below.refl _ _) _) _) _⟩
  · rw [b2.block _ (by omega), b1.block _ (by omega), h0]
  · rw [b2.block _ (by omega), ← s1, h1]
  · rw [← s2, h2]
theorem boxc3 {W : World} {g : Nat} {t : TypeId} {c0 c1 c2 : Value} (h : W.heap[g]? = some (.cells #[c0, c1, c2] t (0, 0))) : W.cell? ⟨g, 0, none⟩ = some c0 ∧ W.cell? ⟨g, 1, none⟩ = some c1 ∧ W.cell? ⟨g, 2, none⟩ = some c2 := ⟨(blk_cell h 0).trans rfl, (blk_cell h 1).trans rfl, (blk_cell h 2).trans rfl⟩
theorem boxc8 {W : World} {g : Nat} {t : TypeId} {c0 c1 c2 c3 c4 c5 c6 c7 : Value} (h : W.heap[g]? = some (.cells #[c0, c1, c2, c3, c4, c5, c6, c7] t (0, 0))) : W.cell? ⟨g, 0, none⟩ = some c0 ∧ W.cell? ⟨g, 1, none⟩ = some c1 ∧ W.cell? ⟨g, 2, none⟩ = some c2 ∧ W.cell? ⟨g, 3, none⟩ = some c3 ∧ W.cell? ⟨g, 4, none⟩ = some c4 ∧ W.cell? ⟨g, 5, none⟩ = some c5 ∧ W.cell? ⟨g, 6, none⟩ = some c6 ∧ W.cell? ⟨g, 7, none⟩ = some c7 := ⟨(blk_cell h 0).trans rfl, (blk_cell h 1).trans rfl, (blk_cell h 2).trans rfl, (blk_cell h 3).trans rfl, (blk_cell h 4).trans rfl, (blk_cell h 5).trans rfl, (blk_cell h 6).trans rfl, (blk_cell h 7).trans rfl⟩
theorem boxc2 {W : World} {g : Nat} {t : TypeId} {c0 c1 : Value} (h : W.heap[g]? = some (.cells #[c0, c1] t (0, 0))) : W.cell? ⟨g, 0, none⟩ = some c0 ∧ W.cell? ⟨g, 1, none⟩ = some c1 := ⟨(blk_cell h 0).trans rfl, (blk_cell h 1).trans rfl⟩
theorem encV_some (kind : Int) (ns : List Int) (t : ByteArray) : ∃ x y, encV kind ns t = (x, y) := ⟨_, _, rfl⟩
set_option maxHeartbeats 2000000 in
set_option maxRecDepth 100000 in
theorem cisternlaw07_RecordEncodes.walk (s0 s1 s2 g0 g1 g2 g3 g4 g5 g6 : Int) (gt : ByteArray) (p0 : Int) (pt : ByteArray) (w : World)
    (_w0 : ((Lit.int .i64 s0).wf = true) ∧ ((Lit.int .i64 s1).wf = true) ∧ ((Lit.int .i64 s2).wf = true)) (_w1 : ((Lit.int .i64 g0).wf = true) ∧ ((Lit.int .i64 g1).wf = true) ∧ ((Lit.int .i64 g2).wf = true) ∧ ((Lit.int .i64 g3).wf = true) ∧ ((Lit.int .i64 g4).wf = true) ∧ ((Lit.int .i64 g5).wf = true) ∧ ((Lit.int .i64 g6).wf = true) ∧ (gt.size ≤ maxLen)) (_w2 : ((Lit.int .i64 p0).wf = true) ∧ (pt.size ≤ maxLen)) :
    Calls Tryd.prog 3 #[.agg #[.int .i64 s0, .int .i64 s1, .int .i64 s2], .agg #[.int .i64 g0, .int .i64 g1, .int .i64 g2, .int .i64 g3, .int .i64 g4, .int .i64 g5, .int .i64 g6, .string gt], .agg #[.int .i64 p0, .string pt]] w fun e w' => e = .returned (.bool true) ∧ Below w.heap.size w w' := by
  clear _w0 _w1 _w2
  go_enter Tryd.func3, Tryd.ntmps3
  go_wp2_with fail
  refine (cisternlaw07_known.calls 300000 true _ (known_val _ (Nat.le_refl _))).mono ?_
  rintro e wa ⟨rfl, hB⟩
  obtain ⟨a0, a1, a2, ab⟩ := alloc3 w (.cells #[.int .i64 s0, .int .i64 s1, .int .i64 s2] 23) (.cells #[.int .i64 g0, .int .i64 g1, .int .i64 g2, .int .i64 g3, .int .i64 g4, .int .i64 g5, .int .i64 g6, .string gt] 25) (.cells #[.int .i64 p0, .string pt] 27)
  have X0 := Aside0.mk ((hB.block w.heap.size (by simp <;> omega)).trans a0)
  have X1 := Aside0.mk ((hB.block (w.heap.size + 1) (by simp <;> omega)).trans a1)
  have X2 := Aside0.mk ((hB.block (w.heap.size + 2) (by simp <;> omega)).trans a2)
  have HZ := Aside0.mk (show w.heap.size + 3 ≤ wa.heap.size by have := hB.size; simp at this; omega)
  have BA := Aside0.mk (ab.trans (hB.mono (by simp <;> omega)))
  clear hB a0 a1 a2 ab
  obtain ⟨x0, y0, hv0⟩ := encV_some 1 [s0, s1, s2] ⟨#[]⟩
  have D0 : Aside0 (cisternref07_DocEncode.f 10000 1 [s0, s1, s2] ⟨#[]⟩ = some (strOfNums x0, y0)) := ⟨by rw [docencode_val 1 [s0, s1, s2] ⟨#[]⟩ (by omega) (by omega) 10000 (by omega), hv0]⟩
  have E0 : Aside0 (record_EncodeSuper.f 10000 s0 s1 s2 = some (x0, y0)) := ⟨by rw [encodeSuper_val s0 s1 s2 10000 (by omega), hv0]⟩
  clear hv0
  obtain ⟨k0, k1, k2⟩ := boxc3 X0.out
  go_wp2_with fail
  refine (cisternlaw07_superRec.calls s0 s1 s2 _ _ _ wa rfl).mono ?_
  rintro e wr0 ⟨v, rfl, hR, hB⟩
  obtain ⟨Ar, cr, rfl, hcr, hCr⟩ := Kd.R_reads hR
  have CR := Aside0.mk hCr
  have CL := Aside0.mk hcr
  have BR0 := Aside0.mk (BA.out.trans (hB.mono BA.out.size))
  have T0 := Aside0.mk hB.size
  have U0 := Aside0.mk hB
  clear hR hB hcr hCr k0 k1 k2
  go_wp2_with fail
  refine (cisternref07_DocEncode.calls 10000 1 Ar cr [s0, s1, s2] ⟨#[]⟩ (strOfNums x0) y0 wr0 CR.out CL.out D0.out).mono ?_
  rintro e wd0 ⟨rfl, hB⟩
  have BD0 := Aside0.mk (BR0.out.trans (hB.mono BR0.out.size))
  have V0 := Aside0.mk (U0.out.trans (hB.mono T0.out))
  clear hB
  have XX := Aside0.mk ((V0.out.block (w.heap.size) (by have := HZ.out; omega)).trans X0.out)
  obtain ⟨k0, k1, k2⟩ := boxc3 XX.out
  go_wp2_with fail
  refine (record_EncodeSuper.calls 10000 s0 s1 s2 x0 y0 wd0 E0.out).mono ?_
  rintro e we0 ⟨v, rfl, hR, hB⟩
  obtain ⟨Ae, ce, rfl, hce, hCe⟩ := Kd.R_reads hR
  have cv0 := fun c => Kd.C_string (c := c) (P := Tryd.prog) Tryd.underlying36 Tryd.underlying5 Tryd.underlying9 hCe
  have BE0 := Aside0.mk (BD0.out.trans (hB.mono BD0.out.size))
  have YY := Aside0.mk (V0.out.trans (hB.mono V0.out.size))
  have HZ0 := Aside0.mk (Nat.le_trans HZ.out YY.out.size)
  clear hR hB hce hCe k0 k1 k2
  replace X1 := Aside0.mk ((YY.out.block (w.heap.size + 1) (by have := HZ.out; omega)).trans X1.out)
  replace X2 := Aside0.mk ((YY.out.block (w.heap.size + 2) (by have := HZ.out; omega)).trans X2.out)
  replace HZ := HZ0
  clear CR CL XX YY
  obtain ⟨x1, y1, hv1⟩ := encV_some 2 [g0, g1, g2, g3, g4, g5, g6] gt
  have D1 : Aside0 (cisternref07_DocEncode.f 10000 2 [g0, g1, g2, g3, g4, g5, g6] gt = some (strOfNums x1, y1)) := ⟨by rw [docencode_val 2 [g0, g1, g2, g3, g4, g5, g6] gt (by omega) (by omega) 10000 (by omega), hv1]⟩
  have E1 : Aside0 (record_EncodeLog.f 10000 g0 g1 g2 g3 g4 g5 g6 gt = some (x1, y1)) := ⟨by rw [encodeLog_val g0 g1 g2 g3 g4 g5 g6 gt 10000 (by omega), hv1]⟩
  clear hv1
  obtain ⟨k0, k1, k2, k3, k4, k5, k6, k7⟩ := boxc8 X1.out
  go_wp2_with fail
  refine (cisternlaw07_logRec.calls g0 g1 g2 g3 g4 g5 g6 gt _ _ _ we0 rfl).mono ?_
  rintro e wr1 ⟨v, rfl, hR, hB⟩
  obtain ⟨Ar, cr, rfl, hcr, hCr⟩ := Kd.R_reads hR
  have CR := Aside0.mk hCr
  have CL := Aside0.mk hcr
  have BR1 := Aside0.mk (BE0.out.trans (hB.mono BE0.out.size))
  have T1 := Aside0.mk hB.size
  have U1 := Aside0.mk hB
  clear hR hB hcr hCr k0 k1 k2 k3 k4 k5 k6 k7
  go_wp2_with fail
  refine (cisternref07_DocEncode.calls 10000 2 Ar cr [g0, g1, g2, g3, g4, g5, g6] gt (strOfNums x1) y1 wr1 CR.out CL.out D1.out).mono ?_
  rintro e wd1 ⟨rfl, hB⟩
  have BD1 := Aside0.mk (BR1.out.trans (hB.mono BR1.out.size))
  have V1 := Aside0.mk (U1.out.trans (hB.mono T1.out))
  clear hB
  have XX := Aside0.mk ((V1.out.block (w.heap.size + 1) (by have := HZ.out; omega)).trans X1.out)
  obtain ⟨k0, k1, k2, k3, k4, k5, k6, k7⟩ := boxc8 XX.out
  go_wp2_with fail
  refine (record_EncodeLog.calls 10000 g0 g1 g2 g3 g4 g5 g6 gt x1 y1 wd1 E1.out).mono ?_
  rintro e we1 ⟨v, rfl, hR, hB⟩
  obtain ⟨Ae, ce, rfl, hce, hCe⟩ := Kd.R_reads hR
  have cv1 := fun c => Kd.C_string (c := c) (P := Tryd.prog) Tryd.underlying36 Tryd.underlying5 Tryd.underlying9 hCe
  have BE1 := Aside0.mk (BD1.out.trans (hB.mono BD1.out.size))
  have YY := Aside0.mk (V1.out.trans (hB.mono V1.out.size))
  have HZ1 := Aside0.mk (Nat.le_trans HZ.out YY.out.size)
  clear hR hB hce hCe k0 k1 k2 k3 k4 k5 k6 k7
  replace X2 := Aside0.mk ((YY.out.block (w.heap.size + 2) (by have := HZ.out; omega)).trans X2.out)
  replace HZ := HZ1
  clear CR CL XX YY
  obtain ⟨x2, y2, hv2⟩ := encV_some 3 [p0] pt
  have D2 : Aside0 (cisternref07_DocEncode.f 10000 3 [p0] pt = some (strOfNums x2, y2)) := ⟨by rw [docencode_val 3 [p0] pt (by omega) (by omega) 10000 (by omega), hv2]⟩
  have E2 : Aside0 (record_EncodeHome.f 10000 p0 pt = some (x2, y2)) := ⟨by rw [encodeHome_val p0 pt 10000 (by omega), hv2]⟩
  clear hv2
  obtain ⟨k0, k1⟩ := boxc2 X2.out
  go_wp2_with fail
  refine (cisternlaw07_homeRec.calls p0 pt _ _ _ we1 rfl).mono ?_
  rintro e wr2 ⟨v, rfl, hR, hB⟩
  obtain ⟨Ar, cr, rfl, hcr, hCr⟩ := Kd.R_reads hR
  have CR := Aside0.mk hCr
  have CL := Aside0.mk hcr
  have BR2 := Aside0.mk (BE1.out.trans (hB.mono BE1.out.size))
  have T2 := Aside0.mk hB.size
  have U2 := Aside0.mk hB
  clear hR hB hcr hCr k0 k1
  go_wp2_with fail
  refine (cisternref07_DocEncode.calls 10000 3 Ar cr [p0] pt (strOfNums x2) y2 wr2 CR.out CL.out D2.out).mono ?_
  rintro e wd2 ⟨rfl, hB⟩
  have BD2 := Aside0.mk (BR2.out.trans (hB.mono BR2.out.size))
  have V2 := Aside0.mk (U2.out.trans (hB.mono T2.out))
  clear hB
  have XX := Aside0.mk ((V2.out.block (w.heap.size + 2) (by have := HZ.out; omega)).trans X2.out)
  obtain ⟨k0, k1⟩ := boxc2 XX.out
  go_wp2_with fail
  refine (record_EncodeHome.calls 10000 p0 pt x2 y2 wd2 E2.out).mono ?_
  rintro e we2 ⟨v, rfl, hR, hB⟩
  obtain ⟨Ae, ce, rfl, hce, hCe⟩ := Kd.R_reads hR
  have cv2 := fun c => Kd.C_string (c := c) (P := Tryd.prog) Tryd.underlying36 Tryd.underlying5 Tryd.underlying9 hCe
  have BE2 := Aside0.mk (BD2.out.trans (hB.mono BD2.out.size))
  have YY := Aside0.mk (V2.out.trans (hB.mono V2.out.size))
  have HZ2 := Aside0.mk (Nat.le_trans HZ.out YY.out.size)
  clear hR hB hce hCe k0 k1
  replace HZ := HZ2
  clear CR CL XX YY
  go_wp2_with fail
  go_ret
  exact ⟨by simp, BE2.out⟩
end
end Go.Proofs.YtmkkeccmjejfnaaDoor.PA
namespace Go.Proofs.YtmkkeccmjejfnaaDoor.PA
section

open Go.RowKit Go.Proofs.YtmkkeccmjejfnaaDoorW.PrintWords Go.Proofs.YtmkkeccmjejfnaaDoorW.PrintLast Go.Proofs.YtmkkeccmjejfnaaDoorW.PrintMore
set_option linter.unusedVariables false
set_option linter.unusedSimpArgs false
theorem encV_ok {kind : Int} {ns : List Int} {t : ByteArray} (h : rightB kind ns t = true) : encV kind ns t = (secL (recI (kind :: ns) (txt kind t)), 0) := by unfold encV; rw [if_pos h]
theorem encV_no {kind : Int} {ns : List Int} {t : ByteArray} (h : ¬ rightB kind ns t = true) : encV kind ns t = ([], 2) := by unfold encV; rw [if_neg h]
theorem other_home {b : List Int} (hb : byteL b) (hl : b.length = 256) (h : docV b 3 = (0, [], ⟨#[]⟩, 2)) (K : Nat) (hK : 300000 ≤ K) : record_DecodeHome.f K b = some (0, ⟨#[]⟩, 2) := by
  rcases home_tells b hb (by omega) K hK with ⟨p, t, hd, hp⟩ | ⟨e, he, hd, hp⟩
  · rw [h] at hd; simp at hd
  · rw [h] at hd; rw [hp]; simp at hd; rw [hd]
theorem other_super {b : List Int} (hb : byteL b) (hl : b.length = 256) (h : docV b 1 = (0, [], ⟨#[]⟩, 2)) (K : Nat) (hK : 300000 ≤ K) : record_DecodeSuper.f K b = some (0, 0, 0, 2) := by
  rcases super_tells b hb (by omega) K hK with ⟨x, y, z, hd, hp⟩ | ⟨e, he, hd, hp⟩
  · rw [h] at hd; simp at hd
  · rw [h] at hd; rw [hp]; simp at hd; rw [hd]
theorem own_log {b : List Int} (hb : byteL b) (hl : b.length = 256) {n0 n1 n2 n3 n4 n5 n6 : Int} {t : ByteArray} (h : docV b 2 = (2, [n0, n1, n2, n3, n4, n5, n6], t, 0)) (K : Nat) (hK : 300000 ≤ K) : record_DecodeLog.f K b = some (n0, n1, n2, n3, n4, n5, n6, t, 0) := by
  rcases log_tells b hb (by omega) K hK with ⟨m0, m1, m2, m3, m4, m5, m6, t, hd, hp⟩ | ⟨e, he, hd, hp⟩
  · rw [h] at hd; simp at hd; obtain ⟨⟨rfl, rfl, rfl, rfl, rfl, rfl, rfl⟩, rfl⟩ := hd; exact hp
  · rw [h] at hd; simp at hd
theorem sec_facts {kind : Int} {ns : List Int} {t : ByteArray} (h : rightB kind ns t = true) : byteL (secL (recI (kind :: ns) (txt kind t))) ∧ (secL (recI (kind :: ns) (txt kind t))).length = 256 := by
  have hsm := small_enc kind ns (txt kind t) (by rw [(rightB_len h).1]; exact cnt_le kind) (txt_get h).2
  exact ⟨secL_byteL _ hsm, secL_length _ hsm⟩
end
end Go.Proofs.YtmkkeccmjejfnaaDoor.PA
namespace Go.Proofs.YtmkkeccmjejfnaaDoor.PA
section

open Go.RowKit Go.Proofs.YtmkkeccmjejfnaaDoorW.PrintWords Go.Proofs.YtmkkeccmjejfnaaDoorW.PrintLast Go.Proofs.YtmkkeccmjejfnaaDoorW.PrintMore
set_option linter.unusedVariables false
set_option linter.unusedSimpArgs false
theorem back_log (n0 n1 n2 n3 n4 n5 n6 : Int) (t : ByteArray) (hw : wf64 n0 ∧ wf64 n1 ∧ wf64 n2 ∧ wf64 n3 ∧ wf64 n4 ∧ wf64 n5 ∧ wf64 n6) (K : Nat) (hK : 6000000 ≤ K) : record_EncodeLog.f K n0 n1 n2 n3 n4 n5 n6 t = some ([], 2) ∨
    ∃ x, record_EncodeLog.f K n0 n1 n2 n3 n4 n5 n6 t = some (x, 0) ∧ record_DecodeLog.f K x = some (n0, n1, n2, n3, n4, n5, n6, t, 0) ∧ record_DecodeHome.f K x = some (0, ⟨#[]⟩, 2) ∧ record_DecodeSuper.f K x = some (0, 0, 0, 2) := by
  rw [encodeLog_val n0 n1 n2 n3 n4 n5 n6 t K (by omega)]
  by_cases h : rightB 2 [n0, n1, n2, n3, n4, n5, n6] t = true
  · have hw' : ∀ n ∈ [2, n0, n1, n2, n3, n4, n5, n6], wf64 n := by
      intro n hn
      simp only [List.mem_cons, List.not_mem_nil, or_false] at hn
      obtain ⟨w0, w1, w2, w3, w4, w5, w6⟩ := hw
      rcases hn with rfl | rfl | rfl | rfl | rfl | rfl | rfl | rfl
      · exact ⟨by decide, by decide⟩
      all_goals assumption
    obtain ⟨hb, hl⟩ := sec_facts h
    have d1 := doc_enc 2 [n0, n1, n2, n3, n4, n5, n6] t h hw'
    have d2 := doc_other 2 3 [n0, n1, n2, n3, n4, n5, n6] t h hw' (by decide)
    have d3 := doc_other 2 1 [n0, n1, n2, n3, n4, n5, n6] t h hw' (by decide)
    rw [encV_ok h]
    exact Or.inr ⟨_, rfl, own_log hb hl d1 K (by omega), other_home hb hl d2 K (by omega), other_super hb hl d3 K (by omega)⟩
  · rw [encV_no h]; exact Or.inl rfl
theorem back_pairs (n : Int) (hn : wf64 n) (l : List S65) (hl : l.length ≤ 140737488351232) (K : Nat) (hK : 2 * l.length + 8000000 ≤ K) : (∃ e, e ≠ 0 ∧ record_EncodePairs.f K n l = some ([], e)) ∨
    ∃ x, record_EncodePairs.f K n l = some (x, 0) ∧ record_DecodePairs.f K x = some (n, l, 0) := by
  rw [encodepairs_val n l hl K (by omega)]
  by_cases h : (encPV n l).2 = 0
  · obtain ⟨h1, h2, h3, h4⟩ := encPV_ok h
    have hlen := blobL_len n l h1 h3
    refine Or.inr ⟨blobL n l, by rw [← h4, ← h], ?_⟩
    rw [decodepairs_val _ (blobL_byteL n l) (by omega) K (by omega)]
    have hu := unseal_blob n l h1 h3 hn
    unfold docPV
    rw [hu, if_pos rfl]
    unfold valP
    have hlen2 := itemsP_len n l
    simp only
    rw [if_neg (by omega)]
    have e1 : ((itemsP n l).getD 1 ⟨0, 0, ⟨#[]⟩⟩).f1 = n := rfl
    have e2 : pairUp ((itemsP n l).drop 2) = l := pairUp_pairsI l
    rw [e1, e2]
    unfold endP
    rw [if_pos ⟨h, h4⟩]
  · refine Or.inl ⟨(encPV n l).2, h, ?_⟩
    have : (encPV n l).1 = [] := by
      unfold encPV encT at h ⊢
      split
      · rfl
      · rename_i h1
        split
        · rfl
        · rename_i h2
          rw [if_neg h1, if_neg h2] at h
          exact absurd rfl h
    rw [← this]
theorem back_super (b : List Int) (hb : byteL b) (hl : b.length ≤ 140737488351232) (K : Nat) (hK : 6000000 ≤ K) : (∃ e, e ≠ 0 ∧ record_DecodeSuper.f K b = some (0, 0, 0, e)) ∨
    ∃ x y z, record_DecodeSuper.f K b = some (x, y, z, 0) ∧ record_EncodeSuper.f K x y z = some (b, 0) := by
  rcases super_tells b hb hl K (by omega) with ⟨x, y, z, hd, hp⟩ | ⟨e, he, hd, hp⟩
  · obtain ⟨_, hr, e, _, _, _⟩ := doc_tells hb hd
    exact Or.inr ⟨x, y, z, hp, by rw [encodeSuper_val x y z K (by omega), encV_ok hr, ← e]⟩
  · exact Or.inl ⟨e, he, hp⟩
theorem back_home (b : List Int) (hb : byteL b) (hl : b.length ≤ 140737488351232) (K : Nat) (hK : 6000000 ≤ K) : (∃ e, e ≠ 0 ∧ record_DecodeHome.f K b = some (0, ⟨#[]⟩, e)) ∨
    ∃ p t, record_DecodeHome.f K b = some (p, t, 0) ∧ record_EncodeHome.f K p t = some (b, 0) := by
  rcases home_tells b hb hl K (by omega) with ⟨p, t, hd, hp⟩ | ⟨e, he, hd, hp⟩
  · obtain ⟨_, hr, e, _, _, _⟩ := doc_tells hb hd
    exact Or.inr ⟨p, t, hp, by rw [encodeHome_val p t K (by omega), encV_ok hr, ← e]⟩
  · exact Or.inl ⟨e, he, hp⟩
theorem back_blob (b : List Int) (hb : byteL b) (hl : b.length ≤ 140737488351232) (K : Nat) (hK : 10 * b.length + 8000000 ≤ K) : (∃ e, e ≠ 0 ∧ record_DecodePairs.f K b = some (0, [], e)) ∨
    ∃ n l, l.length ≤ 1900 ∧ record_DecodePairs.f K b = some (n, l, 0) ∧ record_EncodePairs.f K n l = some (b, 0) := by
  rw [decodepairs_val b hb hl K (by omega)]
  unfold docPV
  by_cases h : (unsealV b).2 = 0
  · rw [if_pos h]
    obtain ⟨its, hu⟩ : ∃ its, unsealV b = (its, 0) := ⟨(unsealV b).1, by rw [← h]⟩
    have HV := valP_tells hb hu
    simp only [hu]
    rcases HV with HV | ⟨n, out, _, _, _, h19, _, hbb, hok, HV⟩
    · exact Or.inl ⟨2, by decide, by rw [HV]⟩
    · refine Or.inr ⟨n, out, h19, by rw [HV], ?_⟩
      rw [encodepairs_val n out (by omega) K (by omega)]
      rw [← hok, hbb, ← (encPV_ok hok).2.2.2]
  · rw [if_neg h]
    exact Or.inl ⟨_, h, rfl⟩
end
end Go.Proofs.YtmkkeccmjejfnaaDoor.PA
