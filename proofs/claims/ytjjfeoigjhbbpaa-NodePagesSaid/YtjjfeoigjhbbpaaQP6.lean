/- Texts of this claim: contracts of the functions that the statement reaches, and plain laws of what they compute. -/
import Derived.Test.YtjjfeoigjhbbpaaQP5
set_option linter.unusedVariables false
set_option linter.unusedSimpArgs false
namespace Go.Proofs.Ytjjfeoigjhbbpaa.PA
section

open Go.RowKit Go.Proofs.YtjjfeoigjhbbpaaW.PrintWords Go.Proofs.YtjjfeoigjhbbpaaW.PrintLast Go.Proofs.YtjjfeoigjhbbpaaW.PrintMore
attribute [local go_sem] pr_leq pr_geq pr_gtr max2_int min2_int max_two min_two max_three min_three max_four min_four
set_option linter.unusedVariables false
set_option linter.unusedSimpArgs false
mutual
def cisternref11_DocDecode.j0 : Nat → ByteArray → Bool → Option (Bool × (List (S48)) × List ByteArray × List Int × Int)
  | 0, _, _ => none
  | k + 1, x0, x26 => if x26 = true then (some (false, ([] : List (S48)), ([] : List ByteArray), ([] : List Int), 2)) else (if 0 < (x0.size : Int) then (if 1 < (x0.size : Int) then (if 2 ≤ (x0.size : Int) then (if (bt x0 0) = 1 then (cisternref11_DocDecode.l0 k x0 (wrap64 (bt x0 1)) (x0.extract 2 x0.size) 0 ((bt x0 0) == 1) ([] : List (S48))) else (cisternref11_DocDecode.l1 k x0 (wrap64 (bt x0 1)) (x0.extract 2 x0.size) 0 ((bt x0 0) == 1) ([] : List Int))) else (none)) else (none)) else (none))
def cisternref11_DocDecode.j4 : Nat → ByteArray → Bool → List (S48) → List ByteArray → List Int → Option (Bool × (List (S48)) × List ByteArray × List Int × Int)
  | 0, _, _, _, _, _ => none
  | k + 1, x0, x431000, x431001, x431002, x431003 => (cisternref11_Right.f x431000 x431001 x431002 x431003).bind fun t449 => (if t449 = true then ((cisternref11_Encode.f k x431000 x431001 x431002 x431003).bind fun t450 => (if t450.toList = x0.toList then (some (x431000, x431001, x431002, x431003, 0)) else (some (false, ([] : List (S48)), ([] : List ByteArray), ([] : List Int), 2)))) else (some (false, ([] : List (S48)), ([] : List ByteArray), ([] : List Int), 2)))
def cisternref11_DocDecode.l0 : Nat → ByteArray → Int → ByteArray → Int → Bool → List (S48) → Option (Bool × (List (S48)) × List ByteArray × List Int × Int)
  | 0, _, _, _, _, _, _ => none
  | k + 1, x0, x5, x6, x7, x431000, x431001 => if x7 < x5 then ((cisternref11_take.f x6).bind fun bt431 => ((cisternref11_take.f bt431.2.1).bind fun bt434 => (if bt431.2.2 = true then (if bt434.2.2 = true then (if x431001.length < 4398046511104 then (cisternref11_DocDecode.l0 k x0 x5 bt434.2.1 (wrap64 (x7 + 1)) x431000 (x431001 ++ [(⟨bt431.1, bt434.1⟩ : S48)])) else (none)) else (some (false, ([] : List (S48)), ([] : List ByteArray), ([] : List Int), 2))) else (some (false, ([] : List (S48)), ([] : List ByteArray), ([] : List Int), 2))))) else (cisternref11_DocDecode.j4 k x0 x431000 x431001 ([] : List ByteArray) ([] : List Int))
def cisternref11_DocDecode.l1 : Nat → ByteArray → Int → ByteArray → Int → Bool → List Int → Option (Bool × (List (S48)) × List ByteArray × List Int × Int)
  | 0, _, _, _, _, _, _ => none
  | k + 1, x0, x5, x6, x14, x431000, x431003 => if x14 < x5 then (if (x6.size : Int) < 2 then (some (false, ([] : List (S48)), ([] : List ByteArray), ([] : List Int), 2)) else (if 0 < (x6.size : Int) then (if 1 < (x6.size : Int) then (if x431003.length < 17592186044416 then (if 2 ≤ (x6.size : Int) then (cisternref11_DocDecode.l1 k x0 x5 (x6.extract 2 x6.size) (wrap64 (x14 + 1)) x431000 (x431003 ++ [wrap64 ((wrap64 (bt x6 0)) + (wrap64 (256 * (wrap64 (bt x6 1)))))])) else (none)) else (none)) else (none)) else (none))) else (cisternref11_DocDecode.l2 k x0 x5 x6 0 x431000 ([] : List ByteArray) x431003)
def cisternref11_DocDecode.l2 : Nat → ByteArray → Int → ByteArray → Int → Bool → List ByteArray → List Int → Option (Bool × (List (S48)) × List ByteArray × List Int × Int)
  | 0, _, _, _, _, _, _, _ => none
  | k + 1, x0, x5, x6, x15, x431000, x431002, x431003 => if x15 < (wrap64 (x5 - 1)) then ((cisternref11_take.f x6).bind fun bt443 => (if bt443.2.2 = true then (if x431002.length < 8796093022208 then (cisternref11_DocDecode.l2 k x0 x5 bt443.2.1 (wrap64 (x15 + 1)) x431000 (x431002 ++ [bt443.1]) x431003) else (none)) else (some (false, ([] : List (S48)), ([] : List ByteArray), ([] : List Int), 2)))) else (cisternref11_DocDecode.j4 k x0 x431000 ([] : List (S48)) x431002 x431003)
end
def cisternref11_DocDecode.f (k : Nat) (a0 : ByteArray) : Option (Bool × (List (S48)) × List ByteArray × List Int × Int) := if (a0.size : Int) < 2 then (cisternref11_DocDecode.j0 k a0 true) else (cisternref11_DocDecode.j0 k a0 (decide ((a0.size : Int) > 160)))
def cisternref11_DocDecode.T3 : Bool × List (List Nat × List Nat) := (true, [([], []), ([0], [0]), ([1], [1]), ([2], [2]), ([], []), ([4], [4]), ([5], [5]), ([], []), ([7], [7]), ([], []), ([9, 3, 0, 1, 2, 3, 9], [3, 9]), ([6, 10, 0, 1, 2, 3, 4, 5, 6, 9, 10], [6]), ([8, 11, 0, 1, 2, 3, 4, 5, 6, 7, 8, 9, 10, 11], [8])])
def cisternref11_DocDecode.B3 : List Nat := [0, 1, 3, 7, 0, 16, 48, 0, 128, 0, 527, 1663, 4095]
theorem cisternref11_DocDecode.tab3 : rtab .any (opsOf Try.f24 3) = cisternref11_DocDecode.T3 := by kernel_rfl
theorem cisternref11_DocDecode.bits3 : waitsOk cisternref11_DocDecode.T3.2 cisternref11_DocDecode.B3 = true := by kernel_rfl
def cisternref11_DocDecode.T19 : Bool × List (List Nat × List Nat) := (true, [([], []), ([0], [0]), ([], []), ([2], [2]), ([3], [3]), ([], []), ([5], [5]), ([6], [6]), ([7], [7]), ([4, 8], [4, 8]), ([9], [9]), ([1, 10], [1, 10]), ([0, 1, 2, 3, 4, 5, 6, 7, 8, 9, 10, 11], []), ([12, 11, 11, 0, 1, 2, 3, 4, 5, 6, 7, 8, 9, 10, 11], [11, 12])])
def cisternref11_DocDecode.B19 : List Nat := [0, 1, 0, 4, 12, 0, 32, 96, 224, 508, 1020, 2047, 4095, 8191]
theorem cisternref11_DocDecode.tab19 : rtab .any (opsOf Try.f24 19) = cisternref11_DocDecode.T19 := by kernel_rfl
theorem cisternref11_DocDecode.bits19 : waitsOk cisternref11_DocDecode.T19.2 cisternref11_DocDecode.B19 = true := by kernel_rfl
set_option maxHeartbeats 8000000 in
set_option maxRecDepth 100000 in
theorem cisternref11_DocDecode.calls (k : Nat) (a0 : ByteArray) (r1 : Bool) (r2 : List (S48)) (r3 : List ByteArray) (r4 : List Int) (r5 : Int) (w : World) (h : cisternref11_DocDecode.f k a0 = some (r1, r2, r3, r4, r5)) :
    Calls Try.prog 24 #[.string a0] w fun e w' => ∃ v1_ v2_ v3_ : Value, e = .returned (.tuple #[.agg #[.bool r1, v1_, v2_, v3_], .int .i64 r5]) ∧ Kd.R k48 48 w' w.heap.size (fun _ => True) v1_ r2 ∧ Kd.R Kd.string 9 w' w.heap.size (fun _ => True) v2_ r3 ∧ Kd.R (Kd.int .i64) 3 w' w.heap.size (fun _ => True) v3_ r4 ∧ Below w.heap.size w w' := by
  have hu26 := Try.underlying26
  have hu48 := Try.underlying48
  have HB := Aside0.mk (Below.refl w.heap.size w)
  have H : (if (a0.size : Int) < 2 then (cisternref11_DocDecode.j0 k a0 true) else (cisternref11_DocDecode.j0 k a0 (decide ((a0.size : Int) > 160)))) = some (r1, r2, r3, r4, r5) := h
  clear h
  have HC2 := Aside0.mk H
  clear H
  go_enter Try.func24, Try.ntmps24
  go_upto_region 1 with (first | ((with_reducible refine gate_dst (N := 2) rfl ?_); (try (refine gate_guard (by rfl) ?_; dsimp only)); refine box_event ?hg (N := 2) ?hd (cs := #[.bool false, .slice none 0 0, .slice none 0 0, .slice none 0 0]) (t := 26) ?hr ?_; (case hd => rfl); (case hg => rfl); (case hr => first | (go_simp; done) | (go_simp; rfl)); intro gb429 hg w3 hbox hb; have n0_ := Aside0.mk (below_step (by repeat (first | (with_reducible first | exact HB.out | apply below_alloc | apply pw_below_drewN | apply below_drew1) | exact HB.out)) hb); have n1_ := Aside0.mk (hbox); have n2_ := Aside0.mk ((by rw [hg]; exact (below_size (by repeat (first | (with_reducible first | exact HB.out | apply below_alloc | apply pw_below_drewN | apply below_drew1) | exact HB.out))) : w.heap.size ≤ gb429)); have n3_ := Aside0.mk ((by rw [hg]; exact (below_size (by repeat (first | (with_reducible first | exact HB.out | apply below_alloc | apply pw_below_drewN | apply below_drew1) | exact HB.out))) : w.heap.size ≤ gb429)); clear HB; have HB := n0_; have BK429 := n1_; have GW429 := n2_; have GE429 := n3_; clear n0_ n1_ n2_ n3_; clear hb hbox hg))
  (try simp only [Act.put, List.setIfInBounds_toArray, List.set_cons_zero, List.set_cons_succ])
  go_cut [26] (fun v26 wc => ∃ (kq : Nat) (x26_1 : Bool), v26 = .bool x26_1 ∧ Aside0 (cisternref11_DocDecode.j0 kq a0 x26_1 = some (r1, r2, r3, r4, r5)) ∧ Aside0 (kq ≤ k) ∧ Aside0 (wc.heap[gb429]? = some (.cells #[.bool false, (.slice none 0 0), (.slice none 0 0), (.slice none 0 0)] 26 (0, 0))) ∧ Aside0 (Below w.heap.size w wc))
  case first =>
    have H := HC2.out
    clear HC2
    by_cases c4 : (a0.size : Int) < 2
    · rw [if_pos c4] at H
      have c4b0 : decide ((a0.size : Int) < 2) = true := decide_eq_true c4
      have c4b1 : decide (a0.size < 2) = true := decide_eq_true (by omega)
      clear c4
      (first | rw [c4b0] | (simp only [i64_w, i32_w]; rw [c4b0]) | skip)
      have H' := Aside0.mk H
      clear H
      go_wp2
      go_meet
      case rel => exact ⟨_, (true), (by first | rfl | (simp; done) | (simp [*]; done)), H', ⟨by first | omega | exact Nat.le_refl _⟩, ⟨by (with_reducible repeat (first | refine blk_drewN ?_ _ | refine blk_drew ?_ | refine blk_alloc ?_ _)); exact BK429.out⟩, ⟨by repeat (first | (with_reducible first | exact HB.out | apply below_alloc | apply pw_below_drewN | apply below_drew1 | refine below_set ?_ GE429.out) | exact HB.out)⟩⟩
    · rw [if_neg c4] at H
      have c4b0 : decide ((a0.size : Int) < 2) = false := decide_eq_false c4
      have c4b1 : decide (a0.size < 2) = false := decide_eq_false (by omega)
      clear c4
      (first | rw [c4b0] | (simp only [i64_w, i32_w]; rw [c4b0]) | skip)
      have H' := Aside0.mk H
      clear H
      go_wp2
      go_meet
      case rel => exact ⟨_, (decide ((a0.size : Int) > 160)), (by first | rfl | (simp; done) | (simp [*]; done)), H', ⟨by first | omega | exact Nat.le_refl _⟩, ⟨by (with_reducible repeat (first | refine blk_drewN ?_ _ | refine blk_drew ?_ | refine blk_alloc ?_ _)); exact BK429.out⟩, ⟨by repeat (first | (with_reducible first | exact HB.out | apply below_alloc | apply pw_below_drewN | apply below_drew1 | refine below_set ?_ GE429.out) | exact HB.out)⟩⟩
  case rest =>
    clear HC2
    try clear c2
    try clear p2
    try clear c4
    try clear c4b0
    try clear c4b1
    obtain ⟨kq, x26_1, rfl, HA, HJ1, BK429, HB⟩ := hcut
    cases kq with
    | zero => exact absurd HA.out (by simp [cisternref11_DocDecode.j0])
    | succ kj1 =>
      have H := HA.out
      clear HA
      simp only [cisternref11_DocDecode.j0] at H
      by_cases c5 : x26_1 = true
      · subst c5
        have H1 : (some (false, ([] : List (S48)), ([] : List ByteArray), ([] : List Int), 2)) = some (r1, r2, r3, r4, r5) := by rw [if_pos rfl] at H; exact H
        clear H
        have H := H1
        clear H1
        simp only [Option.some.injEq, Prod.mk.injEq] at H
        obtain ⟨rfl, rfl, rfl, rfl, rfl⟩ := H
        have hcz6_0 : wc.cell? ⟨gb429, 0, none⟩ = some (.bool false) := (blk_cell BK429.out 0).trans rfl
        have hcz6_1 : wc.cell? ⟨gb429, 1, none⟩ = some (.slice none 0 0) := (blk_cell BK429.out 1).trans rfl
        have hcz6_2 : wc.cell? ⟨gb429, 2, none⟩ = some (.slice none 0 0) := (blk_cell BK429.out 2).trans rfl
        have hcz6_3 : wc.cell? ⟨gb429, 3, none⟩ = some (.slice none 0 0) := (blk_cell BK429.out 3).trans rfl
        have hfz6_0 := blk_frozen BK429.out 0
        have hfz6_1 := blk_frozen BK429.out 1
        have hfz6_2 := blk_frozen BK429.out 2
        have hfz6_3 := blk_frozen BK429.out 3
        go_wp2
        refine bodyPost_ret (results_ct rfl _ _ gb429 26 #[.bool false, .slice none 0 0, .slice none 0 0, .slice none 0 0] (0, 0) _ rfl (by (with_reducible repeat (first | refine blk_drewN ?_ _ | refine blk_drew ?_ | refine blk_alloc ?_ _)); refine blk_put (cs := #[.bool false, .slice none 0 0, .slice none 0 0, .slice none 0 0]) ?_ 3 _ (by first | rfl | simp [*]); (with_reducible repeat (first | refine blk_drewN ?_ _ | refine blk_drew ?_ | refine blk_alloc ?_ _)); refine blk_put (cs := #[.bool false, .slice none 0 0, .slice none 0 0, .slice none 0 0]) ?_ 2 _ (by first | rfl | simp [*]); (with_reducible repeat (first | refine blk_drewN ?_ _ | refine blk_drew ?_ | refine blk_alloc ?_ _)); refine blk_put (cs := #[.bool false, .slice none 0 0, .slice none 0 0, .slice none 0 0]) ?_ 1 _ (by first | rfl | simp [*]); (with_reducible repeat (first | refine blk_drewN ?_ _ | refine blk_drew ?_ | refine blk_alloc ?_ _)); refine blk_put (cs := #[.bool false, .slice none 0 0, .slice none 0 0, .slice none 0 0]) ?_ 0 _ (by first | rfl | simp [*]); (with_reducible repeat (first | refine blk_drewN ?_ _ | refine blk_drew ?_ | refine blk_alloc ?_ _)); exact BK429.out) Try.underlying26 rfl (by kernel_rfl)) rfl ?_
        exact ⟨_, _, _, by first | rfl | (simp [errW_none, errW_some] <;> rfl) | (simp [*, errW_none, errW_some] <;> rfl), by first | exact Kd.R_nil _ _ _ _ _ | exact Kd.N_nil _ _ _ _ _ | exact Kd.V_nil _ _ _ _ _ | exact Kd.Q_nil _ _ _ _ _ | exact Kd.S_nil _ _ _ _ _, by first | exact Kd.R_nil _ _ _ _ _ | exact Kd.N_nil _ _ _ _ _ | exact Kd.V_nil _ _ _ _ _ | exact Kd.Q_nil _ _ _ _ _ | exact Kd.S_nil _ _ _ _ _, by first | exact Kd.R_nil _ _ _ _ _ | exact Kd.N_nil _ _ _ _ _ | exact Kd.V_nil _ _ _ _ _ | exact Kd.Q_nil _ _ _ _ _ | exact Kd.S_nil _ _ _ _ _, by repeat (first | (with_reducible first | exact HB.out | apply below_alloc | apply pw_below_drewN | apply below_drew1 | refine below_set ?_ GE429.out) | exact HB.out)⟩
      · replace c5 := Bool.eq_false_iff.mpr c5
        subst c5
        have H1 : (if 0 < (a0.size : Int) then (if 1 < (a0.size : Int) then (if 2 ≤ (a0.size : Int) then (if (bt a0 0) = 1 then (cisternref11_DocDecode.l0 kj1 a0 (wrap64 (bt a0 1)) (a0.extract 2 a0.size) 0 ((bt a0 0) == 1) ([] : List (S48))) else (cisternref11_DocDecode.l1 kj1 a0 (wrap64 (bt a0 1)) (a0.extract 2 a0.size) 0 ((bt a0 0) == 1) ([] : List Int))) else (none)) else (none)) else (none)) = some (r1, r2, r3, r4, r5) := by rw [if_neg (show ¬ (false = true) by decide)] at H; exact H
        clear H
        have H := H1
        clear H1
        by_cases c7 : 0 < (a0.size : Int)
        · rw [if_pos c7] at H
          have c7b0 : decide (0 < (a0.size : Int)) = true := decide_eq_true c7
          have c7b1 : decide (0 < a0.size) = true := decide_eq_true (by omega)
          clear c7
          by_cases c9 : 1 < (a0.size : Int)
          · rw [if_pos c9] at H
            have c9b0 : decide (1 < (a0.size : Int)) = true := decide_eq_true c9
            have c9b1 : decide (1 < a0.size) = true := decide_eq_true (by omega)
            clear c9
            by_cases c11 : 2 ≤ (a0.size : Int)
            · rw [if_pos c11] at H
              have c11b0 := eq_true c11
              have c11b1 : decide (2 ≤ (a0.size : Int)) = true := decide_eq_true c11
              clear c11
              have HC12 := Aside0.mk H
              clear H
              try go_wp2
              have n0_ := Aside0.mk (blk_drew BK429.out)
              have n1_ := Aside0.mk (below_drew1 HB.out)
              clear BK429
              clear HB
              have BK429 := n0_
              have HB := n1_
              clear n0_ n1_
              have p8 : 0 ≤ (0 : Int) := (by omega)
              have q8 : 0 < a0.size := (by have : (0 : Int) < (a0.size : Int) := of_decide_eq_true (by first | (with_reducible assumption) | assumption); omega)
              have hx8 : ∀ h : 0 < a0.size, ((a0[0]'h).toNat : Int) = bt a0 0 := bt_at a0 0
              clear p8
              have qi8 : (0 < (a0.size : Int)) = True := eq_true (of_decide_eq_true (by first | (with_reducible assumption) | assumption))
              replace q8 := eq_true q8
              have p10 : 0 ≤ (1 : Int) := (by omega)
              have q10 : 1 < a0.size := (by have : (1 : Int) < (a0.size : Int) := of_decide_eq_true (by first | (with_reducible assumption) | assumption); omega)
              have hx10 : ∀ h : 1 < a0.size, ((a0[1]'h).toNat : Int) = bt a0 1 := bt_at a0 1
              clear p10
              have qi10 : (1 < (a0.size : Int)) = True := eq_true (of_decide_eq_true (by first | (with_reducible assumption) | assumption))
              replace q10 := eq_true q10
              refine start_ (n := 13) (S := fun w' => True) (ds := []) #[false, false, false, false, false, false, false, false, false, false, false, false, false] (by kernel_rfl) rfl rfl trivial (fun hHeld => ?_); refine with_tabW cisternref11_DocDecode.tab3 cisternref11_DocDecode.bits3 (fun HT_ HW_ => ?_)
              generalize wc.drew = w13 at BK429 HB hHeld ⊢
              refine pure_ (i := 0) (N := some 28) (v := ?_) (a' := ?_) #[true, false, false, false, false, false, false, false, false, false, false, false, false] rfl rfl (any_of HT_.out (by kernel_rfl)) (fun _ _ _ h => h) (Or.inl ⟨by rfl, ?_⟩) ?_ ?_
              rotate_left
              · intro w'
                go_simp
                with_reducible rfl
              rotate_left
              · simp only [Act.put, List.setIfInBounds_toArray, List.set_cons_zero, List.set_cons_succ, i64_w, i32_w]
                rfl
              refine pure_ (i := 4) (N := some 32) (v := ?_) (a' := ?_) #[true, false, false, false, true, false, false, false, false, false, false, false, false] rfl rfl (any_of HT_.out (by kernel_rfl)) (fun _ _ _ h => h) (Or.inl ⟨by rfl, ?_⟩) ?_ ?_
              rotate_left
              · intro w'
                go_simp
                with_reducible rfl
              rotate_left
              · simp only [Act.put, List.setIfInBounds_toArray, List.set_cons_zero, List.set_cons_succ, i64_w, i32_w]
                rfl
              refine pure_ (i := 7) (N := some 35) (v := ?_) (a' := ?_) #[true, false, false, false, true, false, false, true, false, false, false, false, false] rfl rfl (any_of HT_.out (by kernel_rfl)) (fun _ _ _ h => h) (Or.inl ⟨by rfl, ?_⟩) ?_ ?_
              rotate_left
              · intro w'
                go_simp
                with_reducible rfl
              rotate_left
              · simp only [Act.put, List.setIfInBounds_toArray, List.set_cons_zero, List.set_cons_succ, i64_w, i32_w]
                rfl
              refine pure_ (i := 8) (N := some 36) (v := ?_) (a' := ?_) #[true, false, false, false, true, false, false, true, true, false, false, false, false] rfl rfl (any_of HT_.out (by kernel_rfl)) (fun _ _ _ h => h) (Or.inl ⟨by rfl, ?_⟩) ?_ ?_
              rotate_left
              · intro w'
                go_simp
                with_reducible rfl
              rotate_left
              · simp only [Act.put, List.setIfInBounds_toArray, List.set_cons_zero, List.set_cons_succ, i64_w, i32_w]
                rfl
              refine take_ (i := 1) (N := some 29) (v := ?_) (a' := ?_) #[true, true, false, false, true, false, false, true, true, false, false, false, false] rfl rfl (take_ofW HT_.out HW_.out (by kernel_rfl)) (fun _ _ _ h => h) (Or.inl ⟨by rfl, ?_⟩) hHeld ?_ ?_
              rotate_left
              · intro w' _
                go_simp
                with_reducible rfl
              rotate_left
              · simp only [Act.put, List.setIfInBounds_toArray, List.set_cons_zero, List.set_cons_succ, i64_w, i32_w]
                rfl
              refine pure_ (i := 2) (N := some 30) (v := ?_) (a' := ?_) #[true, true, true, false, true, false, false, true, true, false, false, false, false] rfl rfl (any_of HT_.out (by kernel_rfl)) (fun _ _ _ h => h) (Or.inl ⟨by rfl, ?_⟩) ?_ ?_
              rotate_left
              · intro w'
                go_simp
                with_reducible rfl
              rotate_left
              · simp only [Act.put, List.setIfInBounds_toArray, List.set_cons_zero, List.set_cons_succ, i64_w, i32_w]
                rfl
              refine pure_ (i := 3) (N := some 31) (v := ?_) (a' := ?_) #[true, true, true, true, true, false, false, true, true, false, false, false, false] rfl rfl (any_of HT_.out (by kernel_rfl)) (fun _ _ _ h => h) (Or.inl ⟨by rfl, ?_⟩) ?_ ?_
              rotate_left
              · intro w'
                go_simp
                with_reducible rfl
              rotate_left
              · simp only [Act.put, List.setIfInBounds_toArray, List.set_cons_zero, List.set_cons_succ, i64_w, i32_w]
                rfl
              refine take_ (i := 5) (N := some 33) (v := ?_) (a' := ?_) #[true, true, true, true, true, true, false, true, true, false, false, false, false] rfl rfl (take_ofW HT_.out HW_.out (by kernel_rfl)) (fun _ _ _ h => h) (Or.inl ⟨by rfl, ?_⟩) hHeld ?_ ?_
              rotate_left
              · intro w' _
                go_simp
                with_reducible rfl
              rotate_left
              · simp only [Act.put, List.setIfInBounds_toArray, List.set_cons_zero, List.set_cons_succ, i64_w, i32_w]
                rfl
              refine pure_ (i := 6) (N := some 34) (v := ?_) (a' := ?_) #[true, true, true, true, true, true, true, true, true, false, false, false, false] rfl rfl (any_of HT_.out (by kernel_rfl)) (fun _ _ _ h => h) (Or.inl ⟨by rfl, ?_⟩) ?_ ?_
              rotate_left
              · intro w'
                go_simp
                with_reducible rfl
              rotate_left
              · simp only [Act.put, List.setIfInBounds_toArray, List.set_cons_zero, List.set_cons_succ, i64_w, i32_w]
                rfl
              refine one_ (i := 9) (N := some 4) #[true, true, true, true, true, true, true, true, true, true, false, false, false] rfl rfl (one_of HT_.out (by kernel_rfl)) (by decide) (fun K hK => ?_)
              refine box_step ?hg (N := 4) ?hd (cs := #[.bool false, .slice none 0 0, .slice none 0 0, .slice none 0 0]) (t := 26) ?hr ?_; (case hd => rfl); (case hg => rfl); (case hr => first | (go_simp; done) | (go_simp; rfl))
              intro gb430 hg w14 hbox hb
              have n0_ := Aside0.mk (blk_below (g := gb429) (o := .cells #[.bool false, .slice none 0 0, .slice none 0 0, .slice none 0 0] 26 (0, 0)) (by (with_reducible repeat (first | refine blk_drewN ?_ _ | refine blk_drew ?_ | refine blk_alloc ?_ _)); exact BK429.out) hb)
              have n1_ := Aside0.mk (below_step (by repeat (first | (with_reducible first | exact HB.out | apply below_alloc | apply pw_below_drewN | apply below_drew1 | refine below_set ?_ GE429.out) | exact HB.out)) hb)
              have n2_ := Aside0.mk (hbox)
              have n3_ := Aside0.mk ((by rw [hg]; exact (below_size (by repeat (first | (with_reducible first | exact HB.out | apply below_alloc | apply pw_below_drewN | apply below_drew1 | refine below_set ?_ GE429.out) | exact HB.out))) : w.heap.size ≤ gb430))
              have n4_ := Aside0.mk ((by rw [hg]; exact (below_size (by repeat (first | (with_reducible first | exact HB.out | apply below_alloc | apply pw_below_drewN | apply below_drew1 | refine below_set ?_ GE429.out) | exact HB.out))) : w.heap.size ≤ gb430))
              have n5_ := Aside0.mk ((by rw [hg]; exact Nat.ne_of_lt (blk_lt (g := gb429) (o := .cells #[.bool false, .slice none 0 0, .slice none 0 0, .slice none 0 0] 26 (0, 0)) (by (with_reducible repeat (first | refine blk_drewN ?_ _ | refine blk_drew ?_ | refine blk_alloc ?_ _)); exact BK429.out)) : gb429 ≠ gb430))
              have n6_ := Aside0.mk ((by rw [hg]; exact Nat.ne_of_gt (blk_lt (g := gb429) (o := .cells #[.bool false, .slice none 0 0, .slice none 0 0, .slice none 0 0] 26 (0, 0)) (by (with_reducible repeat (first | refine blk_drewN ?_ _ | refine blk_drew ?_ | refine blk_alloc ?_ _)); exact BK429.out)) : gb430 ≠ gb429))
              clear BK429
              clear HB
              have BK429 := n0_
              have HB := n1_
              have BK430 := n2_
              have GW430 := n3_
              have GE430 := n4_
              have NB429_430 := n5_
              have NB430_429 := n6_
              clear n0_ n1_ n2_ n3_ n4_ n5_ n6_
              clear hb hbox hg
              refine hK.out _ _ trivial (fun hHeld => ?_)
              clear hK K
              refine norm_ (a' := ?_) ?_ ?_
              rotate_left
              · show Act.put _ (some 4) _ = _
                simp only [Act.put, List.setIfInBounds_toArray, List.set_cons_zero, List.set_cons_succ, i64_w, i32_w]
                rfl
              refine one_ (i := 10) (N := none) #[true, true, true, true, true, true, true, true, true, true, true, false, false] rfl rfl (one_of HT_.out (by kernel_rfl)) (by decide) (fun K hK => ?_)
              have hs15 : w14.cell? ⟨gb430, 0, none⟩ = some (.bool false) := (blk_cell BK430.out 0).trans rfl
              have hfs15 := blk_frozen BK430.out 0
              have hns15_0 := NB429_430.out
              have hms15_0 := NB430_429.out
              have hs16 : w14.cell? ⟨gb430, 1, none⟩ = some (.slice none 0 0) := (blk_cell BK430.out 1).trans rfl
              have hfs16 := blk_frozen BK430.out 1
              have hns16_0 := NB429_430.out
              have hms16_0 := NB430_429.out
              have hs17 : w14.cell? ⟨gb430, 2, none⟩ = some (.slice none 0 0) := (blk_cell BK430.out 2).trans rfl
              have hfs17 := blk_frozen BK430.out 2
              have hns17_0 := NB429_430.out
              have hms17_0 := NB430_429.out
              have hs18 : w14.cell? ⟨gb430, 3, none⟩ = some (.slice none 0 0) := (blk_cell BK430.out 3).trans rfl
              have hfs18 := blk_frozen BK430.out 3
              have hns18_0 := NB429_430.out
              have hms18_0 := NB430_429.out
              refine skip_ (w1 := ?_) (by rfl) rfl ?_ ?_
              rotate_left
              · go_simp
                rfl
              refine hK.out _ _ trivial (fun hHeld => ?_)
              clear hK K
              refine pure_ (i := 11) (N := some 5) (v := ?_) (a' := ?_) #[true, true, true, true, true, true, true, true, true, true, true, true, false] rfl rfl (any_of HT_.out (by kernel_rfl)) (fun _ _ _ h => h) (Or.inl ⟨by rfl, ?_⟩) ?_ ?_
              rotate_left
              · intro w'
                go_simp
                with_reducible rfl
              rotate_left
              · simp only [Act.put, List.setIfInBounds_toArray, List.set_cons_zero, List.set_cons_succ, i64_w, i32_w]
                rfl
              refine pure_ (i := 12) (N := some 6) (v := ?_) (a' := ?_) #[true, true, true, true, true, true, true, true, true, true, true, true, true] rfl rfl (any_of HT_.out (by kernel_rfl)) (fun _ _ _ h => h) (Or.inl ⟨by rfl, ?_⟩) ?_ ?_
              rotate_left
              · intro w'
                go_simp
                with_reducible rfl
              rotate_left
              · simp only [Act.put, List.setIfInBounds_toArray, List.set_cons_zero, List.set_cons_succ, i64_w, i32_w]
                rfl
              refine done_ (done_of HT_.out (by kernel_rfl)) ?_
              have hnb19 := NB430_429.out
              have hnc19 := NB429_430.out
              have hcz20_0 : w14.cell? ⟨gb430, 0, none⟩ = some (.bool false) := (blk_cell BK430.out 0).trans rfl
              have hcz20_1 : w14.cell? ⟨gb430, 1, none⟩ = some (.slice none 0 0) := (blk_cell BK430.out 1).trans rfl
              have hcz20_2 : w14.cell? ⟨gb430, 2, none⟩ = some (.slice none 0 0) := (blk_cell BK430.out 2).trans rfl
              have hcz20_3 : w14.cell? ⟨gb430, 3, none⟩ = some (.slice none 0 0) := (blk_cell BK430.out 3).trans rfl
              have hfz20_0 := blk_frozen BK430.out 0
              have hfz20_1 := blk_frozen BK430.out 1
              have hfz20_2 := blk_frozen BK430.out 2
              have hfz20_3 := blk_frozen BK430.out 3
              go_upto_if 38 with (fail)
              go_cut [] (fun wc => ∃ (kq : Nat) (x430000_11 : Bool) (x431001_11 : List (S48)) (x431002_11 : List ByteArray) (x431003_11 : List Int) (u431001 : Value) (u431002 : Value) (u431003 : Value), Aside0 (cisternref11_DocDecode.j4 kq a0 ((bt a0 0) == 1) x431001_11 x431002_11 x431003_11 = some (r1, r2, r3, r4, r5)) ∧ Aside0 (kq ≤ kj1) ∧ Aside0 (Kd.R k48 48 wc w.heap.size (fun _ => True) u431001 x431001_11) ∧ Aside0 (Kd.R Kd.string 9 wc w.heap.size (fun _ => True) u431002 x431002_11) ∧ Aside0 (Kd.R (Kd.int .i64) 3 wc w.heap.size (fun _ => True) u431003 x431003_11) ∧ Aside0 (wc.heap[gb429]? = some (.cells #[.bool x430000_11, (.slice none 0 0), (.slice none 0 0), (.slice none 0 0)] 26 (0, 0))) ∧ Aside0 (wc.heap[gb430]? = some (.cells #[.bool ((bt a0 0) == 1), u431001, u431002, u431003] 26 (0, 0))) ∧ Aside0 (Below w.heap.size w wc))
              case first =>
                have H := HC12.out
                clear HC12
                by_cases c21 : (bt a0 0) = 1
                · rw [if_pos c21] at H
                  have c21b0 : ((bt a0 0) == 1) = true := beq_iff_eq.mpr c21
                  have c21b1 : ((bt a0 0) != 1) = false := bne_eq_false_iff_eq.mpr c21
                  clear c21
                  (first | rw [c21b0] | (simp only [i64_w, i32_w]; rw [c21b0]) | skip)
                  have H' := Aside0.mk H
                  clear H
                  go_wp2
                  go_loopg [6, 7] kj1 (fun kq v6 v7 w' => ∃ (x6_2 : ByteArray) (x7_2 : Int) (x430000_2 : Bool) (x431001_2 : List (S48)) (u431001 : Value), v6 = .string x6_2 ∧ v7 = .int .i64 x7_2 ∧ Aside0 (cisternref11_DocDecode.l0 kq a0 (wrap64 (bt a0 1)) x6_2 x7_2 ((bt a0 0) == 1) x431001_2 = some (r1, r2, r3, r4, r5)) ∧ Aside0 (kq ≤ kj1) ∧ Aside0 (Kd.R k48 48 w' w.heap.size (fun _ => True) u431001 x431001_2) ∧ Aside0 (w'.heap[gb429]? = some (.cells #[.bool x430000_2, (.slice none 0 0), (.slice none 0 0), (.slice none 0 0)] 26 (0, 0))) ∧ Aside0 (w'.heap[gb430]? = some (.cells #[.bool ((bt a0 0) == 1), u431001, (.slice none 0 0), (.slice none 0 0)] 26 (0, 0))) ∧ Aside0 (Below w.heap.size w w'))
                  case atStart => exact ⟨(a0.extract 2 a0.size), (0), (false), (([] : List (S48))), (.slice none 0 0), (by first | rfl | (simp; done) | (simp [*]; done)), (by first | rfl | (simp; done) | (simp [*]; done)), H', ⟨Nat.le_refl _⟩, ⟨by first | exact Kd.R_nil _ _ _ _ _ | exact Kd.N_nil _ _ _ _ _ | exact Kd.V_nil _ _ _ _ _ | exact Kd.Q_nil _ _ _ _ _ | exact Kd.S_nil _ _ _ _ _⟩, ⟨by (with_reducible repeat (first | refine blk_drewN ?_ _ | refine blk_drew ?_ | refine blk_alloc ?_ _)); refine blk_far ?_ NB429_430.out _; (with_reducible repeat (first | refine blk_drewN ?_ _ | refine blk_drew ?_ | refine blk_alloc ?_ _)); refine blk_far ?_ NB429_430.out _; (with_reducible repeat (first | refine blk_drewN ?_ _ | refine blk_drew ?_ | refine blk_alloc ?_ _)); refine blk_far ?_ NB429_430.out _; (with_reducible repeat (first | refine blk_drewN ?_ _ | refine blk_drew ?_ | refine blk_alloc ?_ _)); refine blk_far ?_ NB429_430.out _; (with_reducible repeat (first | refine blk_drewN ?_ _ | refine blk_drew ?_ | refine blk_alloc ?_ _)); exact BK429.out⟩, ⟨by (with_reducible repeat (first | refine blk_drewN ?_ _ | refine blk_drew ?_ | refine blk_alloc ?_ _)); refine blk_put (cs := #[.bool ((bt a0 0) == 1), .slice none 0 0, .slice none 0 0, .slice none 0 0]) ?_ 3 _ (by first | rfl | simp [*]); (with_reducible repeat (first | refine blk_drewN ?_ _ | refine blk_drew ?_ | refine blk_alloc ?_ _)); refine blk_put (cs := #[.bool ((bt a0 0) == 1), .slice none 0 0, .slice none 0 0, .slice none 0 0]) ?_ 2 _ (by first | rfl | simp [*]); (with_reducible repeat (first | refine blk_drewN ?_ _ | refine blk_drew ?_ | refine blk_alloc ?_ _)); refine blk_put (cs := #[.bool ((bt a0 0) == 1), .slice none 0 0, .slice none 0 0, .slice none 0 0]) ?_ 1 _ (by first | rfl | simp [*]); (with_reducible repeat (first | refine blk_drewN ?_ _ | refine blk_drew ?_ | refine blk_alloc ?_ _)); refine blk_put (cs := #[.bool false, .slice none 0 0, .slice none 0 0, .slice none 0 0]) ?_ 0 _ (by first | rfl | simp [*]); (with_reducible repeat (first | refine blk_drewN ?_ _ | refine blk_drew ?_ | refine blk_alloc ?_ _)); exact BK430.out⟩, ⟨by repeat (first | (with_reducible first | exact HB.out | apply below_alloc | apply pw_below_drewN | apply below_drew1 | refine below_set ?_ GE429.out | refine below_set ?_ GE430.out) | exact HB.out)⟩⟩
                  case round =>
                    clear H'
                    try clear c1
                    try clear p1
                    try clear q1
                    try clear hx1
                    try clear qi1
                    try clear c2
                    try clear p2
                    try clear c4
                    try clear c4b0
                    try clear c4b1
                    try clear c5
                    try clear p6
                    try clear c7
                    try clear c7b0
                    try clear c7b1
                    try clear p8
                    try clear q8
                    try clear hx8
                    try clear qi8
                    try clear c9
                    try clear c9b0
                    try clear c9b1
                    try clear p10
                    try clear q10
                    try clear hx10
                    try clear qi10
                    try clear c11
                    try clear c11b0
                    try clear c11b1
                    try clear c19
                    try clear c21
                    try clear c21b0
                    try clear c21b1
                    try clear hcz20_0
                    try clear hcz20_1
                    try clear hcz20_2
                    try clear hcz20_3
                    try clear hcz6_0
                    try clear hcz6_1
                    try clear hcz6_2
                    try clear hcz6_3
                    try clear hfz20_0
                    try clear hfz20_1
                    try clear hfz20_2
                    try clear hfz20_3
                    try clear hfz6_0
                    try clear hfz6_1
                    try clear hfz6_2
                    try clear hfz6_3
                    try clear p10
                    try clear p2
                    try clear p8
                    try clear q10
                    try clear q8
                    obtain ⟨x6_2, x7_2, x430000_2, x431001_2, u431001, rfl, rfl, HA, HK2, HO_431001, BK429, BK430, HB⟩ := hrel
                    cases gk with
                    | zero => exact absurd HA.out (by simp [cisternref11_DocDecode.l0])
                    | succ k2 =>
                      have H := HA.out
                      clear HA
                      simp only [cisternref11_DocDecode.l0] at H
                      by_cases c22 : x7_2 < (wrap64 (bt a0 1))
                      · rw [if_pos c22] at H
                        have c22b0 : decide (x7_2 < (wrap64 (bt a0 1))) = true := decide_eq_true c22
                        clear c22
                        replace H := Option.bind_eq_some_iff.mp H
                        obtain ⟨⟨t431, t432, t433⟩, A230, H⟩ := H
                        replace H : ((cisternref11_take.f t432).bind fun bt434 => (if t433 = true then (if bt434.2.2 = true then (if x431001_2.length < 4398046511104 then (cisternref11_DocDecode.l0 k2 a0 (wrap64 (bt a0 1)) bt434.2.1 (wrap64 (x7_2 + 1)) ((bt a0 0) == 1) (x431001_2 ++ [(⟨t431, bt434.1⟩ : S48)])) else (none)) else (some (false, ([] : List (S48)), ([] : List ByteArray), ([] : List Int), 2))) else (some (false, ([] : List (S48)), ([] : List ByteArray), ([] : List Int), 2)))) = some (r1, r2, r3, r4, r5) := H
                        have A23 := Aside0.mk A230
                        clear A230
                        replace H := Option.bind_eq_some_iff.mp H
                        obtain ⟨⟨t434, t435, t436⟩, A240, H⟩ := H
                        replace H : (if t433 = true then (if t436 = true then (if x431001_2.length < 4398046511104 then (cisternref11_DocDecode.l0 k2 a0 (wrap64 (bt a0 1)) t435 (wrap64 (x7_2 + 1)) ((bt a0 0) == 1) (x431001_2 ++ [(⟨t431, t434⟩ : S48)])) else (none)) else (some (false, ([] : List (S48)), ([] : List ByteArray), ([] : List Int), 2))) else (some (false, ([] : List (S48)), ([] : List ByteArray), ([] : List Int), 2))) = some (r1, r2, r3, r4, r5) := H
                        have A24 := Aside0.mk A240
                        clear A240
                        by_cases c25 : t433 = true
                        · subst c25
                          have H1 : (if t436 = true then (if x431001_2.length < 4398046511104 then (cisternref11_DocDecode.l0 k2 a0 (wrap64 (bt a0 1)) t435 (wrap64 (x7_2 + 1)) ((bt a0 0) == 1) (x431001_2 ++ [(⟨t431, t434⟩ : S48)])) else (none)) else (some (false, ([] : List (S48)), ([] : List ByteArray), ([] : List Int), 2))) = some (r1, r2, r3, r4, r5) := by rw [if_pos rfl] at H; exact H
                          clear H
                          have H := H1
                          clear H1
                          by_cases c26 : t436 = true
                          · subst c26
                            have H1 : (if x431001_2.length < 4398046511104 then (cisternref11_DocDecode.l0 k2 a0 (wrap64 (bt a0 1)) t435 (wrap64 (x7_2 + 1)) ((bt a0 0) == 1) (x431001_2 ++ [(⟨t431, t434⟩ : S48)])) else (none)) = some (r1, r2, r3, r4, r5) := by rw [if_pos rfl] at H; exact H
                            clear H
                            have H := H1
                            clear H1
                            by_cases c27 : x431001_2.length < 4398046511104
                            · rw [if_pos c27] at H
                              have LMc27 := Aside0.mk c27
                              clear c27
                              obtain ⟨y437, hy437⟩ : ∃ y_ : List (S48), y_ = (x431001_2 ++ [(⟨t431, t434⟩ : S48)]) := ⟨_, rfl⟩
                              replace H : (cisternref11_DocDecode.l0 k2 a0 (wrap64 (bt a0 1)) t435 (wrap64 (x7_2 + 1)) ((bt a0 0) == 1) y437) = some (r1, r2, r3, r4, r5) := by first | (rw [hy437]; with_reducible exact H) | (have H2_ := (Option.bind_some _ _).symm.trans H; rw [hy437]; with_reducible exact H2_) | (have H2_ := (Option.bind_some _ _).symm.trans H; with_reducible exact H2_) | with_reducible exact H | (rw [hy437]; exact H) | exact H
                              have Ny437 := Aside0.mk hy437
                              clear hy437
                              have H' := Aside0.mk H
                              clear H
                              go_wp2_with (first | ((with_reducible refine gate_callee (f := 50) rfl ?_); refine goesL_ (some 46) rfl rfl Try.func50 (by kernel_rfl) rfl #[.string x6_2] rfl (by (try simp only [List.map_toArray, List.map_cons, List.map_nil]); first | done | rfl | (simp only [List.length_drop, List.length_take]; rfl)) ?_; (with_reducible refine (cisternref11_take.calls x6_2 t431 t432 true _ A23.out).mono ?_); rintro e w' ⟨rfl, ⟨nd, rfl⟩⟩; refine ⟨_, rfl, ?_⟩; (try (rw [drewN_self wr]; generalize hq_ : World.drewN wr _ = wr; have n0_ : Aside0 (Kd.R k48 48 wr w.heap.size (fun _ => True) u431001 x431001_2) := ⟨by rw [← hq_]; exact (by (with_reducible repeat (first | apply Kd.R_alloc | apply Kd.R_drewN | apply Kd.R_drew)); exact HO_431001.out)⟩; have n1_ : Aside0 (wr.heap[gb429]? = some (.cells #[.bool x430000_2, .slice none 0 0, .slice none 0 0, .slice none 0 0] 26 (0, 0))) := ⟨by rw [← hq_]; exact (by (with_reducible repeat (first | refine blk_drewN ?_ _ | refine blk_drew ?_ | refine blk_alloc ?_ _)); exact BK429.out)⟩; have n2_ : Aside0 (wr.heap[gb430]? = some (.cells #[.bool ((bt a0 0) == 1), u431001, .slice none 0 0, .slice none 0 0] 26 (0, 0))) := ⟨by rw [← hq_]; exact (by (with_reducible repeat (first | refine blk_drewN ?_ _ | refine blk_drew ?_ | refine blk_alloc ?_ _)); exact BK430.out)⟩; have n3_ : Aside0 (Below w.heap.size w wr) := ⟨by rw [← hq_]; exact (by repeat (first | (with_reducible first | exact HB.out | apply below_alloc | apply pw_below_drewN | apply below_drew1 | refine below_set ?_ GE429.out | refine below_set ?_ GE430.out) | exact HB.out))⟩; clear HO_431001 BK429 BK430 HB hq_; have HO_431001 := n0_; have BK429 := n1_; have BK430 := n2_; have HB := n3_; clear n0_ n1_ n2_ n3_))) | ((with_reducible refine gate_callee (f := 50) rfl ?_); refine goesL_ (some 52) rfl rfl Try.func50 (by kernel_rfl) rfl #[.string t432] rfl (by (try simp only [List.map_toArray, List.map_cons, List.map_nil]); first | done | rfl | (simp only [List.length_drop, List.length_take]; rfl)) ?_; (with_reducible refine (cisternref11_take.calls t432 t434 t435 true _ A24.out).mono ?_); rintro e w' ⟨rfl, ⟨nd, rfl⟩⟩; refine ⟨_, rfl, ?_⟩; (try (rw [drewN_self wr]; generalize hq_ : World.drewN wr _ = wr; have n0_ : Aside0 (Kd.R k48 48 wr w.heap.size (fun _ => True) u431001 x431001_2) := ⟨by rw [← hq_]; exact (by (with_reducible repeat (first | apply Kd.R_alloc | apply Kd.R_drewN | apply Kd.R_drew)); exact HO_431001.out)⟩; have n1_ : Aside0 (wr.heap[gb429]? = some (.cells #[.bool x430000_2, .slice none 0 0, .slice none 0 0, .slice none 0 0] 26 (0, 0))) := ⟨by rw [← hq_]; exact (by (with_reducible repeat (first | refine blk_drewN ?_ _ | refine blk_drew ?_ | refine blk_alloc ?_ _)); exact BK429.out)⟩; have n2_ : Aside0 (wr.heap[gb430]? = some (.cells #[.bool ((bt a0 0) == 1), u431001, .slice none 0 0, .slice none 0 0] 26 (0, 0))) := ⟨by rw [← hq_]; exact (by (with_reducible repeat (first | refine blk_drewN ?_ _ | refine blk_drew ?_ | refine blk_alloc ?_ _)); exact BK430.out)⟩; have n3_ : Aside0 (Below w.heap.size w wr) := ⟨by rw [← hq_]; exact (by repeat (first | (with_reducible first | exact HB.out | apply below_alloc | apply pw_below_drewN | apply below_drew1 | refine below_set ?_ GE429.out | refine below_set ?_ GE430.out) | exact HB.out))⟩; clear HO_431001 BK429 BK430 HB hq_; have HO_431001 := n0_; have BK429 := n1_; have BK430 := n2_; have HB := n3_; clear n0_ n1_ n2_ n3_)); have hnb28 := NB430_429.out; have hnc28 := NB429_430.out; have hcz29_0 : wr.cell? ⟨gb430, 0, none⟩ = some (.bool ((bt a0 0) == 1)) := (blk_cell BK430.out 0).trans rfl; have hcz29_1 : wr.cell? ⟨gb430, 1, none⟩ = some (u431001) := (blk_cell BK430.out 1).trans rfl; have hcz29_2 : wr.cell? ⟨gb430, 2, none⟩ = some (.slice none 0 0) := (blk_cell BK430.out 2).trans rfl; have hcz29_3 : wr.cell? ⟨gb430, 3, none⟩ = some (.slice none 0 0) := (blk_cell BK430.out 3).trans rfl; have hfz29_0 := blk_frozen BK430.out 0; have hfz29_1 := blk_frozen BK430.out 1; have hfz29_2 := blk_frozen BK430.out 2; have hfz29_3 := blk_frozen BK430.out 3) | ((with_reducible refine gate_builtin (b := .append) (xs := #[.tmp 64, .tmp 68]) rfl ?_); (try (refine gate_guard (by rfl) ?_; dsimp only)); at_builtin; refine Kd.R_append k48 (w0 := w) w.heap.size rfl (.tmp 64) (.tmp 68) 22 48 (.agg #[(.string ⟨#[]⟩), (.string ⟨#[]⟩)]) 32 rfl Try.underlying22 info48 rfl (by decide) (by omega) u431001 x431001_2 (⟨t431, t434⟩ : S48) [.string t431, .string t434] (fun _ => True) (fun _ => False) rfl rfl ?aP (fun _ hk => hk.elim) ?aF ?aO ?aB ?aS ?aL ?_; (case aP => exact k48_mkM _ _ _ (⟨t431, t434⟩ : S48)); (case aB => exact (by repeat (first | (with_reducible first | exact HB.out | apply below_alloc | apply pw_below_drewN | apply below_drew1 | refine below_set ?_ GE429.out | refine below_set ?_ GE430.out) | exact HB.out))); (case aF => exact (fun _ _ => trivial)); (case aO => exact (by (with_reducible repeat (first | apply Kd.R_alloc | apply Kd.R_drewN | apply Kd.R_drew)); exact HO_431001.out)); (case aS => exact (below_size (by repeat (first | (with_reducible first | exact HB.out | apply below_alloc | apply pw_below_drewN | apply below_drew1 | refine below_set ?_ GE429.out | refine below_set ?_ GE430.out) | exact HB.out)))); (case aL => have := LMc27.out; omega); intro v438 w30 ho hb hg hat; rw [← Ny437.out] at ho; have n0_ := Aside0.mk (blk_grown (g := gb429) (o := .cells #[.bool x430000_2, .slice none 0 0, .slice none 0 0, .slice none 0 0] 26 (0, 0)) (by (with_reducible repeat (first | refine blk_drewN ?_ _ | refine blk_drew ?_ | refine blk_alloc ?_ _)); exact BK429.out) hg (Kd.R_ne HO_431001.out BK429.out (by decide))); have n1_ := Aside0.mk (blk_grown (g := gb430) (o := .cells #[.bool ((bt a0 0) == 1), u431001, .slice none 0 0, .slice none 0 0] 26 (0, 0)) (by (with_reducible repeat (first | refine blk_drewN ?_ _ | refine blk_drew ?_ | refine blk_alloc ?_ _)); exact BK430.out) hg (Kd.R_ne HO_431001.out BK430.out (by decide))); have n2_ := Aside0.mk (hb); have n3_ := Aside0.mk (ho); clear BK429; clear BK430; clear HB; clear HO_431001; have BK429 := n0_; have BK430 := n1_; have HB := n2_; have HO439 := n3_; clear n0_ n1_ n2_ n3_; clear ho hb hg hat; obtain ⟨Ao31, co31, eo31⟩ := Kd.R_slice HO439.out; subst eo31; have hcz32_0 : w30.cell? ⟨gb430, 0, none⟩ = some (.bool ((bt a0 0) == 1)) := (blk_cell BK430.out 0).trans rfl; have hcz32_1 : w30.cell? ⟨gb430, 1, none⟩ = some (u431001) := (blk_cell BK430.out 1).trans rfl; have hcz32_2 : w30.cell? ⟨gb430, 2, none⟩ = some (.slice none 0 0) := (blk_cell BK430.out 2).trans rfl; have hcz32_3 : w30.cell? ⟨gb430, 3, none⟩ = some (.slice none 0 0) := (blk_cell BK430.out 3).trans rfl; have hfz32_0 := blk_frozen BK430.out 0; have hfz32_1 := blk_frozen BK430.out 1; have hfz32_2 := blk_frozen BK430.out 2; have hfz32_3 := blk_frozen BK430.out 3))
                              go_roundg k2
                              case measure => have := HJ1.out; have := HK2.out; omega
                              case rel => exact ⟨(t435), (wrap64 (x7_2 + 1)), (x430000_2), (y437), (.slice Ao31 y437.length co31), (by first | rfl | (simp; done) | (simp [*]; done)), (by first | rfl | (simp; done) | (simp [*]; done)), H', ⟨by have := HJ1.out; have := HK2.out; omega⟩, ⟨by (with_reducible repeat (first | apply Kd.R_alloc | apply Kd.R_drewN | apply Kd.R_drew)); exact Kd.R_mono (Kd.R_far (p := ⟨gb430, 1, none⟩) (Kd.R_types HO439.out BK430.out (by decide)) (fun _ hk => hk.2) (.slice Ao31 y437.length co31)) (fun _ hk => trivial)⟩, ⟨by (with_reducible repeat (first | refine blk_drewN ?_ _ | refine blk_drew ?_ | refine blk_alloc ?_ _)); refine blk_far ?_ NB429_430.out _; (with_reducible repeat (first | refine blk_drewN ?_ _ | refine blk_drew ?_ | refine blk_alloc ?_ _)); exact BK429.out⟩, ⟨by (with_reducible repeat (first | refine blk_drewN ?_ _ | refine blk_drew ?_ | refine blk_alloc ?_ _)); refine blk_put (cs := #[.bool ((bt a0 0) == 1), u431001, .slice none 0 0, .slice none 0 0]) ?_ 1 _ (by first | rfl | simp [*]); (with_reducible repeat (first | refine blk_drewN ?_ _ | refine blk_drew ?_ | refine blk_alloc ?_ _)); exact BK430.out⟩, ⟨by repeat (first | (with_reducible first | exact HB.out | apply below_alloc | apply pw_below_drewN | apply below_drew1 | refine below_set ?_ GE429.out | refine below_set ?_ GE430.out) | exact HB.out)⟩⟩
                            · rw [if_neg c27] at H
                              exact absurd H (by simp)
                          · replace c26 := Bool.eq_false_iff.mpr c26
                            subst c26
                            have H1 : (some (false, ([] : List (S48)), ([] : List ByteArray), ([] : List Int), 2)) = some (r1, r2, r3, r4, r5) := by rw [if_neg (show ¬ (false = true) by decide)] at H; exact H
                            clear H
                            have H := H1
                            clear H1
                            simp only [Option.some.injEq, Prod.mk.injEq] at H
                            obtain ⟨rfl, rfl, rfl, rfl, rfl⟩ := H
                            go_wp2_with (first | ((with_reducible refine gate_callee (f := 50) rfl ?_); refine goesL_ (some 46) rfl rfl Try.func50 (by kernel_rfl) rfl #[.string x6_2] rfl (by (try simp only [List.map_toArray, List.map_cons, List.map_nil]); first | done | rfl | (simp only [List.length_drop, List.length_take]; rfl)) ?_; (with_reducible refine (cisternref11_take.calls x6_2 t431 t432 true _ A23.out).mono ?_); rintro e w' ⟨rfl, ⟨nd, rfl⟩⟩; refine ⟨_, rfl, ?_⟩; (try (rw [drewN_self wr]; generalize hq_ : World.drewN wr _ = wr; have n0_ : Aside0 (Kd.R k48 48 wr w.heap.size (fun _ => True) u431001 x431001_2) := ⟨by rw [← hq_]; exact (by (with_reducible repeat (first | apply Kd.R_alloc | apply Kd.R_drewN | apply Kd.R_drew)); exact HO_431001.out)⟩; have n1_ : Aside0 (wr.heap[gb429]? = some (.cells #[.bool x430000_2, .slice none 0 0, .slice none 0 0, .slice none 0 0] 26 (0, 0))) := ⟨by rw [← hq_]; exact (by (with_reducible repeat (first | refine blk_drewN ?_ _ | refine blk_drew ?_ | refine blk_alloc ?_ _)); exact BK429.out)⟩; have n2_ : Aside0 (wr.heap[gb430]? = some (.cells #[.bool ((bt a0 0) == 1), u431001, .slice none 0 0, .slice none 0 0] 26 (0, 0))) := ⟨by rw [← hq_]; exact (by (with_reducible repeat (first | refine blk_drewN ?_ _ | refine blk_drew ?_ | refine blk_alloc ?_ _)); exact BK430.out)⟩; have n3_ : Aside0 (Below w.heap.size w wr) := ⟨by rw [← hq_]; exact (by repeat (first | (with_reducible first | exact HB.out | apply below_alloc | apply pw_below_drewN | apply below_drew1 | refine below_set ?_ GE429.out | refine below_set ?_ GE430.out) | exact HB.out))⟩; clear HO_431001 BK429 BK430 HB hq_; have HO_431001 := n0_; have BK429 := n1_; have BK430 := n2_; have HB := n3_; clear n0_ n1_ n2_ n3_))) | ((with_reducible refine gate_callee (f := 50) rfl ?_); refine goesL_ (some 52) rfl rfl Try.func50 (by kernel_rfl) rfl #[.string t432] rfl (by (try simp only [List.map_toArray, List.map_cons, List.map_nil]); first | done | rfl | (simp only [List.length_drop, List.length_take]; rfl)) ?_; (with_reducible refine (cisternref11_take.calls t432 t434 t435 false _ A24.out).mono ?_); rintro e w' ⟨rfl, ⟨nd, rfl⟩⟩; refine ⟨_, rfl, ?_⟩; (try (rw [drewN_self wr]; generalize hq_ : World.drewN wr _ = wr; have n0_ : Aside0 (Kd.R k48 48 wr w.heap.size (fun _ => True) u431001 x431001_2) := ⟨by rw [← hq_]; exact (by (with_reducible repeat (first | apply Kd.R_alloc | apply Kd.R_drewN | apply Kd.R_drew)); exact HO_431001.out)⟩; have n1_ : Aside0 (wr.heap[gb429]? = some (.cells #[.bool x430000_2, .slice none 0 0, .slice none 0 0, .slice none 0 0] 26 (0, 0))) := ⟨by rw [← hq_]; exact (by (with_reducible repeat (first | refine blk_drewN ?_ _ | refine blk_drew ?_ | refine blk_alloc ?_ _)); exact BK429.out)⟩; have n2_ : Aside0 (wr.heap[gb430]? = some (.cells #[.bool ((bt a0 0) == 1), u431001, .slice none 0 0, .slice none 0 0] 26 (0, 0))) := ⟨by rw [← hq_]; exact (by (with_reducible repeat (first | refine blk_drewN ?_ _ | refine blk_drew ?_ | refine blk_alloc ?_ _)); exact BK430.out)⟩; have n3_ : Aside0 (Below w.heap.size w wr) := ⟨by rw [← hq_]; exact (by repeat (first | (with_reducible first | exact HB.out | apply below_alloc | apply pw_below_drewN | apply below_drew1 | refine below_set ?_ GE429.out | refine below_set ?_ GE430.out) | exact HB.out))⟩; clear HO_431001 BK429 BK430 HB hq_; have HO_431001 := n0_; have BK429 := n1_; have BK430 := n2_; have HB := n3_; clear n0_ n1_ n2_ n3_)); have hnb33 := NB429_430.out; have hnc33 := NB430_429.out; have hcz34_0 : wr.cell? ⟨gb429, 0, none⟩ = some (.bool x430000_2) := (blk_cell BK429.out 0).trans rfl; have hcz34_1 : wr.cell? ⟨gb429, 1, none⟩ = some (.slice none 0 0) := (blk_cell BK429.out 1).trans rfl; have hcz34_2 : wr.cell? ⟨gb429, 2, none⟩ = some (.slice none 0 0) := (blk_cell BK429.out 2).trans rfl; have hcz34_3 : wr.cell? ⟨gb429, 3, none⟩ = some (.slice none 0 0) := (blk_cell BK429.out 3).trans rfl; have hfz34_0 := blk_frozen BK429.out 0; have hfz34_1 := blk_frozen BK429.out 1; have hfz34_2 := blk_frozen BK429.out 2; have hfz34_3 := blk_frozen BK429.out 3))
                            refine bodyPost_ret (results_ct rfl _ _ gb429 26 #[.bool false, .slice none 0 0, .slice none 0 0, .slice none 0 0] (0, 0) _ rfl (by (with_reducible repeat (first | refine blk_drewN ?_ _ | refine blk_drew ?_ | refine blk_alloc ?_ _)); refine blk_put (cs := #[.bool false, .slice none 0 0, .slice none 0 0, .slice none 0 0]) ?_ 3 _ (by first | rfl | simp [*]); (with_reducible repeat (first | refine blk_drewN ?_ _ | refine blk_drew ?_ | refine blk_alloc ?_ _)); refine blk_put (cs := #[.bool false, .slice none 0 0, .slice none 0 0, .slice none 0 0]) ?_ 2 _ (by first | rfl | simp [*]); (with_reducible repeat (first | refine blk_drewN ?_ _ | refine blk_drew ?_ | refine blk_alloc ?_ _)); refine blk_put (cs := #[.bool false, .slice none 0 0, .slice none 0 0, .slice none 0 0]) ?_ 1 _ (by first | rfl | simp [*]); (with_reducible repeat (first | refine blk_drewN ?_ _ | refine blk_drew ?_ | refine blk_alloc ?_ _)); refine blk_put (cs := #[.bool x430000_2, .slice none 0 0, .slice none 0 0, .slice none 0 0]) ?_ 0 _ (by first | rfl | simp [*]); (with_reducible repeat (first | refine blk_drewN ?_ _ | refine blk_drew ?_ | refine blk_alloc ?_ _)); exact BK429.out) Try.underlying26 rfl (by kernel_rfl)) rfl ?_
                            exact ⟨_, _, _, by first | rfl | (simp [errW_none, errW_some] <;> rfl) | (simp [*, errW_none, errW_some] <;> rfl), by first | exact Kd.R_nil _ _ _ _ _ | exact Kd.N_nil _ _ _ _ _ | exact Kd.V_nil _ _ _ _ _ | exact Kd.Q_nil _ _ _ _ _ | exact Kd.S_nil _ _ _ _ _, by first | exact Kd.R_nil _ _ _ _ _ | exact Kd.N_nil _ _ _ _ _ | exact Kd.V_nil _ _ _ _ _ | exact Kd.Q_nil _ _ _ _ _ | exact Kd.S_nil _ _ _ _ _, by first | exact Kd.R_nil _ _ _ _ _ | exact Kd.N_nil _ _ _ _ _ | exact Kd.V_nil _ _ _ _ _ | exact Kd.Q_nil _ _ _ _ _ | exact Kd.S_nil _ _ _ _ _, by repeat (first | (with_reducible first | exact HB.out | apply below_alloc | apply pw_below_drewN | apply below_drew1 | refine below_set ?_ GE429.out | refine below_set ?_ GE430.out) | exact HB.out)⟩
                        · replace c25 := Bool.eq_false_iff.mpr c25
                          subst c25
                          have H1 : (some (false, ([] : List (S48)), ([] : List ByteArray), ([] : List Int), 2)) = some (r1, r2, r3, r4, r5) := by rw [if_neg (show ¬ (false = true) by decide)] at H; exact H
                          clear H
                          have H := H1
                          clear H1
                          simp only [Option.some.injEq, Prod.mk.injEq] at H
                          obtain ⟨rfl, rfl, rfl, rfl, rfl⟩ := H
                          go_wp2_with (first | ((with_reducible refine gate_callee (f := 50) rfl ?_); refine goesL_ (some 46) rfl rfl Try.func50 (by kernel_rfl) rfl #[.string x6_2] rfl (by (try simp only [List.map_toArray, List.map_cons, List.map_nil]); first | done | rfl | (simp only [List.length_drop, List.length_take]; rfl)) ?_; (with_reducible refine (cisternref11_take.calls x6_2 t431 t432 false _ A23.out).mono ?_); rintro e w' ⟨rfl, ⟨nd, rfl⟩⟩; refine ⟨_, rfl, ?_⟩; (try (rw [drewN_self wr]; generalize hq_ : World.drewN wr _ = wr; have n0_ : Aside0 (Kd.R k48 48 wr w.heap.size (fun _ => True) u431001 x431001_2) := ⟨by rw [← hq_]; exact (by (with_reducible repeat (first | apply Kd.R_alloc | apply Kd.R_drewN | apply Kd.R_drew)); exact HO_431001.out)⟩; have n1_ : Aside0 (wr.heap[gb429]? = some (.cells #[.bool x430000_2, .slice none 0 0, .slice none 0 0, .slice none 0 0] 26 (0, 0))) := ⟨by rw [← hq_]; exact (by (with_reducible repeat (first | refine blk_drewN ?_ _ | refine blk_drew ?_ | refine blk_alloc ?_ _)); exact BK429.out)⟩; have n2_ : Aside0 (wr.heap[gb430]? = some (.cells #[.bool ((bt a0 0) == 1), u431001, .slice none 0 0, .slice none 0 0] 26 (0, 0))) := ⟨by rw [← hq_]; exact (by (with_reducible repeat (first | refine blk_drewN ?_ _ | refine blk_drew ?_ | refine blk_alloc ?_ _)); exact BK430.out)⟩; have n3_ : Aside0 (Below w.heap.size w wr) := ⟨by rw [← hq_]; exact (by repeat (first | (with_reducible first | exact HB.out | apply below_alloc | apply pw_below_drewN | apply below_drew1 | refine below_set ?_ GE429.out | refine below_set ?_ GE430.out) | exact HB.out))⟩; clear HO_431001 BK429 BK430 HB hq_; have HO_431001 := n0_; have BK429 := n1_; have BK430 := n2_; have HB := n3_; clear n0_ n1_ n2_ n3_))) | ((with_reducible refine gate_callee (f := 50) rfl ?_); refine goesL_ (some 52) rfl rfl Try.func50 (by kernel_rfl) rfl #[.string t432] rfl (by (try simp only [List.map_toArray, List.map_cons, List.map_nil]); first | done | rfl | (simp only [List.length_drop, List.length_take]; rfl)) ?_; (with_reducible refine (cisternref11_take.calls t432 t434 t435 t436 _ A24.out).mono ?_); rintro e w' ⟨rfl, ⟨nd, rfl⟩⟩; refine ⟨_, rfl, ?_⟩; (try (rw [drewN_self wr]; generalize hq_ : World.drewN wr _ = wr; have n0_ : Aside0 (Kd.R k48 48 wr w.heap.size (fun _ => True) u431001 x431001_2) := ⟨by rw [← hq_]; exact (by (with_reducible repeat (first | apply Kd.R_alloc | apply Kd.R_drewN | apply Kd.R_drew)); exact HO_431001.out)⟩; have n1_ : Aside0 (wr.heap[gb429]? = some (.cells #[.bool x430000_2, .slice none 0 0, .slice none 0 0, .slice none 0 0] 26 (0, 0))) := ⟨by rw [← hq_]; exact (by (with_reducible repeat (first | refine blk_drewN ?_ _ | refine blk_drew ?_ | refine blk_alloc ?_ _)); exact BK429.out)⟩; have n2_ : Aside0 (wr.heap[gb430]? = some (.cells #[.bool ((bt a0 0) == 1), u431001, .slice none 0 0, .slice none 0 0] 26 (0, 0))) := ⟨by rw [← hq_]; exact (by (with_reducible repeat (first | refine blk_drewN ?_ _ | refine blk_drew ?_ | refine blk_alloc ?_ _)); exact BK430.out)⟩; have n3_ : Aside0 (Below w.heap.size w wr) := ⟨by rw [← hq_]; exact (by repeat (first | (with_reducible first | exact HB.out | apply below_alloc | apply pw_below_drewN | apply below_drew1 | refine below_set ?_ GE429.out | refine below_set ?_ GE430.out) | exact HB.out))⟩; clear HO_431001 BK429 BK430 HB hq_; have HO_431001 := n0_; have BK429 := n1_; have BK430 := n2_; have HB := n3_; clear n0_ n1_ n2_ n3_)); have hnb35 := NB429_430.out; have hnc35 := NB430_429.out; have hcz36_0 : wr.cell? ⟨gb429, 0, none⟩ = some (.bool x430000_2) := (blk_cell BK429.out 0).trans rfl; have hcz36_1 : wr.cell? ⟨gb429, 1, none⟩ = some (.slice none 0 0) := (blk_cell BK429.out 1).trans rfl; have hcz36_2 : wr.cell? ⟨gb429, 2, none⟩ = some (.slice none 0 0) := (blk_cell BK429.out 2).trans rfl; have hcz36_3 : wr.cell? ⟨gb429, 3, none⟩ = some (.slice none 0 0) := (blk_cell BK429.out 3).trans rfl; have hfz36_0 := blk_frozen BK429.out 0; have hfz36_1 := blk_frozen BK429.out 1; have hfz36_2 := blk_frozen BK429.out 2; have hfz36_3 := blk_frozen BK429.out 3))
                          refine bodyPost_ret (results_ct rfl _ _ gb429 26 #[.bool false, .slice none 0 0, .slice none 0 0, .slice none 0 0] (0, 0) _ rfl (by (with_reducible repeat (first | refine blk_drewN ?_ _ | refine blk_drew ?_ | refine blk_alloc ?_ _)); refine blk_put (cs := #[.bool false, .slice none 0 0, .slice none 0 0, .slice none 0 0]) ?_ 3 _ (by first | rfl | simp [*]); (with_reducible repeat (first | refine blk_drewN ?_ _ | refine blk_drew ?_ | refine blk_alloc ?_ _)); refine blk_put (cs := #[.bool false, .slice none 0 0, .slice none 0 0, .slice none 0 0]) ?_ 2 _ (by first | rfl | simp [*]); (with_reducible repeat (first | refine blk_drewN ?_ _ | refine blk_drew ?_ | refine blk_alloc ?_ _)); refine blk_put (cs := #[.bool false, .slice none 0 0, .slice none 0 0, .slice none 0 0]) ?_ 1 _ (by first | rfl | simp [*]); (with_reducible repeat (first | refine blk_drewN ?_ _ | refine blk_drew ?_ | refine blk_alloc ?_ _)); refine blk_put (cs := #[.bool x430000_2, .slice none 0 0, .slice none 0 0, .slice none 0 0]) ?_ 0 _ (by first | rfl | simp [*]); (with_reducible repeat (first | refine blk_drewN ?_ _ | refine blk_drew ?_ | refine blk_alloc ?_ _)); exact BK429.out) Try.underlying26 rfl (by kernel_rfl)) rfl ?_
                          exact ⟨_, _, _, by first | rfl | (simp [errW_none, errW_some] <;> rfl) | (simp [*, errW_none, errW_some] <;> rfl), by first | exact Kd.R_nil _ _ _ _ _ | exact Kd.N_nil _ _ _ _ _ | exact Kd.V_nil _ _ _ _ _ | exact Kd.Q_nil _ _ _ _ _ | exact Kd.S_nil _ _ _ _ _, by first | exact Kd.R_nil _ _ _ _ _ | exact Kd.N_nil _ _ _ _ _ | exact Kd.V_nil _ _ _ _ _ | exact Kd.Q_nil _ _ _ _ _ | exact Kd.S_nil _ _ _ _ _, by first | exact Kd.R_nil _ _ _ _ _ | exact Kd.N_nil _ _ _ _ _ | exact Kd.V_nil _ _ _ _ _ | exact Kd.Q_nil _ _ _ _ _ | exact Kd.S_nil _ _ _ _ _, by repeat (first | (with_reducible first | exact HB.out | apply below_alloc | apply pw_below_drewN | apply below_drew1 | refine below_set ?_ GE429.out | refine below_set ?_ GE430.out) | exact HB.out)⟩
                      · rw [if_neg c22] at H
                        have c22b0 : decide (x7_2 < (wrap64 (bt a0 1))) = false := decide_eq_false c22
                        clear c22
                        have H' := Aside0.mk H
                        clear H
                        go_wp2
                        go_meet
                        case rel => exact ⟨_, (x430000_2), (x431001_2), (([] : List ByteArray)), (([] : List Int)), (u431001), (.slice none 0 0), (.slice none 0 0), H', ⟨by have := HJ1.out; have := HK2.out; first | omega | exact Nat.le_refl _⟩, ⟨by (with_reducible repeat (first | apply Kd.R_alloc | apply Kd.R_drewN | apply Kd.R_drew)); exact HO_431001.out⟩, ⟨by first | exact Kd.R_nil _ _ _ _ _ | exact Kd.N_nil _ _ _ _ _ | exact Kd.V_nil _ _ _ _ _ | exact Kd.Q_nil _ _ _ _ _ | exact Kd.S_nil _ _ _ _ _⟩, ⟨by first | exact Kd.R_nil _ _ _ _ _ | exact Kd.N_nil _ _ _ _ _ | exact Kd.V_nil _ _ _ _ _ | exact Kd.Q_nil _ _ _ _ _ | exact Kd.S_nil _ _ _ _ _⟩, ⟨by (with_reducible repeat (first | refine blk_drewN ?_ _ | refine blk_drew ?_ | refine blk_alloc ?_ _)); exact BK429.out⟩, ⟨by (with_reducible repeat (first | refine blk_drewN ?_ _ | refine blk_drew ?_ | refine blk_alloc ?_ _)); exact BK430.out⟩, ⟨by repeat (first | (with_reducible first | exact HB.out | apply below_alloc | apply pw_below_drewN | apply below_drew1 | refine below_set ?_ GE429.out | refine below_set ?_ GE430.out) | exact HB.out)⟩⟩
                · rw [if_neg c21] at H
                  have c21b0 : ((bt a0 0) == 1) = false := beq_eq_false_iff_ne.mpr c21
                  have c21b1 : ((bt a0 0) != 1) = true := bne_iff_ne.mpr c21
                  (first | rw [c21b0] | (simp only [i64_w, i32_w]; rw [c21b0]) | skip)
                  have H' := Aside0.mk H
                  clear H
                  go_wp2
                  go_loopg [6, 14] kj1 (fun kq v6 v14 w' => ∃ (x6_2 : ByteArray) (x14_2 : Int) (x430000_2 : Bool) (x431003_2 : List Int) (u431003 : Value), v6 = .string x6_2 ∧ v14 = .int .i64 x14_2 ∧ Aside0 (cisternref11_DocDecode.l1 kq a0 (wrap64 (bt a0 1)) x6_2 x14_2 ((bt a0 0) == 1) x431003_2 = some (r1, r2, r3, r4, r5)) ∧ Aside0 (kq ≤ kj1) ∧ Aside0 (Kd.R (Kd.int .i64) 3 w' w.heap.size (fun _ => True) u431003 x431003_2) ∧ Aside0 (w'.heap[gb429]? = some (.cells #[.bool x430000_2, (.slice none 0 0), (.slice none 0 0), (.slice none 0 0)] 26 (0, 0))) ∧ Aside0 (w'.heap[gb430]? = some (.cells #[.bool ((bt a0 0) == 1), (.slice none 0 0), (.slice none 0 0), u431003] 26 (0, 0))) ∧ Aside0 (Below w.heap.size w w'))
                  case atStart => exact ⟨(a0.extract 2 a0.size), (0), (false), (([] : List Int)), (.slice none 0 0), (by first | rfl | (simp; done) | (simp [*]; done)), (by first | rfl | (simp; done) | (simp [*]; done)), H', ⟨Nat.le_refl _⟩, ⟨by first | exact Kd.R_nil _ _ _ _ _ | exact Kd.N_nil _ _ _ _ _ | exact Kd.V_nil _ _ _ _ _ | exact Kd.Q_nil _ _ _ _ _ | exact Kd.S_nil _ _ _ _ _⟩, ⟨by (with_reducible repeat (first | refine blk_drewN ?_ _ | refine blk_drew ?_ | refine blk_alloc ?_ _)); refine blk_far ?_ NB429_430.out _; (with_reducible repeat (first | refine blk_drewN ?_ _ | refine blk_drew ?_ | refine blk_alloc ?_ _)); refine blk_far ?_ NB429_430.out _; (with_reducible repeat (first | refine blk_drewN ?_ _ | refine blk_drew ?_ | refine blk_alloc ?_ _)); refine blk_far ?_ NB429_430.out _; (with_reducible repeat (first | refine blk_drewN ?_ _ | refine blk_drew ?_ | refine blk_alloc ?_ _)); refine blk_far ?_ NB429_430.out _; (with_reducible repeat (first | refine blk_drewN ?_ _ | refine blk_drew ?_ | refine blk_alloc ?_ _)); exact BK429.out⟩, ⟨by (with_reducible repeat (first | refine blk_drewN ?_ _ | refine blk_drew ?_ | refine blk_alloc ?_ _)); refine blk_put (cs := #[.bool ((bt a0 0) == 1), .slice none 0 0, .slice none 0 0, .slice none 0 0]) ?_ 3 _ (by first | rfl | simp [*]); (with_reducible repeat (first | refine blk_drewN ?_ _ | refine blk_drew ?_ | refine blk_alloc ?_ _)); refine blk_put (cs := #[.bool ((bt a0 0) == 1), .slice none 0 0, .slice none 0 0, .slice none 0 0]) ?_ 2 _ (by first | rfl | simp [*]); (with_reducible repeat (first | refine blk_drewN ?_ _ | refine blk_drew ?_ | refine blk_alloc ?_ _)); refine blk_put (cs := #[.bool ((bt a0 0) == 1), .slice none 0 0, .slice none 0 0, .slice none 0 0]) ?_ 1 _ (by first | rfl | simp [*]); (with_reducible repeat (first | refine blk_drewN ?_ _ | refine blk_drew ?_ | refine blk_alloc ?_ _)); refine blk_put (cs := #[.bool false, .slice none 0 0, .slice none 0 0, .slice none 0 0]) ?_ 0 _ (by first | rfl | simp [*]); (with_reducible repeat (first | refine blk_drewN ?_ _ | refine blk_drew ?_ | refine blk_alloc ?_ _)); exact BK430.out⟩, ⟨by repeat (first | (with_reducible first | exact HB.out | apply below_alloc | apply pw_below_drewN | apply below_drew1 | refine below_set ?_ GE429.out | refine below_set ?_ GE430.out) | exact HB.out)⟩⟩
                  case round =>
                    clear H'
                    try clear c1
                    try clear p1
                    try clear q1
                    try clear hx1
                    try clear qi1
                    try clear c2
                    try clear p2
                    try clear c3
                    try clear c4
                    try clear c4b0
                    try clear c4b1
                    try clear c5
                    try clear p6
                    try clear c7
                    try clear c7b0
                    try clear c7b1
                    try clear p8
                    try clear q8
                    try clear hx8
                    try clear qi8
                    try clear c9
                    try clear c9b0
                    try clear c9b1
                    try clear p10
                    try clear q10
                    try clear hx10
                    try clear qi10
                    try clear c11
                    try clear c11b0
                    try clear c11b1
                    try clear c19
                    try clear c21
                    try clear c21b0
                    try clear c21b1
                    try clear c22
                    try clear c22b0
                    try clear c24
                    try clear c25
                    try clear c26
                    try clear c27
                    try clear c28
                    try clear c33
                    try clear c35
                    try clear hcz20_0
                    try clear hcz20_1
                    try clear hcz20_2
                    try clear hcz20_3
                    try clear hcz29_0
                    try clear hcz29_1
                    try clear hcz29_2
                    try clear hcz29_3
                    try clear hcz32_0
                    try clear hcz32_1
                    try clear hcz32_2
                    try clear hcz32_3
                    try clear hcz34_0
                    try clear hcz34_1
                    try clear hcz34_2
                    try clear hcz34_3
                    try clear hcz36_0
                    try clear hcz36_1
                    try clear hcz36_2
                    try clear hcz36_3
                    try clear hcz6_0
                    try clear hcz6_1
                    try clear hcz6_2
                    try clear hcz6_3
                    try clear hfz20_0
                    try clear hfz20_1
                    try clear hfz20_2
                    try clear hfz20_3
                    try clear hfz29_0
                    try clear hfz29_1
                    try clear hfz29_2
                    try clear hfz29_3
                    try clear hfz32_0
                    try clear hfz32_1
                    try clear hfz32_2
                    try clear hfz32_3
                    try clear hfz34_0
                    try clear hfz34_1
                    try clear hfz34_2
                    try clear hfz34_3
                    try clear hfz36_0
                    try clear hfz36_1
                    try clear hfz36_2
                    try clear hfz36_3
                    try clear hfz6_0
                    try clear hfz6_1
                    try clear hfz6_2
                    try clear hfz6_3
                    try clear p1
                    try clear p10
                    try clear p2
                    try clear p6
                    try clear p8
                    try clear q1
                    try clear q10
                    try clear q8
                    obtain ⟨x6_2, x14_2, x430000_2, x431003_2, u431003, rfl, rfl, HA, HK2, HO_431003, BK429, BK430, HB⟩ := hrel
                    cases gk with
                    | zero => exact absurd HA.out (by simp [cisternref11_DocDecode.l1])
                    | succ k2 =>
                      have H := HA.out
                      clear HA
                      simp only [cisternref11_DocDecode.l1] at H
                      by_cases c37 : x14_2 < (wrap64 (bt a0 1))
                      · rw [if_pos c37] at H
                        have c37b0 : decide (x14_2 < (wrap64 (bt a0 1))) = true := decide_eq_true c37
                        clear c37
                        by_cases c38 : (x6_2.size : Int) < 2
                        · rw [if_pos c38] at H
                          have c38b0 : decide ((x6_2.size : Int) < 2) = true := decide_eq_true c38
                          have c38b1 : decide (x6_2.size < 2) = true := decide_eq_true (by omega)
                          clear c38
                          simp only [Option.some.injEq, Prod.mk.injEq] at H
                          obtain ⟨rfl, rfl, rfl, rfl, rfl⟩ := H
                          have hnb39 := NB429_430.out
                          have hnc39 := NB430_429.out
                          have hcz40_0 : wr.cell? ⟨gb429, 0, none⟩ = some (.bool x430000_2) := (blk_cell BK429.out 0).trans rfl
                          have hcz40_1 : wr.cell? ⟨gb429, 1, none⟩ = some (.slice none 0 0) := (blk_cell BK429.out 1).trans rfl
                          have hcz40_2 : wr.cell? ⟨gb429, 2, none⟩ = some (.slice none 0 0) := (blk_cell BK429.out 2).trans rfl
                          have hcz40_3 : wr.cell? ⟨gb429, 3, none⟩ = some (.slice none 0 0) := (blk_cell BK429.out 3).trans rfl
                          have hfz40_0 := blk_frozen BK429.out 0
                          have hfz40_1 := blk_frozen BK429.out 1
                          have hfz40_2 := blk_frozen BK429.out 2
                          have hfz40_3 := blk_frozen BK429.out 3
                          go_wp2
                          refine bodyPost_ret (results_ct rfl _ _ gb429 26 #[.bool false, .slice none 0 0, .slice none 0 0, .slice none 0 0] (0, 0) _ rfl (by (with_reducible repeat (first | refine blk_drewN ?_ _ | refine blk_drew ?_ | refine blk_alloc ?_ _)); refine blk_put (cs := #[.bool false, .slice none 0 0, .slice none 0 0, .slice none 0 0]) ?_ 3 _ (by first | rfl | simp [*]); (with_reducible repeat (first | refine blk_drewN ?_ _ | refine blk_drew ?_ | refine blk_alloc ?_ _)); refine blk_put (cs := #[.bool false, .slice none 0 0, .slice none 0 0, .slice none 0 0]) ?_ 2 _ (by first | rfl | simp [*]); (with_reducible repeat (first | refine blk_drewN ?_ _ | refine blk_drew ?_ | refine blk_alloc ?_ _)); refine blk_put (cs := #[.bool false, .slice none 0 0, .slice none 0 0, .slice none 0 0]) ?_ 1 _ (by first | rfl | simp [*]); (with_reducible repeat (first | refine blk_drewN ?_ _ | refine blk_drew ?_ | refine blk_alloc ?_ _)); refine blk_put (cs := #[.bool x430000_2, .slice none 0 0, .slice none 0 0, .slice none 0 0]) ?_ 0 _ (by first | rfl | simp [*]); (with_reducible repeat (first | refine blk_drewN ?_ _ | refine blk_drew ?_ | refine blk_alloc ?_ _)); exact BK429.out) Try.underlying26 rfl (by kernel_rfl)) rfl ?_
                          exact ⟨_, _, _, by first | rfl | (simp [errW_none, errW_some] <;> rfl) | (simp [*, errW_none, errW_some] <;> rfl), by first | exact Kd.R_nil _ _ _ _ _ | exact Kd.N_nil _ _ _ _ _ | exact Kd.V_nil _ _ _ _ _ | exact Kd.Q_nil _ _ _ _ _ | exact Kd.S_nil _ _ _ _ _, by first | exact Kd.R_nil _ _ _ _ _ | exact Kd.N_nil _ _ _ _ _ | exact Kd.V_nil _ _ _ _ _ | exact Kd.Q_nil _ _ _ _ _ | exact Kd.S_nil _ _ _ _ _, by first | exact Kd.R_nil _ _ _ _ _ | exact Kd.N_nil _ _ _ _ _ | exact Kd.V_nil _ _ _ _ _ | exact Kd.Q_nil _ _ _ _ _ | exact Kd.S_nil _ _ _ _ _, by repeat (first | (with_reducible first | exact HB.out | apply below_alloc | apply pw_below_drewN | apply below_drew1 | refine below_set ?_ GE429.out | refine below_set ?_ GE430.out) | exact HB.out)⟩
                        · rw [if_neg c38] at H
                          have c38b0 : decide ((x6_2.size : Int) < 2) = false := decide_eq_false c38
                          have c38b1 : decide (x6_2.size < 2) = false := decide_eq_false (by omega)
                          clear c38
                          by_cases c41 : 0 < (x6_2.size : Int)
                          · rw [if_pos c41] at H
                            have c41b0 : decide (0 < (x6_2.size : Int)) = true := decide_eq_true c41
                            have c41b1 : decide (0 < x6_2.size) = true := decide_eq_true (by omega)
                            clear c41
                            by_cases c43 : 1 < (x6_2.size : Int)
                            · rw [if_pos c43] at H
                              have c43b0 : decide (1 < (x6_2.size : Int)) = true := decide_eq_true c43
                              have c43b1 : decide (1 < x6_2.size) = true := decide_eq_true (by omega)
                              clear c43
                              by_cases c45 : x431003_2.length < 17592186044416
                              · rw [if_pos c45] at H
                                have LMc45 := Aside0.mk c45
                                clear c45
                                obtain ⟨y440, hy440⟩ : ∃ y_ : List Int, y_ = (x431003_2 ++ [wrap64 ((wrap64 (bt x6_2 0)) + (wrap64 (256 * (wrap64 (bt x6_2 1)))))]) := ⟨_, rfl⟩
                                replace H : (if 2 ≤ (x6_2.size : Int) then (cisternref11_DocDecode.l1 k2 a0 (wrap64 (bt a0 1)) (x6_2.extract 2 x6_2.size) (wrap64 (x14_2 + 1)) ((bt a0 0) == 1) y440) else (none)) = some (r1, r2, r3, r4, r5) := by first | (rw [hy440]; with_reducible exact H) | (have H2_ := (Option.bind_some _ _).symm.trans H; rw [hy440]; with_reducible exact H2_) | (have H2_ := (Option.bind_some _ _).symm.trans H; with_reducible exact H2_) | with_reducible exact H | (rw [hy440]; exact H) | exact H
                                have Ny440 := Aside0.mk hy440
                                clear hy440
                                by_cases c46 : 2 ≤ (x6_2.size : Int)
                                · rw [if_pos c46] at H
                                  have c46b0 := eq_true c46
                                  have c46b1 : decide (2 ≤ (x6_2.size : Int)) = true := decide_eq_true c46
                                  clear c46
                                  have H' := Aside0.mk H
                                  clear H
                                  try go_wp2
                                  have n0_ := Aside0.mk (Kd.R_drew HO_431003.out)
                                  have n1_ := Aside0.mk (blk_drew BK429.out)
                                  have n2_ := Aside0.mk (blk_drew BK430.out)
                                  have n3_ := Aside0.mk (below_drew1 HB.out)
                                  clear HO_431003
                                  clear BK429
                                  clear BK430
                                  clear HB
                                  have HO_431003 := n0_
                                  have BK429 := n1_
                                  have BK430 := n2_
                                  have HB := n3_
                                  clear n0_ n1_ n2_ n3_
                                  have p42 : 0 ≤ (0 : Int) := (by omega)
                                  have q42 : 0 < x6_2.size := (by have : (0 : Int) < (x6_2.size : Int) := of_decide_eq_true (by first | (with_reducible assumption) | assumption); omega)
                                  have hx42 : ∀ h : 0 < x6_2.size, ((x6_2[0]'h).toNat : Int) = bt x6_2 0 := bt_at x6_2 0
                                  clear p42
                                  have qi42 : (0 < (x6_2.size : Int)) = True := eq_true (of_decide_eq_true (by first | (with_reducible assumption) | assumption))
                                  replace q42 := eq_true q42
                                  have p44 : 0 ≤ (1 : Int) := (by omega)
                                  have q44 : 1 < x6_2.size := (by have : (1 : Int) < (x6_2.size : Int) := of_decide_eq_true (by first | (with_reducible assumption) | assumption); omega)
                                  have hx44 : ∀ h : 1 < x6_2.size, ((x6_2[1]'h).toNat : Int) = bt x6_2 1 := bt_at x6_2 1
                                  clear p44
                                  have qi44 : (1 < (x6_2.size : Int)) = True := eq_true (of_decide_eq_true (by first | (with_reducible assumption) | assumption))
                                  replace q44 := eq_true q44
                                  refine start_ (n := 14) (S := fun w' => w'.cell? ⟨gb430, 0, none⟩ = some (.bool ((bt a0 0) == 1)) ∧ w'.cell? ⟨gb430, 1, none⟩ = some (.slice none 0 0) ∧ w'.cell? ⟨gb430, 2, none⟩ = some (.slice none 0 0) ∧ w'.cell? ⟨gb430, 3, none⟩ = some (u431003)) (ds := [13]) #[false, false, false, false, false, false, false, false, false, false, false, false, false, false] (by kernel_rfl) rfl rfl ⟨(blk_cell BK430.out 0).trans rfl, (blk_cell BK430.out 1).trans rfl, (blk_cell BK430.out 2).trans rfl, (blk_cell BK430.out 3).trans rfl⟩ (fun hHeld => ?_); refine with_tabW cisternref11_DocDecode.tab19 cisternref11_DocDecode.bits19 (fun HT_ HW_ => ?_)
                                  generalize wr.drew = w47 at HO_431003 BK429 BK430 HB hHeld ⊢
                                  refine pure_ (i := 0) (N := some 81) (v := ?_) (a' := ?_) #[true, false, false, false, false, false, false, false, false, false, false, false, false, false] rfl rfl (any_of HT_.out (by kernel_rfl)) (fun _ _ _ h => h) (Or.inl ⟨by rfl, ?_⟩) ?_ ?_
                                  rotate_left
                                  · intro w'
                                    go_simp
                                    with_reducible rfl
                                  rotate_left
                                  · simp only [Act.put, List.setIfInBounds_toArray, List.set_cons_zero, List.set_cons_succ, i64_w, i32_w]
                                    rfl
                                  refine pure_ (i := 2) (N := some 83) (v := ?_) (a' := ?_) #[true, false, true, false, false, false, false, false, false, false, false, false, false, false] rfl rfl (any_of HT_.out (by kernel_rfl)) (fun _ _ _ h => h) (Or.inl ⟨by rfl, ?_⟩) ?_ ?_
                                  rotate_left
                                  · intro w'
                                    go_simp
                                    with_reducible rfl
                                  rotate_left
                                  · simp only [Act.put, List.setIfInBounds_toArray, List.set_cons_zero, List.set_cons_succ, i64_w, i32_w]
                                    rfl
                                  refine pure_ (i := 5) (N := some 86) (v := ?_) (a' := ?_) #[true, false, true, false, false, true, false, false, false, false, false, false, false, false] rfl rfl (any_of HT_.out (by kernel_rfl)) (fun _ _ _ h => h) (Or.inl ⟨by rfl, ?_⟩) ?_ ?_
                                  rotate_left
                                  · intro w'
                                    go_simp
                                    with_reducible rfl
                                  rotate_left
                                  · simp only [Act.put, List.setIfInBounds_toArray, List.set_cons_zero, List.set_cons_succ, i64_w, i32_w]
                                    rfl
                                  refine take_ (i := 1) (N := some 82) (v := ?_) (a' := ?_) #[true, true, true, false, false, true, false, false, false, false, false, false, false, false] rfl rfl (take_ofW HT_.out HW_.out (by kernel_rfl)) (fun _ _ _ h => h) (Or.inl ⟨by rfl, ?_⟩) hHeld ?_ ?_
                                  rotate_left
                                  · rintro w' ⟨s0, s1, s2, s3⟩
                                    go_simp
                                    with_reducible rfl
                                  rotate_left
                                  · simp only [Act.put, List.setIfInBounds_toArray, List.set_cons_zero, List.set_cons_succ, i64_w, i32_w]
                                    rfl
                                  refine take_ (i := 3) (N := some 84) (v := ?_) (a' := ?_) #[true, true, true, true, false, true, false, false, false, false, false, false, false, false] rfl rfl (take_ofW HT_.out HW_.out (by kernel_rfl)) (fun _ _ _ h => h) (Or.inl ⟨by rfl, ?_⟩) hHeld ?_ ?_
                                  rotate_left
                                  · rintro w' ⟨s0, s1, s2, s3⟩
                                    go_simp
                                    with_reducible rfl
                                  rotate_left
                                  · simp only [Act.put, List.setIfInBounds_toArray, List.set_cons_zero, List.set_cons_succ, i64_w, i32_w]
                                    rfl
                                  refine pure_ (i := 4) (N := some 85) (v := ?_) (a' := ?_) #[true, true, true, true, true, true, false, false, false, false, false, false, false, false] rfl rfl (any_of HT_.out (by kernel_rfl)) (fun _ _ _ h => h) (Or.inl ⟨by rfl, ?_⟩) ?_ ?_
                                  rotate_left
                                  · intro w'
                                    go_simp
                                    with_reducible rfl
                                  rotate_left
                                  · simp only [Act.put, List.setIfInBounds_toArray, List.set_cons_zero, List.set_cons_succ, i64_w, i32_w]
                                    rfl
                                  refine take_ (i := 6) (N := some 87) (v := ?_) (a' := ?_) #[true, true, true, true, true, true, true, false, false, false, false, false, false, false] rfl rfl (take_ofW HT_.out HW_.out (by kernel_rfl)) (fun _ _ _ h => h) (Or.inl ⟨by rfl, ?_⟩) hHeld ?_ ?_
                                  rotate_left
                                  · rintro w' ⟨s0, s1, s2, s3⟩
                                    go_simp
                                    with_reducible rfl
                                  rotate_left
                                  · simp only [Act.put, List.setIfInBounds_toArray, List.set_cons_zero, List.set_cons_succ, i64_w, i32_w]
                                    rfl
                                  refine pure_ (i := 7) (N := some 88) (v := ?_) (a' := ?_) #[true, true, true, true, true, true, true, true, false, false, false, false, false, false] rfl rfl (any_of HT_.out (by kernel_rfl)) (fun _ _ _ h => h) (Or.inl ⟨by rfl, ?_⟩) ?_ ?_
                                  rotate_left
                                  · intro w'
                                    go_simp
                                    with_reducible rfl
                                  rotate_left
                                  · simp only [Act.put, List.setIfInBounds_toArray, List.set_cons_zero, List.set_cons_succ, i64_w, i32_w]
                                    rfl
                                  refine pure_ (i := 8) (N := some 89) (v := ?_) (a' := ?_) #[true, true, true, true, true, true, true, true, true, false, false, false, false, false] rfl rfl (any_of HT_.out (by kernel_rfl)) (fun _ _ _ h => h) (Or.inl ⟨by rfl, ?_⟩) ?_ ?_
                                  rotate_left
                                  · intro w'
                                    go_simp
                                    with_reducible rfl
                                  rotate_left
                                  · simp only [Act.put, List.setIfInBounds_toArray, List.set_cons_zero, List.set_cons_succ, i64_w, i32_w]
                                    rfl
                                  refine pure_ (i := 9) (N := some 90) (v := ?_) (a' := ?_) #[true, true, true, true, true, true, true, true, true, true, false, false, false, false] rfl rfl (any_of HT_.out (by kernel_rfl)) (fun _ _ _ h => h) (Or.inl ⟨by rfl, ?_⟩) ?_ ?_
                                  rotate_left
                                  · intro w'
                                    go_simp
                                    with_reducible rfl
                                  rotate_left
                                  · simp only [Act.put, List.setIfInBounds_toArray, List.set_cons_zero, List.set_cons_succ, i64_w, i32_w]
                                    rfl
                                  refine one_ (i := 10) (N := some 91) #[true, true, true, true, true, true, true, true, true, true, true, false, false, false] rfl rfl (one_of HT_.out (by kernel_rfl)) (by decide) (fun K hK => ?_)
                                  refine value_ (w1 := ?_) (v := ?_) (by rfl) rfl ?_ ?_
                                  rotate_left 2
                                  · go_simp
                                    constructor
                                    · rfl
                                    · rfl
                                  refine hK.out _ _ ⟨(blk_cell (blk_alloc BK430.out _) 0).trans rfl, (blk_cell (blk_alloc BK430.out _) 1).trans rfl, (blk_cell (blk_alloc BK430.out _) 2).trans rfl, (blk_cell (blk_alloc BK430.out _) 3).trans rfl⟩ (fun hHeld => ?_)
                                  clear hK K
                                  refine norm_ (a' := ?_) ?_ ?_
                                  rotate_left
                                  · show Act.put _ (some 91) _ = _
                                    simp only [Act.put, List.setIfInBounds_toArray, List.set_cons_zero, List.set_cons_succ, i64_w, i32_w]
                                    rfl
                                  refine one_ (i := 11) (N := some 92) #[true, true, true, true, true, true, true, true, true, true, true, true, false, false] rfl rfl (one_of HT_.out (by kernel_rfl)) (by decide) (fun K hK => ?_)
                                  refine Kd.R_append_step (Kd.int .i64) (w0 := w) w.heap.size (by rfl) (.tmp 82) (.tmp 91) 24 3 (.int .i64 0) 8 rfl Try.underlying24 info3 rfl (by decide) (by omega) u431003 x431003_2 (wrap64 ((wrap64 (bt x6_2 0)) + (wrap64 (256 * (wrap64 (bt x6_2 1)))))) [.int .i64 (wrap64 ((wrap64 (bt x6_2 0)) + (wrap64 (256 * (wrap64 (bt x6_2 1))))))] (fun _ => True) (fun _ => False) rfl rfl ?aP (fun _ hk => hk.elim) ?aF ?aO ?aB ?aS ?aL ?_
                                  (case aP => exact rfl)
                                  (case aB => exact (by repeat (first | (with_reducible first | exact HB.out | apply below_alloc | apply pw_below_drewN | apply below_drew1 | refine below_set ?_ GE429.out | refine below_set ?_ GE430.out) | exact HB.out)))
                                  (case aF => exact (fun _ _ => trivial))
                                  (case aO => exact (by (with_reducible repeat (first | apply Kd.R_alloc | apply Kd.R_drewN | apply Kd.R_drew)); exact HO_431003.out))
                                  (case aS => exact (below_size (by repeat (first | (with_reducible first | exact HB.out | apply below_alloc | apply pw_below_drewN | apply below_drew1 | refine below_set ?_ GE429.out | refine below_set ?_ GE430.out) | exact HB.out))))
                                  (case aL => have := LMc45.out; omega)
                                  intro v441 w48 ho hb hg hat
                                  rw [← Ny440.out] at ho
                                  have n0_ := Aside0.mk (blk_grown (g := gb429) (o := .cells #[.bool x430000_2, .slice none 0 0, .slice none 0 0, .slice none 0 0] 26 (0, 0)) (by (with_reducible repeat (first | refine blk_drewN ?_ _ | refine blk_drew ?_ | refine blk_alloc ?_ _)); exact BK429.out) hg (Kd.R_ne HO_431003.out BK429.out (by decide)))
                                  have n1_ := Aside0.mk (blk_grown (g := gb430) (o := .cells #[.bool ((bt a0 0) == 1), .slice none 0 0, .slice none 0 0, u431003] 26 (0, 0)) (by (with_reducible repeat (first | refine blk_drewN ?_ _ | refine blk_drew ?_ | refine blk_alloc ?_ _)); exact BK430.out) hg (Kd.R_ne HO_431003.out BK430.out (by decide)))
                                  have n2_ := Aside0.mk (hb)
                                  have n3_ := Aside0.mk (ho)
                                  clear BK429
                                  clear BK430
                                  clear HB
                                  clear HO_431003
                                  have BK429 := n0_
                                  have BK430 := n1_
                                  have HB := n2_
                                  have HO442 := n3_
                                  clear n0_ n1_ n2_ n3_
                                  clear ho hb hg hat
                                  obtain ⟨Ao49, co49, eo49⟩ := Kd.R_slice HO442.out
                                  (first | subst eo49 | (injection eo49 with f1_ f2_ f3_; have f4_ := f1_.symm; have f5_ := f3_.symm; clear f1_ f2_ f3_; subst f4_; subst f5_))
                                  refine hK.out _ _ ⟨(blk_cell BK430.out 0).trans rfl, (blk_cell BK430.out 1).trans rfl, (blk_cell BK430.out 2).trans rfl, (blk_cell BK430.out 3).trans rfl⟩ (fun hHeld => ?_)
                                  clear hK K
                                  refine norm_ (a' := ?_) ?_ ?_
                                  rotate_left
                                  · show Act.put _ (some 92) _ = _
                                    simp only [Act.put, List.setIfInBounds_toArray, List.set_cons_zero, List.set_cons_succ, i64_w, i32_w]
                                    rfl
                                  refine pure_ (i := 12) (N := some 93) (v := ?_) (a' := ?_) #[true, true, true, true, true, true, true, true, true, true, true, true, true, false] rfl rfl (any_of HT_.out (by kernel_rfl)) (fun _ _ _ h => h) (Or.inl ⟨by rfl, ?_⟩) ?_ ?_
                                  rotate_left
                                  · intro w'
                                    go_simp
                                    with_reducible rfl
                                  rotate_left
                                  · simp only [Act.put, List.setIfInBounds_toArray, List.set_cons_zero, List.set_cons_succ, i64_w, i32_w]
                                    rfl
                                  refine last_ (i := 13) (N := none) #[true, true, true, true, true, true, true, true, true, true, true, true, true, true] rfl rfl (one_of HT_.out (by kernel_rfl)) (by decide) (fun K hK => ?_)
                                  have hs50 : w48.cell? ⟨gb430, 3, none⟩ = some (u431003) := (blk_cell BK430.out 3).trans rfl
                                  have hfs50 := blk_frozen BK430.out 3
                                  have hns50_0 := NB429_430.out
                                  have hms50_0 := NB430_429.out
                                  refine skip_ (w1 := ?_) (by rfl) rfl ?_ ?_
                                  rotate_left
                                  · go_simp
                                    rfl
                                  refine hK.out _ _ ?_
                                  clear hK K
                                  refine done_ (done_of HT_.out (by kernel_rfl)) ?_
                                  try go_wp2
                                  go_roundg k2
                                  case measure => have := HJ1.out; have := HK2.out; omega
                                  case rel => exact ⟨(x6_2.extract 2 x6_2.size), (wrap64 (x14_2 + 1)), (x430000_2), (y440), (.slice Ao49 y440.length co49), (by first | rfl | (simp; done) | (simp [*]; done)), (by first | rfl | (simp; done) | (simp [*]; done)), H', ⟨by have := HJ1.out; have := HK2.out; omega⟩, ⟨by (with_reducible repeat (first | apply Kd.R_alloc | apply Kd.R_drewN | apply Kd.R_drew)); exact Kd.R_mono (Kd.R_far (p := ⟨gb430, 3, none⟩) (Kd.R_types HO442.out BK430.out (by decide)) (fun _ hk => hk.2) (.slice Ao49 y440.length co49)) (fun _ hk => trivial)⟩, ⟨by (with_reducible repeat (first | refine blk_drewN ?_ _ | refine blk_drew ?_ | refine blk_alloc ?_ _)); refine blk_far ?_ NB429_430.out _; (with_reducible repeat (first | refine blk_drewN ?_ _ | refine blk_drew ?_ | refine blk_alloc ?_ _)); exact BK429.out⟩, ⟨by (with_reducible repeat (first | refine blk_drewN ?_ _ | refine blk_drew ?_ | refine blk_alloc ?_ _)); refine blk_put (cs := #[.bool ((bt a0 0) == 1), .slice none 0 0, .slice none 0 0, u431003]) ?_ 3 _ (by first | rfl | simp [*]); (with_reducible repeat (first | refine blk_drewN ?_ _ | refine blk_drew ?_ | refine blk_alloc ?_ _)); exact BK430.out⟩, ⟨by repeat (first | (with_reducible first | exact HB.out | apply below_alloc | apply pw_below_drewN | apply below_drew1 | refine below_set ?_ GE429.out | refine below_set ?_ GE430.out) | exact HB.out)⟩⟩
                                · rw [if_neg c46] at H
                                  exact absurd H (by simp)
                              · rw [if_neg c45] at H
                                exact absurd H (by simp)
                            · rw [if_neg c43] at H
                              exact absurd H (by simp)
                          · rw [if_neg c41] at H
                            exact absurd H (by simp)
                      · rw [if_neg c37] at H
                        have c37b0 : decide (x14_2 < (wrap64 (bt a0 1))) = false := decide_eq_false c37
                        clear c37
                        have H' := Aside0.mk H
                        clear H
                        go_wp2
                        go_loopg [6, 15] k2 (fun kq v6 v15 w' => ∃ (x6_3 : ByteArray) (x15_3 : Int) (x430000_3 : Bool) (x431002_3 : List ByteArray) (u431002 : Value), v6 = .string x6_3 ∧ v15 = .int .i64 x15_3 ∧ Aside0 (cisternref11_DocDecode.l2 kq a0 (wrap64 (bt a0 1)) x6_3 x15_3 ((bt a0 0) == 1) x431002_3 x431003_2 = some (r1, r2, r3, r4, r5)) ∧ Aside0 (kq ≤ k2) ∧ Aside0 (Kd.R Kd.string 9 w' w.heap.size (fun _ => True) u431002 x431002_3) ∧ Aside0 (Kd.R (Kd.int .i64) 3 w' w.heap.size (fun _ => True) u431003 x431003_2) ∧ Aside0 (w'.heap[gb429]? = some (.cells #[.bool x430000_3, (.slice none 0 0), (.slice none 0 0), (.slice none 0 0)] 26 (0, 0))) ∧ Aside0 (w'.heap[gb430]? = some (.cells #[.bool ((bt a0 0) == 1), (.slice none 0 0), u431002, u431003] 26 (0, 0))) ∧ Aside0 (Below w.heap.size w w'))
                        case atStart => exact ⟨(x6_2), (0), (x430000_2), (([] : List ByteArray)), (.slice none 0 0), (by first | rfl | (simp; done) | (simp [*]; done)), (by first | rfl | (simp; done) | (simp [*]; done)), H', ⟨Nat.le_refl _⟩, ⟨by first | exact Kd.R_nil _ _ _ _ _ | exact Kd.N_nil _ _ _ _ _ | exact Kd.V_nil _ _ _ _ _ | exact Kd.Q_nil _ _ _ _ _ | exact Kd.S_nil _ _ _ _ _⟩, ⟨by (with_reducible repeat (first | apply Kd.R_alloc | apply Kd.R_drewN | apply Kd.R_drew)); exact HO_431003.out⟩, ⟨by (with_reducible repeat (first | refine blk_drewN ?_ _ | refine blk_drew ?_ | refine blk_alloc ?_ _)); exact BK429.out⟩, ⟨by (with_reducible repeat (first | refine blk_drewN ?_ _ | refine blk_drew ?_ | refine blk_alloc ?_ _)); exact BK430.out⟩, ⟨by repeat (first | (with_reducible first | exact HB.out | apply below_alloc | apply pw_below_drewN | apply below_drew1 | refine below_set ?_ GE429.out | refine below_set ?_ GE430.out) | exact HB.out)⟩⟩
                        case round =>
                          clear H'
                          try clear c1
                          try clear p1
                          try clear q1
                          try clear hx1
                          try clear qi1
                          try clear c2
                          try clear p2
                          try clear c3
                          try clear c4
                          try clear c4b0
                          try clear c4b1
                          try clear p4
                          try clear q4
                          try clear hx4
                          try clear qi4
                          try clear c5
                          try clear p6
                          try clear c7
                          try clear c7b0
                          try clear c7b1
                          try clear p8
                          try clear q8
                          try clear hx8
                          try clear qi8
                          try clear c9
                          try clear c9b0
                          try clear c9b1
                          try clear p10
                          try clear q10
                          try clear hx10
                          try clear qi10
                          try clear c11
                          try clear c11b0
                          try clear c11b1
                          try clear c19
                          try clear c21
                          try clear c21b0
                          try clear c21b1
                          try clear c22
                          try clear c22b0
                          try clear c24
                          try clear c25
                          try clear c26
                          try clear c27
                          try clear c28
                          try clear c33
                          try clear c35
                          try clear c37
                          try clear c37b0
                          try clear c38
                          try clear c38b0
                          try clear c38b1
                          try clear c39
                          try clear c41
                          try clear c41b0
                          try clear c41b1
                          try clear p42
                          try clear q42
                          try clear hx42
                          try clear qi42
                          try clear c43
                          try clear c43b0
                          try clear c43b1
                          try clear p44
                          try clear q44
                          try clear hx44
                          try clear qi44
                          try clear c45
                          try clear c46
                          try clear c46b0
                          try clear c46b1
                          try clear c50
                          try clear hcz20_0
                          try clear hcz20_1
                          try clear hcz20_2
                          try clear hcz20_3
                          try clear hcz29_0
                          try clear hcz29_1
                          try clear hcz29_2
                          try clear hcz29_3
                          try clear hcz32_0
                          try clear hcz32_1
                          try clear hcz32_2
                          try clear hcz32_3
                          try clear hcz34_0
                          try clear hcz34_1
                          try clear hcz34_2
                          try clear hcz34_3
                          try clear hcz36_0
                          try clear hcz36_1
                          try clear hcz36_2
                          try clear hcz36_3
                          try clear hcz40_0
                          try clear hcz40_1
                          try clear hcz40_2
                          try clear hcz40_3
                          try clear hcz6_0
                          try clear hcz6_1
                          try clear hcz6_2
                          try clear hcz6_3
                          try clear hfz20_0
                          try clear hfz20_1
                          try clear hfz20_2
                          try clear hfz20_3
                          try clear hfz29_0
                          try clear hfz29_1
                          try clear hfz29_2
                          try clear hfz29_3
                          try clear hfz32_0
                          try clear hfz32_1
                          try clear hfz32_2
                          try clear hfz32_3
                          try clear hfz34_0
                          try clear hfz34_1
                          try clear hfz34_2
                          try clear hfz34_3
                          try clear hfz36_0
                          try clear hfz36_1
                          try clear hfz36_2
                          try clear hfz36_3
                          try clear hfz40_0
                          try clear hfz40_1
                          try clear hfz40_2
                          try clear hfz40_3
                          try clear hfz6_0
                          try clear hfz6_1
                          try clear hfz6_2
                          try clear hfz6_3
                          try clear p1
                          try clear p10
                          try clear p2
                          try clear p42
                          try clear p44
                          try clear p6
                          try clear p8
                          try clear q1
                          try clear q10
                          try clear q42
                          try clear q44
                          try clear q8
                          obtain ⟨x6_3, x15_3, x430000_3, x431002_3, u431002, rfl, rfl, HA, HK3, HO_431002, HO_431003, BK429, BK430, HB⟩ := hrel
                          cases gk with
                          | zero => exact absurd HA.out (by simp [cisternref11_DocDecode.l2])
                          | succ k3 =>
                            have H := HA.out
                            clear HA
                            simp only [cisternref11_DocDecode.l2] at H
                            by_cases c51 : x15_3 < (wrap64 ((wrap64 (bt a0 1)) - 1))
                            · rw [if_pos c51] at H
                              have c51b0 : decide (x15_3 < (wrap64 ((wrap64 (bt a0 1)) - 1))) = true := decide_eq_true c51
                              clear c51
                              replace H := Option.bind_eq_some_iff.mp H
                              obtain ⟨⟨t443, t444, t445⟩, A520, H⟩ := H
                              replace H : (if t445 = true then (if x431002_3.length < 8796093022208 then (cisternref11_DocDecode.l2 k3 a0 (wrap64 (bt a0 1)) t444 (wrap64 (x15_3 + 1)) ((bt a0 0) == 1) (x431002_3 ++ [t443]) x431003_2) else (none)) else (some (false, ([] : List (S48)), ([] : List ByteArray), ([] : List Int), 2))) = some (r1, r2, r3, r4, r5) := H
                              have A52 := Aside0.mk A520
                              clear A520
                              by_cases c53 : t445 = true
                              · subst c53
                                have H1 : (if x431002_3.length < 8796093022208 then (cisternref11_DocDecode.l2 k3 a0 (wrap64 (bt a0 1)) t444 (wrap64 (x15_3 + 1)) ((bt a0 0) == 1) (x431002_3 ++ [t443]) x431003_2) else (none)) = some (r1, r2, r3, r4, r5) := by rw [if_pos rfl] at H; exact H
                                clear H
                                have H := H1
                                clear H1
                                by_cases c54 : x431002_3.length < 8796093022208
                                · rw [if_pos c54] at H
                                  have LMc54 := Aside0.mk c54
                                  clear c54
                                  obtain ⟨y446, hy446⟩ : ∃ y_ : List ByteArray, y_ = (x431002_3 ++ [t443]) := ⟨_, rfl⟩
                                  replace H : (cisternref11_DocDecode.l2 k3 a0 (wrap64 (bt a0 1)) t444 (wrap64 (x15_3 + 1)) ((bt a0 0) == 1) y446 x431003_2) = some (r1, r2, r3, r4, r5) := by first | (rw [hy446]; with_reducible exact H) | (have H2_ := (Option.bind_some _ _).symm.trans H; rw [hy446]; with_reducible exact H2_) | (have H2_ := (Option.bind_some _ _).symm.trans H; with_reducible exact H2_) | with_reducible exact H | (rw [hy446]; exact H) | exact H
                                  have Ny446 := Aside0.mk hy446
                                  clear hy446
                                  have H' := Aside0.mk H
                                  clear H
                                  go_wp2_with (first | ((with_reducible refine gate_callee (f := 50) rfl ?_); refine goesL_ (some 104) rfl rfl Try.func50 (by kernel_rfl) rfl #[.string x6_3] rfl (by (try simp only [List.map_toArray, List.map_cons, List.map_nil]); first | done | rfl | (simp only [List.length_drop, List.length_take]; rfl)) ?_; (with_reducible refine (cisternref11_take.calls x6_3 t443 t444 true _ A52.out).mono ?_); rintro e w' ⟨rfl, ⟨nd, rfl⟩⟩; refine ⟨_, rfl, ?_⟩; (try (rw [drewN_self wr]; generalize hq_ : World.drewN wr _ = wr; have n0_ : Aside0 (Kd.R Kd.string 9 wr w.heap.size (fun _ => True) u431002 x431002_3) := ⟨by rw [← hq_]; exact (by (with_reducible repeat (first | apply Kd.R_alloc | apply Kd.R_drewN | apply Kd.R_drew)); exact HO_431002.out)⟩; have n1_ : Aside0 (Kd.R (Kd.int .i64) 3 wr w.heap.size (fun _ => True) u431003 x431003_2) := ⟨by rw [← hq_]; exact (by (with_reducible repeat (first | apply Kd.R_alloc | apply Kd.R_drewN | apply Kd.R_drew)); exact HO_431003.out)⟩; have n2_ : Aside0 (wr.heap[gb429]? = some (.cells #[.bool x430000_3, .slice none 0 0, .slice none 0 0, .slice none 0 0] 26 (0, 0))) := ⟨by rw [← hq_]; exact (by (with_reducible repeat (first | refine blk_drewN ?_ _ | refine blk_drew ?_ | refine blk_alloc ?_ _)); exact BK429.out)⟩; have n3_ : Aside0 (wr.heap[gb430]? = some (.cells #[.bool ((bt a0 0) == 1), .slice none 0 0, u431002, u431003] 26 (0, 0))) := ⟨by rw [← hq_]; exact (by (with_reducible repeat (first | refine blk_drewN ?_ _ | refine blk_drew ?_ | refine blk_alloc ?_ _)); exact BK430.out)⟩; have n4_ : Aside0 (Below w.heap.size w wr) := ⟨by rw [← hq_]; exact (by repeat (first | (with_reducible first | exact HB.out | apply below_alloc | apply pw_below_drewN | apply below_drew1 | refine below_set ?_ GE429.out | refine below_set ?_ GE430.out) | exact HB.out))⟩; clear HO_431002 HO_431003 BK429 BK430 HB hq_; have HO_431002 := n0_; have HO_431003 := n1_; have BK429 := n2_; have BK430 := n3_; have HB := n4_; clear n0_ n1_ n2_ n3_ n4_)); have hnb55 := NB430_429.out; have hnc55 := NB429_430.out; have hcz56_0 : wr.cell? ⟨gb430, 0, none⟩ = some (.bool ((bt a0 0) == 1)) := (blk_cell BK430.out 0).trans rfl; have hcz56_1 : wr.cell? ⟨gb430, 1, none⟩ = some (.slice none 0 0) := (blk_cell BK430.out 1).trans rfl; have hcz56_2 : wr.cell? ⟨gb430, 2, none⟩ = some (u431002) := (blk_cell BK430.out 2).trans rfl; have hcz56_3 : wr.cell? ⟨gb430, 3, none⟩ = some (u431003) := (blk_cell BK430.out 3).trans rfl; have hfz56_0 := blk_frozen BK430.out 0; have hfz56_1 := blk_frozen BK430.out 1; have hfz56_2 := blk_frozen BK430.out 2; have hfz56_3 := blk_frozen BK430.out 3) | ((with_reducible refine gate_builtin (b := .append) (xs := #[.tmp 112, .tmp 114]) rfl ?_); (try (refine gate_guard (by rfl) ?_; dsimp only)); at_builtin; refine Kd.R_append Kd.string (w0 := w) w.heap.size rfl (.tmp 112) (.tmp 114) 23 9 (.string ⟨#[]⟩) 16 rfl Try.underlying23 info9 rfl (by decide) (by omega) u431002 x431002_3 t443 [.string t443] (fun _ => True) (fun _ => False) rfl rfl ?aP (fun _ hk => hk.elim) ?aF ?aO ?aB ?aS ?aL ?_; (case aP => exact rfl); (case aB => exact (by repeat (first | (with_reducible first | exact HB.out | apply below_alloc | apply pw_below_drewN | apply below_drew1 | refine below_set ?_ GE429.out | refine below_set ?_ GE430.out) | exact HB.out))); (case aF => exact (fun _ _ => trivial)); (case aO => exact (by (with_reducible repeat (first | apply Kd.R_alloc | apply Kd.R_drewN | apply Kd.R_drew)); exact HO_431002.out)); (case aS => exact (below_size (by repeat (first | (with_reducible first | exact HB.out | apply below_alloc | apply pw_below_drewN | apply below_drew1 | refine below_set ?_ GE429.out | refine below_set ?_ GE430.out) | exact HB.out)))); (case aL => have := LMc54.out; omega); intro v447 w57 ho hb hg hat; rw [← Ny446.out] at ho; have n0_ := Aside0.mk (Kd.R_over' (by (with_reducible repeat (first | apply Kd.R_alloc | apply Kd.R_drewN | apply Kd.R_drew)); exact HO_431003.out) (Kd.R_typed (by (with_reducible repeat (first | apply Kd.R_alloc | apply Kd.R_drewN | apply Kd.R_drew)); exact HO_431002.out)) (by decide) hg); have n1_ := Aside0.mk (blk_grown (g := gb429) (o := .cells #[.bool x430000_3, .slice none 0 0, .slice none 0 0, .slice none 0 0] 26 (0, 0)) (by (with_reducible repeat (first | refine blk_drewN ?_ _ | refine blk_drew ?_ | refine blk_alloc ?_ _)); exact BK429.out) hg (Kd.R_ne HO_431002.out BK429.out (by decide))); have n2_ := Aside0.mk (blk_grown (g := gb430) (o := .cells #[.bool ((bt a0 0) == 1), .slice none 0 0, u431002, u431003] 26 (0, 0)) (by (with_reducible repeat (first | refine blk_drewN ?_ _ | refine blk_drew ?_ | refine blk_alloc ?_ _)); exact BK430.out) hg (Kd.R_ne HO_431002.out BK430.out (by decide))); have n3_ := Aside0.mk (hb); have n4_ := Aside0.mk (ho); clear HO_431003; clear BK429; clear BK430; clear HB; clear HO_431002; have HO_431003 := n0_; have BK429 := n1_; have BK430 := n2_; have HB := n3_; have HO448 := n4_; clear n0_ n1_ n2_ n3_ n4_; clear ho hb hg hat; obtain ⟨Ao58, co58, eo58⟩ := Kd.R_slice HO448.out; subst eo58; have hcz59_0 : w57.cell? ⟨gb430, 0, none⟩ = some (.bool ((bt a0 0) == 1)) := (blk_cell BK430.out 0).trans rfl; have hcz59_1 : w57.cell? ⟨gb430, 1, none⟩ = some (.slice none 0 0) := (blk_cell BK430.out 1).trans rfl; have hcz59_2 : w57.cell? ⟨gb430, 2, none⟩ = some (u431002) := (blk_cell BK430.out 2).trans rfl; have hcz59_3 : w57.cell? ⟨gb430, 3, none⟩ = some (u431003) := (blk_cell BK430.out 3).trans rfl; have hfz59_0 := blk_frozen BK430.out 0; have hfz59_1 := blk_frozen BK430.out 1; have hfz59_2 := blk_frozen BK430.out 2; have hfz59_3 := blk_frozen BK430.out 3))
                                  go_roundg k3
                                  case measure => have := HJ1.out; have := HK2.out; have := HK3.out; omega
                                  case rel => exact ⟨(t444), (wrap64 (x15_3 + 1)), (x430000_3), (y446), (.slice Ao58 y446.length co58), (by first | rfl | (simp; done) | (simp [*]; done)), (by first | rfl | (simp; done) | (simp [*]; done)), H', ⟨by have := HJ1.out; have := HK2.out; have := HK3.out; omega⟩, ⟨by (with_reducible repeat (first | apply Kd.R_alloc | apply Kd.R_drewN | apply Kd.R_drew)); exact Kd.R_mono (Kd.R_far (p := ⟨gb430, 2, none⟩) (Kd.R_types HO448.out BK430.out (by decide)) (fun _ hk => hk.2) (.slice Ao58 y446.length co58)) (fun _ hk => trivial)⟩, ⟨by (with_reducible repeat (first | apply Kd.R_alloc | apply Kd.R_drewN | apply Kd.R_drew)); exact Kd.R_mono (Kd.R_far (p := ⟨gb430, 2, none⟩) (Kd.R_types HO_431003.out BK430.out (by decide)) (fun _ hk => hk.2) (.slice Ao58 y446.length co58)) (fun _ hk => trivial)⟩, ⟨by (with_reducible repeat (first | refine blk_drewN ?_ _ | refine blk_drew ?_ | refine blk_alloc ?_ _)); refine blk_far ?_ NB429_430.out _; (with_reducible repeat (first | refine blk_drewN ?_ _ | refine blk_drew ?_ | refine blk_alloc ?_ _)); exact BK429.out⟩, ⟨by (with_reducible repeat (first | refine blk_drewN ?_ _ | refine blk_drew ?_ | refine blk_alloc ?_ _)); refine blk_put (cs := #[.bool ((bt a0 0) == 1), .slice none 0 0, u431002, u431003]) ?_ 2 _ (by first | rfl | simp [*]); (with_reducible repeat (first | refine blk_drewN ?_ _ | refine blk_drew ?_ | refine blk_alloc ?_ _)); exact BK430.out⟩, ⟨by repeat (first | (with_reducible first | exact HB.out | apply below_alloc | apply pw_below_drewN | apply below_drew1 | refine below_set ?_ GE429.out | refine below_set ?_ GE430.out) | exact HB.out)⟩⟩
                                · rw [if_neg c54] at H
                                  exact absurd H (by simp)
                              · replace c53 := Bool.eq_false_iff.mpr c53
                                subst c53
                                have H1 : (some (false, ([] : List (S48)), ([] : List ByteArray), ([] : List Int), 2)) = some (r1, r2, r3, r4, r5) := by rw [if_neg (show ¬ (false = true) by decide)] at H; exact H
                                clear H
                                have H := H1
                                clear H1
                                simp only [Option.some.injEq, Prod.mk.injEq] at H
                                obtain ⟨rfl, rfl, rfl, rfl, rfl⟩ := H
                                go_wp2_with (first | ((with_reducible refine gate_callee (f := 50) rfl ?_); refine goesL_ (some 104) rfl rfl Try.func50 (by kernel_rfl) rfl #[.string x6_3] rfl (by (try simp only [List.map_toArray, List.map_cons, List.map_nil]); first | done | rfl | (simp only [List.length_drop, List.length_take]; rfl)) ?_; (with_reducible refine (cisternref11_take.calls x6_3 t443 t444 false _ A52.out).mono ?_); rintro e w' ⟨rfl, ⟨nd, rfl⟩⟩; refine ⟨_, rfl, ?_⟩; (try (rw [drewN_self wr]; generalize hq_ : World.drewN wr _ = wr; have n0_ : Aside0 (Kd.R Kd.string 9 wr w.heap.size (fun _ => True) u431002 x431002_3) := ⟨by rw [← hq_]; exact (by (with_reducible repeat (first | apply Kd.R_alloc | apply Kd.R_drewN | apply Kd.R_drew)); exact HO_431002.out)⟩; have n1_ : Aside0 (Kd.R (Kd.int .i64) 3 wr w.heap.size (fun _ => True) u431003 x431003_2) := ⟨by rw [← hq_]; exact (by (with_reducible repeat (first | apply Kd.R_alloc | apply Kd.R_drewN | apply Kd.R_drew)); exact HO_431003.out)⟩; have n2_ : Aside0 (wr.heap[gb429]? = some (.cells #[.bool x430000_3, .slice none 0 0, .slice none 0 0, .slice none 0 0] 26 (0, 0))) := ⟨by rw [← hq_]; exact (by (with_reducible repeat (first | refine blk_drewN ?_ _ | refine blk_drew ?_ | refine blk_alloc ?_ _)); exact BK429.out)⟩; have n3_ : Aside0 (wr.heap[gb430]? = some (.cells #[.bool ((bt a0 0) == 1), .slice none 0 0, u431002, u431003] 26 (0, 0))) := ⟨by rw [← hq_]; exact (by (with_reducible repeat (first | refine blk_drewN ?_ _ | refine blk_drew ?_ | refine blk_alloc ?_ _)); exact BK430.out)⟩; have n4_ : Aside0 (Below w.heap.size w wr) := ⟨by rw [← hq_]; exact (by repeat (first | (with_reducible first | exact HB.out | apply below_alloc | apply pw_below_drewN | apply below_drew1 | refine below_set ?_ GE429.out | refine below_set ?_ GE430.out) | exact HB.out))⟩; clear HO_431002 HO_431003 BK429 BK430 HB hq_; have HO_431002 := n0_; have HO_431003 := n1_; have BK429 := n2_; have BK430 := n3_; have HB := n4_; clear n0_ n1_ n2_ n3_ n4_)); have hnb60 := NB429_430.out; have hnc60 := NB430_429.out; have hcz61_0 : wr.cell? ⟨gb429, 0, none⟩ = some (.bool x430000_3) := (blk_cell BK429.out 0).trans rfl; have hcz61_1 : wr.cell? ⟨gb429, 1, none⟩ = some (.slice none 0 0) := (blk_cell BK429.out 1).trans rfl; have hcz61_2 : wr.cell? ⟨gb429, 2, none⟩ = some (.slice none 0 0) := (blk_cell BK429.out 2).trans rfl; have hcz61_3 : wr.cell? ⟨gb429, 3, none⟩ = some (.slice none 0 0) := (blk_cell BK429.out 3).trans rfl; have hfz61_0 := blk_frozen BK429.out 0; have hfz61_1 := blk_frozen BK429.out 1; have hfz61_2 := blk_frozen BK429.out 2; have hfz61_3 := blk_frozen BK429.out 3))
                                refine bodyPost_ret (results_ct rfl _ _ gb429 26 #[.bool false, .slice none 0 0, .slice none 0 0, .slice none 0 0] (0, 0) _ rfl (by (with_reducible repeat (first | refine blk_drewN ?_ _ | refine blk_drew ?_ | refine blk_alloc ?_ _)); refine blk_put (cs := #[.bool false, .slice none 0 0, .slice none 0 0, .slice none 0 0]) ?_ 3 _ (by first | rfl | simp [*]); (with_reducible repeat (first | refine blk_drewN ?_ _ | refine blk_drew ?_ | refine blk_alloc ?_ _)); refine blk_put (cs := #[.bool false, .slice none 0 0, .slice none 0 0, .slice none 0 0]) ?_ 2 _ (by first | rfl | simp [*]); (with_reducible repeat (first | refine blk_drewN ?_ _ | refine blk_drew ?_ | refine blk_alloc ?_ _)); refine blk_put (cs := #[.bool false, .slice none 0 0, .slice none 0 0, .slice none 0 0]) ?_ 1 _ (by first | rfl | simp [*]); (with_reducible repeat (first | refine blk_drewN ?_ _ | refine blk_drew ?_ | refine blk_alloc ?_ _)); refine blk_put (cs := #[.bool x430000_3, .slice none 0 0, .slice none 0 0, .slice none 0 0]) ?_ 0 _ (by first | rfl | simp [*]); (with_reducible repeat (first | refine blk_drewN ?_ _ | refine blk_drew ?_ | refine blk_alloc ?_ _)); exact BK429.out) Try.underlying26 rfl (by kernel_rfl)) rfl ?_
                                exact ⟨_, _, _, by first | rfl | (simp [errW_none, errW_some] <;> rfl) | (simp [*, errW_none, errW_some] <;> rfl), by first | exact Kd.R_nil _ _ _ _ _ | exact Kd.N_nil _ _ _ _ _ | exact Kd.V_nil _ _ _ _ _ | exact Kd.Q_nil _ _ _ _ _ | exact Kd.S_nil _ _ _ _ _, by first | exact Kd.R_nil _ _ _ _ _ | exact Kd.N_nil _ _ _ _ _ | exact Kd.V_nil _ _ _ _ _ | exact Kd.Q_nil _ _ _ _ _ | exact Kd.S_nil _ _ _ _ _, by first | exact Kd.R_nil _ _ _ _ _ | exact Kd.N_nil _ _ _ _ _ | exact Kd.V_nil _ _ _ _ _ | exact Kd.Q_nil _ _ _ _ _ | exact Kd.S_nil _ _ _ _ _, by repeat (first | (with_reducible first | exact HB.out | apply below_alloc | apply pw_below_drewN | apply below_drew1 | refine below_set ?_ GE429.out | refine below_set ?_ GE430.out) | exact HB.out)⟩
                            · rw [if_neg c51] at H
                              have c51b0 : decide (x15_3 < (wrap64 ((wrap64 (bt a0 1)) - 1))) = false := decide_eq_false c51
                              clear c51
                              have H' := Aside0.mk H
                              clear H
                              go_wp2
                              go_meet
                              case rel => exact ⟨_, (x430000_3), (([] : List (S48))), (x431002_3), (x431003_2), (.slice none 0 0), (u431002), (u431003), H', ⟨by have := HJ1.out; have := HK2.out; have := HK3.out; first | omega | exact Nat.le_refl _⟩, ⟨by first | exact Kd.R_nil _ _ _ _ _ | exact Kd.N_nil _ _ _ _ _ | exact Kd.V_nil _ _ _ _ _ | exact Kd.Q_nil _ _ _ _ _ | exact Kd.S_nil _ _ _ _ _⟩, ⟨by (with_reducible repeat (first | apply Kd.R_alloc | apply Kd.R_drewN | apply Kd.R_drew)); exact HO_431002.out⟩, ⟨by (with_reducible repeat (first | apply Kd.R_alloc | apply Kd.R_drewN | apply Kd.R_drew)); exact HO_431003.out⟩, ⟨by (with_reducible repeat (first | refine blk_drewN ?_ _ | refine blk_drew ?_ | refine blk_alloc ?_ _)); exact BK429.out⟩, ⟨by (with_reducible repeat (first | refine blk_drewN ?_ _ | refine blk_drew ?_ | refine blk_alloc ?_ _)); exact BK430.out⟩, ⟨by repeat (first | (with_reducible first | exact HB.out | apply below_alloc | apply pw_below_drewN | apply below_drew1 | refine below_set ?_ GE429.out | refine below_set ?_ GE430.out) | exact HB.out)⟩⟩
              case rest =>
                clear HC12
                try clear c1
                try clear p1
                try clear q1
                try clear hx1
                try clear qi1
                try clear c2
                try clear p2
                try clear c3
                try clear c4
                try clear c4b0
                try clear c4b1
                try clear p4
                try clear q4
                try clear hx4
                try clear qi4
                try clear c5
                try clear c6
                try clear p6
                try clear c7
                try clear c7b0
                try clear c7b1
                try clear p8
                try clear q8
                try clear hx8
                try clear qi8
                try clear c9
                try clear c9b0
                try clear c9b1
                try clear p10
                try clear q10
                try clear hx10
                try clear qi10
                try clear c11
                try clear c11b0
                try clear c11b1
                try clear c19
                try clear c21
                try clear c21b0
                try clear c21b1
                try clear c22
                try clear c22b0
                try clear c24
                try clear c25
                try clear c26
                try clear c27
                try clear c28
                try clear c33
                try clear c35
                try clear c37
                try clear c37b0
                try clear c38
                try clear c38b0
                try clear c38b1
                try clear c39
                try clear c41
                try clear c41b0
                try clear c41b1
                try clear p42
                try clear q42
                try clear hx42
                try clear qi42
                try clear c43
                try clear c43b0
                try clear c43b1
                try clear p44
                try clear q44
                try clear hx44
                try clear qi44
                try clear c45
                try clear c46
                try clear c46b0
                try clear c46b1
                try clear c50
                try clear c51
                try clear c51b0
                try clear c53
                try clear c54
                try clear c55
                try clear c60
                try clear hcz20_0
                try clear hcz20_1
                try clear hcz20_2
                try clear hcz20_3
                try clear hcz29_0
                try clear hcz29_1
                try clear hcz29_2
                try clear hcz29_3
                try clear hcz32_0
                try clear hcz32_1
                try clear hcz32_2
                try clear hcz32_3
                try clear hcz34_0
                try clear hcz34_1
                try clear hcz34_2
                try clear hcz34_3
                try clear hcz36_0
                try clear hcz36_1
                try clear hcz36_2
                try clear hcz36_3
                try clear hcz40_0
                try clear hcz40_1
                try clear hcz40_2
                try clear hcz40_3
                try clear hcz56_0
                try clear hcz56_1
                try clear hcz56_2
                try clear hcz56_3
                try clear hcz59_0
                try clear hcz59_1
                try clear hcz59_2
                try clear hcz59_3
                try clear hcz61_0
                try clear hcz61_1
                try clear hcz61_2
                try clear hcz61_3
                try clear hcz6_0
                try clear hcz6_1
                try clear hcz6_2
                try clear hcz6_3
                try clear hfz20_0
                try clear hfz20_1
                try clear hfz20_2
                try clear hfz20_3
                try clear hfz29_0
                try clear hfz29_1
                try clear hfz29_2
                try clear hfz29_3
                try clear hfz32_0
                try clear hfz32_1
                try clear hfz32_2
                try clear hfz32_3
                try clear hfz34_0
                try clear hfz34_1
                try clear hfz34_2
                try clear hfz34_3
                try clear hfz36_0
                try clear hfz36_1
                try clear hfz36_2
                try clear hfz36_3
                try clear hfz40_0
                try clear hfz40_1
                try clear hfz40_2
                try clear hfz40_3
                try clear hfz56_0
                try clear hfz56_1
                try clear hfz56_2
                try clear hfz56_3
                try clear hfz59_0
                try clear hfz59_1
                try clear hfz59_2
                try clear hfz59_3
                try clear hfz61_0
                try clear hfz61_1
                try clear hfz61_2
                try clear hfz61_3
                try clear hfz6_0
                try clear hfz6_1
                try clear hfz6_2
                try clear hfz6_3
                try clear p1
                try clear p10
                try clear p2
                try clear p4
                try clear p42
                try clear p44
                try clear p6
                try clear p8
                try clear q1
                try clear q10
                try clear q4
                try clear q42
                try clear q44
                try clear q8
                obtain ⟨kq, x430000_11, x431001_11, x431002_11, x431003_11, u431001, u431002, u431003, HA, HJ11, HO_431001, HO_431002, HO_431003, BK429, BK430, HB⟩ := hcut
                cases kq with
                | zero => exact absurd HA.out (by simp [cisternref11_DocDecode.j4])
                | succ kj11 =>
                  have H := HA.out
                  clear HA
                  simp only [cisternref11_DocDecode.j4] at H
                  replace H := Option.bind_eq_some_iff.mp H
                  obtain ⟨t449, A620, H⟩ := H
                  replace H : (if t449 = true then ((cisternref11_Encode.f kj11 ((bt a0 0) == 1) x431001_11 x431002_11 x431003_11).bind fun t450 => (if t450.toList = a0.toList then (some (((bt a0 0) == 1), x431001_11, x431002_11, x431003_11, 0)) else (some (false, ([] : List (S48)), ([] : List ByteArray), ([] : List Int), 2)))) else (some (false, ([] : List (S48)), ([] : List ByteArray), ([] : List Int), 2))) = some (r1, r2, r3, r4, r5) := H
                  have A62 := Aside0.mk A620
                  clear A620
                  by_cases c63 : t449 = true
                  · subst c63
                    have H1 : ((cisternref11_Encode.f kj11 ((bt a0 0) == 1) x431001_11 x431002_11 x431003_11).bind fun t450 => (if t450.toList = a0.toList then (some (((bt a0 0) == 1), x431001_11, x431002_11, x431003_11, 0)) else (some (false, ([] : List (S48)), ([] : List ByteArray), ([] : List Int), 2)))) = some (r1, r2, r3, r4, r5) := by rw [if_pos rfl] at H; exact H
                    clear H
                    have H := H1
                    clear H1
                    replace H := Option.bind_eq_some_iff.mp H
                    obtain ⟨t450, A640, H⟩ := H
                    replace H : (if t450.toList = a0.toList then (some (((bt a0 0) == 1), x431001_11, x431002_11, x431003_11, 0)) else (some (false, ([] : List (S48)), ([] : List ByteArray), ([] : List Int), 2))) = some (r1, r2, r3, r4, r5) := H
                    have A64 := Aside0.mk A640
                    clear A640
                    by_cases c65 : t450.toList = a0.toList
                    · rw [if_pos c65] at H
                      have c65b0 : (t450.toList == a0.toList) = true := beq_iff_eq.mpr c65
                      have c65b1 : (t450.toList != a0.toList) = false := bne_eq_false_iff_eq.mpr c65
                      clear c65
                      simp only [Option.some.injEq, Prod.mk.injEq] at H
                      obtain ⟨rfl, rfl, rfl, rfl, rfl⟩ := H
                      have hnb66 := NB430_429.out
                      have hnc66 := NB429_430.out
                      have hcz67_0 : wc.cell? ⟨gb430, 0, none⟩ = some (.bool ((bt a0 0) == 1)) := (blk_cell BK430.out 0).trans rfl
                      have hcz67_1 : wc.cell? ⟨gb430, 1, none⟩ = some (u431001) := (blk_cell BK430.out 1).trans rfl
                      have hcz67_2 : wc.cell? ⟨gb430, 2, none⟩ = some (u431002) := (blk_cell BK430.out 2).trans rfl
                      have hcz67_3 : wc.cell? ⟨gb430, 3, none⟩ = some (u431003) := (blk_cell BK430.out 3).trans rfl
                      have hfz67_0 := blk_frozen BK430.out 0
                      have hfz67_1 := blk_frozen BK430.out 1
                      have hfz67_2 := blk_frozen BK430.out 2
                      have hfz67_3 := blk_frozen BK430.out 3
                      obtain ⟨Ao68, co68, eo68⟩ := Kd.R_slice HO_431001.out
                      subst eo68
                      obtain ⟨Ao69, co69, eo69⟩ := Kd.R_slice HO_431002.out
                      subst eo69
                      obtain ⟨Ao70, co70, eo70⟩ := Kd.R_slice HO_431003.out
                      subst eo70
                      go_wp2_with (first | ((with_reducible refine gate_callee (f := 26) rfl ?_); refine goesL_ (some 119) rfl rfl Try.func26 (by kernel_rfl) rfl #[.agg #[.bool ((bt a0 0) == 1), .slice Ao68 x431001_11.length co68, .slice Ao69 x431002_11.length co69, .slice Ao70 x431003_11.length co70]] rfl (by (try simp only [List.map_toArray, List.map_cons, List.map_nil]); first | done | rfl | (simp only [List.length_drop, List.length_take]; rfl)) ?_; (with_reducible refine (cisternref11_Right.calls ((bt a0 0) == 1) _ _ x431001_11 _ _ x431002_11 _ _ x431003_11 true _ ?side1 ?side2 ?side3 ?side4 ?side5 ?side6 A62.out).mono ?_); (case side1 => repeat (first | exact (Kd.R_reads' HO_431001.out).2.2 | (with_reducible refine Kd.C_alloc ?_ _) | (with_reducible refine Kd.C_drewN ?_ _) | (with_reducible refine Kd.C_drew ?_))); (case side2 => exact (Kd.R_reads' HO_431001.out).2.1); (case side3 => repeat (first | exact (Kd.R_reads' HO_431002.out).2.2 | (with_reducible refine Kd.C_alloc ?_ _) | (with_reducible refine Kd.C_drewN ?_ _) | (with_reducible refine Kd.C_drew ?_))); (case side4 => exact (Kd.R_reads' HO_431002.out).2.1); (case side5 => repeat (first | exact (Kd.R_reads' HO_431003.out).2.2 | (with_reducible refine Kd.C_alloc ?_ _) | (with_reducible refine Kd.C_drewN ?_ _) | (with_reducible refine Kd.C_drew ?_))); (case side6 => exact (Kd.R_reads' HO_431003.out).2.1); rintro e w71 ⟨rfl, hb⟩; refine ⟨_, rfl, ?_⟩; have n0_ := Aside0.mk (Kd.R_below (by (with_reducible repeat (first | apply Kd.R_alloc | apply Kd.R_drewN | apply Kd.R_drew)); exact HO_431001.out) hb); have n1_ := Aside0.mk (Kd.R_below (by (with_reducible repeat (first | apply Kd.R_alloc | apply Kd.R_drewN | apply Kd.R_drew)); exact HO_431002.out) hb); have n2_ := Aside0.mk (Kd.R_below (by (with_reducible repeat (first | apply Kd.R_alloc | apply Kd.R_drewN | apply Kd.R_drew)); exact HO_431003.out) hb); have n3_ := Aside0.mk (blk_below (g := gb429) (o := .cells #[.bool x430000_11, .slice none 0 0, .slice none 0 0, .slice none 0 0] 26 (0, 0)) (by (with_reducible repeat (first | refine blk_drewN ?_ _ | refine blk_drew ?_ | refine blk_alloc ?_ _)); exact BK429.out) hb); have n4_ := Aside0.mk (blk_below (g := gb430) (o := .cells #[.bool ((bt a0 0) == 1), .slice Ao68 x431001_11.length co68, .slice Ao69 x431002_11.length co69, .slice Ao70 x431003_11.length co70] 26 (0, 0)) (by (with_reducible repeat (first | refine blk_drewN ?_ _ | refine blk_drew ?_ | refine blk_alloc ?_ _)); exact BK430.out) hb); have n5_ := Aside0.mk (below_step (by repeat (first | (with_reducible first | exact HB.out | apply below_alloc | apply pw_below_drewN | apply below_drew1 | refine below_set ?_ GE429.out | refine below_set ?_ GE430.out) | exact HB.out)) hb); clear HO_431001; clear HO_431002; clear HO_431003; clear BK429; clear BK430; clear HB; have HO_431001 := n0_; have HO_431002 := n1_; have HO_431003 := n2_; have BK429 := n3_; have BK430 := n4_; have HB := n5_; clear n0_ n1_ n2_ n3_ n4_ n5_; (try clear hb); (try clear hb2); (try clear hk); (try clear hi); have hcz72_0 : w71.cell? ⟨gb430, 0, none⟩ = some (.bool ((bt a0 0) == 1)) := (blk_cell BK430.out 0).trans rfl; have hcz72_1 : w71.cell? ⟨gb430, 1, none⟩ = some (.slice Ao68 x431001_11.length co68) := (blk_cell BK430.out 1).trans rfl; have hcz72_2 : w71.cell? ⟨gb430, 2, none⟩ = some (.slice Ao69 x431002_11.length co69) := (blk_cell BK430.out 2).trans rfl; have hcz72_3 : w71.cell? ⟨gb430, 3, none⟩ = some (.slice Ao70 x431003_11.length co70) := (blk_cell BK430.out 3).trans rfl; have hfz72_0 := blk_frozen BK430.out 0; have hfz72_1 := blk_frozen BK430.out 1; have hfz72_2 := blk_frozen BK430.out 2; have hfz72_3 := blk_frozen BK430.out 3) | (go_at_call 49; (with_reducible refine (cisternref11_Encode.calls kj11 ((bt a0 0) == 1) _ _ x431001_11 _ _ x431002_11 _ _ x431003_11 t450 _ ?side1 ?side2 ?side3 ?side4 ?side5 ?side6 A64.out).mono ?_); (case side1 => repeat (first | exact (Kd.R_reads' HO_431001.out).2.2 | (with_reducible refine Kd.C_alloc ?_ _) | (with_reducible refine Kd.C_drewN ?_ _) | (with_reducible refine Kd.C_drew ?_))); (case side2 => exact (Kd.R_reads' HO_431001.out).2.1); (case side3 => repeat (first | exact (Kd.R_reads' HO_431002.out).2.2 | (with_reducible refine Kd.C_alloc ?_ _) | (with_reducible refine Kd.C_drewN ?_ _) | (with_reducible refine Kd.C_drew ?_))); (case side4 => exact (Kd.R_reads' HO_431002.out).2.1); (case side5 => repeat (first | exact (Kd.R_reads' HO_431003.out).2.2 | (with_reducible refine Kd.C_alloc ?_ _) | (with_reducible refine Kd.C_drewN ?_ _) | (with_reducible refine Kd.C_drew ?_))); (case side6 => exact (Kd.R_reads' HO_431003.out).2.1); rintro e w73 ⟨rfl, hb⟩; have n0_ := Aside0.mk (Kd.R_below (by (with_reducible repeat (first | apply Kd.R_alloc | apply Kd.R_drewN | apply Kd.R_drew)); exact HO_431001.out) hb); have n1_ := Aside0.mk (Kd.R_below (by (with_reducible repeat (first | apply Kd.R_alloc | apply Kd.R_drewN | apply Kd.R_drew)); exact HO_431002.out) hb); have n2_ := Aside0.mk (Kd.R_below (by (with_reducible repeat (first | apply Kd.R_alloc | apply Kd.R_drewN | apply Kd.R_drew)); exact HO_431003.out) hb); have n3_ := Aside0.mk (blk_below (g := gb429) (o := .cells #[.bool x430000_11, .slice none 0 0, .slice none 0 0, .slice none 0 0] 26 (0, 0)) (by (with_reducible repeat (first | refine blk_drewN ?_ _ | refine blk_drew ?_ | refine blk_alloc ?_ _)); exact BK429.out) hb); have n4_ := Aside0.mk (blk_below (g := gb430) (o := .cells #[.bool ((bt a0 0) == 1), .slice Ao68 x431001_11.length co68, .slice Ao69 x431002_11.length co69, .slice Ao70 x431003_11.length co70] 26 (0, 0)) (by (with_reducible repeat (first | refine blk_drewN ?_ _ | refine blk_drew ?_ | refine blk_alloc ?_ _)); exact BK430.out) hb); have n5_ := Aside0.mk (below_step (by repeat (first | (with_reducible first | exact HB.out | apply below_alloc | apply pw_below_drewN | apply below_drew1 | refine below_set ?_ GE429.out | refine below_set ?_ GE430.out) | exact HB.out)) hb); clear HO_431001; clear HO_431002; clear HO_431003; clear BK429; clear BK430; clear HB; have HO_431001 := n0_; have HO_431002 := n1_; have HO_431003 := n2_; have BK429 := n3_; have BK430 := n4_; have HB := n5_; clear n0_ n1_ n2_ n3_ n4_ n5_; (try clear hb); (try clear hb2); (try clear hk); (try clear hi); have hcz74_0 : w73.cell? ⟨gb430, 0, none⟩ = some (.bool ((bt a0 0) == 1)) := (blk_cell BK430.out 0).trans rfl; have hcz74_1 : w73.cell? ⟨gb430, 1, none⟩ = some (.slice Ao68 x431001_11.length co68) := (blk_cell BK430.out 1).trans rfl; have hcz74_2 : w73.cell? ⟨gb430, 2, none⟩ = some (.slice Ao69 x431002_11.length co69) := (blk_cell BK430.out 2).trans rfl; have hcz74_3 : w73.cell? ⟨gb430, 3, none⟩ = some (.slice Ao70 x431003_11.length co70) := (blk_cell BK430.out 3).trans rfl; have hfz74_0 := blk_frozen BK430.out 0; have hfz74_1 := blk_frozen BK430.out 1; have hfz74_2 := blk_frozen BK430.out 2; have hfz74_3 := blk_frozen BK430.out 3; have hcz75_0 : w73.cell? ⟨gb429, 0, none⟩ = some (.bool x430000_11) := (blk_cell BK429.out 0).trans rfl; have hcz75_1 : w73.cell? ⟨gb429, 1, none⟩ = some (.slice none 0 0) := (blk_cell BK429.out 1).trans rfl; have hcz75_2 : w73.cell? ⟨gb429, 2, none⟩ = some (.slice none 0 0) := (blk_cell BK429.out 2).trans rfl; have hcz75_3 : w73.cell? ⟨gb429, 3, none⟩ = some (.slice none 0 0) := (blk_cell BK429.out 3).trans rfl; have hfz75_0 := blk_frozen BK429.out 0; have hfz75_1 := blk_frozen BK429.out 1; have hfz75_2 := blk_frozen BK429.out 2; have hfz75_3 := blk_frozen BK429.out 3))
                      refine bodyPost_ret (results_ct rfl _ _ gb429 26 #[.bool ((bt a0 0) == 1), .slice Ao68 x431001_11.length co68, .slice Ao69 x431002_11.length co69, .slice Ao70 x431003_11.length co70] (0, 0) _ rfl (by (with_reducible repeat (first | refine blk_drewN ?_ _ | refine blk_drew ?_ | refine blk_alloc ?_ _)); refine blk_put (cs := #[.bool ((bt a0 0) == 1), .slice Ao68 x431001_11.length co68, .slice Ao69 x431002_11.length co69, .slice none 0 0]) ?_ 3 _ (by first | rfl | simp [*]); (with_reducible repeat (first | refine blk_drewN ?_ _ | refine blk_drew ?_ | refine blk_alloc ?_ _)); refine blk_put (cs := #[.bool ((bt a0 0) == 1), .slice Ao68 x431001_11.length co68, .slice none 0 0, .slice none 0 0]) ?_ 2 _ (by first | rfl | simp [*]); (with_reducible repeat (first | refine blk_drewN ?_ _ | refine blk_drew ?_ | refine blk_alloc ?_ _)); refine blk_put (cs := #[.bool ((bt a0 0) == 1), .slice none 0 0, .slice none 0 0, .slice none 0 0]) ?_ 1 _ (by first | rfl | simp [*]); (with_reducible repeat (first | refine blk_drewN ?_ _ | refine blk_drew ?_ | refine blk_alloc ?_ _)); refine blk_put (cs := #[.bool x430000_11, .slice none 0 0, .slice none 0 0, .slice none 0 0]) ?_ 0 _ (by first | rfl | simp [*]); (with_reducible repeat (first | refine blk_drewN ?_ _ | refine blk_drew ?_ | refine blk_alloc ?_ _)); exact BK429.out) Try.underlying26 rfl (by kernel_rfl)) rfl ?_
                      exact ⟨_, _, _, by first | rfl | (simp [errW_none, errW_some] <;> rfl) | (simp [*, errW_none, errW_some] <;> rfl), by (with_reducible repeat (first | apply Kd.R_alloc | apply Kd.R_drewN | apply Kd.R_drew)); exact Kd.R_mono (Kd.R_far (p := ⟨gb429, 3, none⟩) (Kd.R_far (p := ⟨gb429, 2, none⟩) (Kd.R_far (p := ⟨gb429, 1, none⟩) (Kd.R_far (p := ⟨gb429, 0, none⟩) (Kd.R_types HO_431001.out BK429.out (by decide)) (fun _ hk => hk.2) (.bool ((bt a0 0) == 1))) (fun _ hk => hk.2) (.slice Ao68 x431001_11.length co68)) (fun _ hk => hk.2) (.slice Ao69 x431002_11.length co69)) (fun _ hk => hk.2) (.slice Ao70 x431003_11.length co70)) (fun _ hk => trivial), by (with_reducible repeat (first | apply Kd.R_alloc | apply Kd.R_drewN | apply Kd.R_drew)); exact Kd.R_mono (Kd.R_far (p := ⟨gb429, 3, none⟩) (Kd.R_far (p := ⟨gb429, 2, none⟩) (Kd.R_far (p := ⟨gb429, 1, none⟩) (Kd.R_far (p := ⟨gb429, 0, none⟩) (Kd.R_types HO_431002.out BK429.out (by decide)) (fun _ hk => hk.2) (.bool ((bt a0 0) == 1))) (fun _ hk => hk.2) (.slice Ao68 x431001_11.length co68)) (fun _ hk => hk.2) (.slice Ao69 x431002_11.length co69)) (fun _ hk => hk.2) (.slice Ao70 x431003_11.length co70)) (fun _ hk => trivial), by (with_reducible repeat (first | apply Kd.R_alloc | apply Kd.R_drewN | apply Kd.R_drew)); exact Kd.R_mono (Kd.R_far (p := ⟨gb429, 3, none⟩) (Kd.R_far (p := ⟨gb429, 2, none⟩) (Kd.R_far (p := ⟨gb429, 1, none⟩) (Kd.R_far (p := ⟨gb429, 0, none⟩) (Kd.R_types HO_431003.out BK429.out (by decide)) (fun _ hk => hk.2) (.bool ((bt a0 0) == 1))) (fun _ hk => hk.2) (.slice Ao68 x431001_11.length co68)) (fun _ hk => hk.2) (.slice Ao69 x431002_11.length co69)) (fun _ hk => hk.2) (.slice Ao70 x431003_11.length co70)) (fun _ hk => trivial), by repeat (first | (with_reducible first | exact HB.out | apply below_alloc | apply pw_below_drewN | apply below_drew1 | refine below_set ?_ GE429.out | refine below_set ?_ GE430.out) | exact HB.out)⟩
                    · rw [if_neg c65] at H
                      have c65b0 : (t450.toList == a0.toList) = false := beq_eq_false_iff_ne.mpr c65
                      have c65b1 : (t450.toList != a0.toList) = true := bne_iff_ne.mpr c65
                      simp only [Option.some.injEq, Prod.mk.injEq] at H
                      obtain ⟨rfl, rfl, rfl, rfl, rfl⟩ := H
                      have hnb76 := NB430_429.out
                      have hnc76 := NB429_430.out
                      have hcz77_0 : wc.cell? ⟨gb430, 0, none⟩ = some (.bool ((bt a0 0) == 1)) := (blk_cell BK430.out 0).trans rfl
                      have hcz77_1 : wc.cell? ⟨gb430, 1, none⟩ = some (u431001) := (blk_cell BK430.out 1).trans rfl
                      have hcz77_2 : wc.cell? ⟨gb430, 2, none⟩ = some (u431002) := (blk_cell BK430.out 2).trans rfl
                      have hcz77_3 : wc.cell? ⟨gb430, 3, none⟩ = some (u431003) := (blk_cell BK430.out 3).trans rfl
                      have hfz77_0 := blk_frozen BK430.out 0
                      have hfz77_1 := blk_frozen BK430.out 1
                      have hfz77_2 := blk_frozen BK430.out 2
                      have hfz77_3 := blk_frozen BK430.out 3
                      obtain ⟨Ao78, co78, eo78⟩ := Kd.R_slice HO_431001.out
                      subst eo78
                      obtain ⟨Ao79, co79, eo79⟩ := Kd.R_slice HO_431002.out
                      subst eo79
                      obtain ⟨Ao80, co80, eo80⟩ := Kd.R_slice HO_431003.out
                      subst eo80
                      go_wp2_with (first | ((with_reducible refine gate_callee (f := 26) rfl ?_); refine goesL_ (some 119) rfl rfl Try.func26 (by kernel_rfl) rfl #[.agg #[.bool ((bt a0 0) == 1), .slice Ao78 x431001_11.length co78, .slice Ao79 x431002_11.length co79, .slice Ao80 x431003_11.length co80]] rfl (by (try simp only [List.map_toArray, List.map_cons, List.map_nil]); first | done | rfl | (simp only [List.length_drop, List.length_take]; rfl)) ?_; (with_reducible refine (cisternref11_Right.calls ((bt a0 0) == 1) _ _ x431001_11 _ _ x431002_11 _ _ x431003_11 true _ ?side1 ?side2 ?side3 ?side4 ?side5 ?side6 A62.out).mono ?_); (case side1 => repeat (first | exact (Kd.R_reads' HO_431001.out).2.2 | (with_reducible refine Kd.C_alloc ?_ _) | (with_reducible refine Kd.C_drewN ?_ _) | (with_reducible refine Kd.C_drew ?_))); (case side2 => exact (Kd.R_reads' HO_431001.out).2.1); (case side3 => repeat (first | exact (Kd.R_reads' HO_431002.out).2.2 | (with_reducible refine Kd.C_alloc ?_ _) | (with_reducible refine Kd.C_drewN ?_ _) | (with_reducible refine Kd.C_drew ?_))); (case side4 => exact (Kd.R_reads' HO_431002.out).2.1); (case side5 => repeat (first | exact (Kd.R_reads' HO_431003.out).2.2 | (with_reducible refine Kd.C_alloc ?_ _) | (with_reducible refine Kd.C_drewN ?_ _) | (with_reducible refine Kd.C_drew ?_))); (case side6 => exact (Kd.R_reads' HO_431003.out).2.1); rintro e w81 ⟨rfl, hb⟩; refine ⟨_, rfl, ?_⟩; have n0_ := Aside0.mk (Kd.R_below (by (with_reducible repeat (first | apply Kd.R_alloc | apply Kd.R_drewN | apply Kd.R_drew)); exact HO_431001.out) hb); have n1_ := Aside0.mk (Kd.R_below (by (with_reducible repeat (first | apply Kd.R_alloc | apply Kd.R_drewN | apply Kd.R_drew)); exact HO_431002.out) hb); have n2_ := Aside0.mk (Kd.R_below (by (with_reducible repeat (first | apply Kd.R_alloc | apply Kd.R_drewN | apply Kd.R_drew)); exact HO_431003.out) hb); have n3_ := Aside0.mk (blk_below (g := gb429) (o := .cells #[.bool x430000_11, .slice none 0 0, .slice none 0 0, .slice none 0 0] 26 (0, 0)) (by (with_reducible repeat (first | refine blk_drewN ?_ _ | refine blk_drew ?_ | refine blk_alloc ?_ _)); exact BK429.out) hb); have n4_ := Aside0.mk (blk_below (g := gb430) (o := .cells #[.bool ((bt a0 0) == 1), .slice Ao78 x431001_11.length co78, .slice Ao79 x431002_11.length co79, .slice Ao80 x431003_11.length co80] 26 (0, 0)) (by (with_reducible repeat (first | refine blk_drewN ?_ _ | refine blk_drew ?_ | refine blk_alloc ?_ _)); exact BK430.out) hb); have n5_ := Aside0.mk (below_step (by repeat (first | (with_reducible first | exact HB.out | apply below_alloc | apply pw_below_drewN | apply below_drew1 | refine below_set ?_ GE429.out | refine below_set ?_ GE430.out) | exact HB.out)) hb); clear HO_431001; clear HO_431002; clear HO_431003; clear BK429; clear BK430; clear HB; have HO_431001 := n0_; have HO_431002 := n1_; have HO_431003 := n2_; have BK429 := n3_; have BK430 := n4_; have HB := n5_; clear n0_ n1_ n2_ n3_ n4_ n5_; (try clear hb); (try clear hb2); (try clear hk); (try clear hi); have hcz82_0 : w81.cell? ⟨gb430, 0, none⟩ = some (.bool ((bt a0 0) == 1)) := (blk_cell BK430.out 0).trans rfl; have hcz82_1 : w81.cell? ⟨gb430, 1, none⟩ = some (.slice Ao78 x431001_11.length co78) := (blk_cell BK430.out 1).trans rfl; have hcz82_2 : w81.cell? ⟨gb430, 2, none⟩ = some (.slice Ao79 x431002_11.length co79) := (blk_cell BK430.out 2).trans rfl; have hcz82_3 : w81.cell? ⟨gb430, 3, none⟩ = some (.slice Ao80 x431003_11.length co80) := (blk_cell BK430.out 3).trans rfl; have hfz82_0 := blk_frozen BK430.out 0; have hfz82_1 := blk_frozen BK430.out 1; have hfz82_2 := blk_frozen BK430.out 2; have hfz82_3 := blk_frozen BK430.out 3) | (go_at_call 49; (with_reducible refine (cisternref11_Encode.calls kj11 ((bt a0 0) == 1) _ _ x431001_11 _ _ x431002_11 _ _ x431003_11 t450 _ ?side1 ?side2 ?side3 ?side4 ?side5 ?side6 A64.out).mono ?_); (case side1 => repeat (first | exact (Kd.R_reads' HO_431001.out).2.2 | (with_reducible refine Kd.C_alloc ?_ _) | (with_reducible refine Kd.C_drewN ?_ _) | (with_reducible refine Kd.C_drew ?_))); (case side2 => exact (Kd.R_reads' HO_431001.out).2.1); (case side3 => repeat (first | exact (Kd.R_reads' HO_431002.out).2.2 | (with_reducible refine Kd.C_alloc ?_ _) | (with_reducible refine Kd.C_drewN ?_ _) | (with_reducible refine Kd.C_drew ?_))); (case side4 => exact (Kd.R_reads' HO_431002.out).2.1); (case side5 => repeat (first | exact (Kd.R_reads' HO_431003.out).2.2 | (with_reducible refine Kd.C_alloc ?_ _) | (with_reducible refine Kd.C_drewN ?_ _) | (with_reducible refine Kd.C_drew ?_))); (case side6 => exact (Kd.R_reads' HO_431003.out).2.1); rintro e w83 ⟨rfl, hb⟩; have n0_ := Aside0.mk (Kd.R_below (by (with_reducible repeat (first | apply Kd.R_alloc | apply Kd.R_drewN | apply Kd.R_drew)); exact HO_431001.out) hb); have n1_ := Aside0.mk (Kd.R_below (by (with_reducible repeat (first | apply Kd.R_alloc | apply Kd.R_drewN | apply Kd.R_drew)); exact HO_431002.out) hb); have n2_ := Aside0.mk (Kd.R_below (by (with_reducible repeat (first | apply Kd.R_alloc | apply Kd.R_drewN | apply Kd.R_drew)); exact HO_431003.out) hb); have n3_ := Aside0.mk (blk_below (g := gb429) (o := .cells #[.bool x430000_11, .slice none 0 0, .slice none 0 0, .slice none 0 0] 26 (0, 0)) (by (with_reducible repeat (first | refine blk_drewN ?_ _ | refine blk_drew ?_ | refine blk_alloc ?_ _)); exact BK429.out) hb); have n4_ := Aside0.mk (blk_below (g := gb430) (o := .cells #[.bool ((bt a0 0) == 1), .slice Ao78 x431001_11.length co78, .slice Ao79 x431002_11.length co79, .slice Ao80 x431003_11.length co80] 26 (0, 0)) (by (with_reducible repeat (first | refine blk_drewN ?_ _ | refine blk_drew ?_ | refine blk_alloc ?_ _)); exact BK430.out) hb); have n5_ := Aside0.mk (below_step (by repeat (first | (with_reducible first | exact HB.out | apply below_alloc | apply pw_below_drewN | apply below_drew1 | refine below_set ?_ GE429.out | refine below_set ?_ GE430.out) | exact HB.out)) hb); clear HO_431001; clear HO_431002; clear HO_431003; clear BK429; clear BK430; clear HB; have HO_431001 := n0_; have HO_431002 := n1_; have HO_431003 := n2_; have BK429 := n3_; have BK430 := n4_; have HB := n5_; clear n0_ n1_ n2_ n3_ n4_ n5_; (try clear hb); (try clear hb2); (try clear hk); (try clear hi); have hcz84_0 : w83.cell? ⟨gb429, 0, none⟩ = some (.bool x430000_11) := (blk_cell BK429.out 0).trans rfl; have hcz84_1 : w83.cell? ⟨gb429, 1, none⟩ = some (.slice none 0 0) := (blk_cell BK429.out 1).trans rfl; have hcz84_2 : w83.cell? ⟨gb429, 2, none⟩ = some (.slice none 0 0) := (blk_cell BK429.out 2).trans rfl; have hcz84_3 : w83.cell? ⟨gb429, 3, none⟩ = some (.slice none 0 0) := (blk_cell BK429.out 3).trans rfl; have hfz84_0 := blk_frozen BK429.out 0; have hfz84_1 := blk_frozen BK429.out 1; have hfz84_2 := blk_frozen BK429.out 2; have hfz84_3 := blk_frozen BK429.out 3))
                      refine bodyPost_ret (results_ct rfl _ _ gb429 26 #[.bool false, .slice none 0 0, .slice none 0 0, .slice none 0 0] (0, 0) _ rfl (by (with_reducible repeat (first | refine blk_drewN ?_ _ | refine blk_drew ?_ | refine blk_alloc ?_ _)); refine blk_put (cs := #[.bool false, .slice none 0 0, .slice none 0 0, .slice none 0 0]) ?_ 3 _ (by first | rfl | simp [*]); (with_reducible repeat (first | refine blk_drewN ?_ _ | refine blk_drew ?_ | refine blk_alloc ?_ _)); refine blk_put (cs := #[.bool false, .slice none 0 0, .slice none 0 0, .slice none 0 0]) ?_ 2 _ (by first | rfl | simp [*]); (with_reducible repeat (first | refine blk_drewN ?_ _ | refine blk_drew ?_ | refine blk_alloc ?_ _)); refine blk_put (cs := #[.bool false, .slice none 0 0, .slice none 0 0, .slice none 0 0]) ?_ 1 _ (by first | rfl | simp [*]); (with_reducible repeat (first | refine blk_drewN ?_ _ | refine blk_drew ?_ | refine blk_alloc ?_ _)); refine blk_put (cs := #[.bool x430000_11, .slice none 0 0, .slice none 0 0, .slice none 0 0]) ?_ 0 _ (by first | rfl | simp [*]); (with_reducible repeat (first | refine blk_drewN ?_ _ | refine blk_drew ?_ | refine blk_alloc ?_ _)); exact BK429.out) Try.underlying26 rfl (by kernel_rfl)) rfl ?_
                      exact ⟨_, _, _, by first | rfl | (simp [errW_none, errW_some] <;> rfl) | (simp [*, errW_none, errW_some] <;> rfl), by first | exact Kd.R_nil _ _ _ _ _ | exact Kd.N_nil _ _ _ _ _ | exact Kd.V_nil _ _ _ _ _ | exact Kd.Q_nil _ _ _ _ _ | exact Kd.S_nil _ _ _ _ _, by first | exact Kd.R_nil _ _ _ _ _ | exact Kd.N_nil _ _ _ _ _ | exact Kd.V_nil _ _ _ _ _ | exact Kd.Q_nil _ _ _ _ _ | exact Kd.S_nil _ _ _ _ _, by first | exact Kd.R_nil _ _ _ _ _ | exact Kd.N_nil _ _ _ _ _ | exact Kd.V_nil _ _ _ _ _ | exact Kd.Q_nil _ _ _ _ _ | exact Kd.S_nil _ _ _ _ _, by repeat (first | (with_reducible first | exact HB.out | apply below_alloc | apply pw_below_drewN | apply below_drew1 | refine below_set ?_ GE429.out | refine below_set ?_ GE430.out) | exact HB.out)⟩
                  · replace c63 := Bool.eq_false_iff.mpr c63
                    subst c63
                    have H1 : (some (false, ([] : List (S48)), ([] : List ByteArray), ([] : List Int), 2)) = some (r1, r2, r3, r4, r5) := by rw [if_neg (show ¬ (false = true) by decide)] at H; exact H
                    clear H
                    have H := H1
                    clear H1
                    simp only [Option.some.injEq, Prod.mk.injEq] at H
                    obtain ⟨rfl, rfl, rfl, rfl, rfl⟩ := H
                    have hnb85 := NB430_429.out
                    have hnc85 := NB429_430.out
                    have hcz86_0 : wc.cell? ⟨gb430, 0, none⟩ = some (.bool ((bt a0 0) == 1)) := (blk_cell BK430.out 0).trans rfl
                    have hcz86_1 : wc.cell? ⟨gb430, 1, none⟩ = some (u431001) := (blk_cell BK430.out 1).trans rfl
                    have hcz86_2 : wc.cell? ⟨gb430, 2, none⟩ = some (u431002) := (blk_cell BK430.out 2).trans rfl
                    have hcz86_3 : wc.cell? ⟨gb430, 3, none⟩ = some (u431003) := (blk_cell BK430.out 3).trans rfl
                    have hfz86_0 := blk_frozen BK430.out 0
                    have hfz86_1 := blk_frozen BK430.out 1
                    have hfz86_2 := blk_frozen BK430.out 2
                    have hfz86_3 := blk_frozen BK430.out 3
                    obtain ⟨Ao87, co87, eo87⟩ := Kd.R_slice HO_431001.out
                    subst eo87
                    obtain ⟨Ao88, co88, eo88⟩ := Kd.R_slice HO_431002.out
                    subst eo88
                    obtain ⟨Ao89, co89, eo89⟩ := Kd.R_slice HO_431003.out
                    subst eo89
                    go_wp2_with (first | ((with_reducible refine gate_callee (f := 26) rfl ?_); refine goesL_ (some 119) rfl rfl Try.func26 (by kernel_rfl) rfl #[.agg #[.bool ((bt a0 0) == 1), .slice Ao87 x431001_11.length co87, .slice Ao88 x431002_11.length co88, .slice Ao89 x431003_11.length co89]] rfl (by (try simp only [List.map_toArray, List.map_cons, List.map_nil]); first | done | rfl | (simp only [List.length_drop, List.length_take]; rfl)) ?_; (with_reducible refine (cisternref11_Right.calls ((bt a0 0) == 1) _ _ x431001_11 _ _ x431002_11 _ _ x431003_11 false _ ?side1 ?side2 ?side3 ?side4 ?side5 ?side6 A62.out).mono ?_); (case side1 => repeat (first | exact (Kd.R_reads' HO_431001.out).2.2 | (with_reducible refine Kd.C_alloc ?_ _) | (with_reducible refine Kd.C_drewN ?_ _) | (with_reducible refine Kd.C_drew ?_))); (case side2 => exact (Kd.R_reads' HO_431001.out).2.1); (case side3 => repeat (first | exact (Kd.R_reads' HO_431002.out).2.2 | (with_reducible refine Kd.C_alloc ?_ _) | (with_reducible refine Kd.C_drewN ?_ _) | (with_reducible refine Kd.C_drew ?_))); (case side4 => exact (Kd.R_reads' HO_431002.out).2.1); (case side5 => repeat (first | exact (Kd.R_reads' HO_431003.out).2.2 | (with_reducible refine Kd.C_alloc ?_ _) | (with_reducible refine Kd.C_drewN ?_ _) | (with_reducible refine Kd.C_drew ?_))); (case side6 => exact (Kd.R_reads' HO_431003.out).2.1); rintro e w90 ⟨rfl, hb⟩; refine ⟨_, rfl, ?_⟩; have n0_ := Aside0.mk (Kd.R_below (by (with_reducible repeat (first | apply Kd.R_alloc | apply Kd.R_drewN | apply Kd.R_drew)); exact HO_431001.out) hb); have n1_ := Aside0.mk (Kd.R_below (by (with_reducible repeat (first | apply Kd.R_alloc | apply Kd.R_drewN | apply Kd.R_drew)); exact HO_431002.out) hb); have n2_ := Aside0.mk (Kd.R_below (by (with_reducible repeat (first | apply Kd.R_alloc | apply Kd.R_drewN | apply Kd.R_drew)); exact HO_431003.out) hb); have n3_ := Aside0.mk (blk_below (g := gb429) (o := .cells #[.bool x430000_11, .slice none 0 0, .slice none 0 0, .slice none 0 0] 26 (0, 0)) (by (with_reducible repeat (first | refine blk_drewN ?_ _ | refine blk_drew ?_ | refine blk_alloc ?_ _)); exact BK429.out) hb); have n4_ := Aside0.mk (blk_below (g := gb430) (o := .cells #[.bool ((bt a0 0) == 1), .slice Ao87 x431001_11.length co87, .slice Ao88 x431002_11.length co88, .slice Ao89 x431003_11.length co89] 26 (0, 0)) (by (with_reducible repeat (first | refine blk_drewN ?_ _ | refine blk_drew ?_ | refine blk_alloc ?_ _)); exact BK430.out) hb); have n5_ := Aside0.mk (below_step (by repeat (first | (with_reducible first | exact HB.out | apply below_alloc | apply pw_below_drewN | apply below_drew1 | refine below_set ?_ GE429.out | refine below_set ?_ GE430.out) | exact HB.out)) hb); clear HO_431001; clear HO_431002; clear HO_431003; clear BK429; clear BK430; clear HB; have HO_431001 := n0_; have HO_431002 := n1_; have HO_431003 := n2_; have BK429 := n3_; have BK430 := n4_; have HB := n5_; clear n0_ n1_ n2_ n3_ n4_ n5_; (try clear hb); (try clear hb2); (try clear hk); (try clear hi); have hcz91_0 : w90.cell? ⟨gb429, 0, none⟩ = some (.bool x430000_11) := (blk_cell BK429.out 0).trans rfl; have hcz91_1 : w90.cell? ⟨gb429, 1, none⟩ = some (.slice none 0 0) := (blk_cell BK429.out 1).trans rfl; have hcz91_2 : w90.cell? ⟨gb429, 2, none⟩ = some (.slice none 0 0) := (blk_cell BK429.out 2).trans rfl; have hcz91_3 : w90.cell? ⟨gb429, 3, none⟩ = some (.slice none 0 0) := (blk_cell BK429.out 3).trans rfl; have hfz91_0 := blk_frozen BK429.out 0; have hfz91_1 := blk_frozen BK429.out 1; have hfz91_2 := blk_frozen BK429.out 2; have hfz91_3 := blk_frozen BK429.out 3))
                    refine bodyPost_ret (results_ct rfl _ _ gb429 26 #[.bool false, .slice none 0 0, .slice none 0 0, .slice none 0 0] (0, 0) _ rfl (by (with_reducible repeat (first | refine blk_drewN ?_ _ | refine blk_drew ?_ | refine blk_alloc ?_ _)); refine blk_put (cs := #[.bool false, .slice none 0 0, .slice none 0 0, .slice none 0 0]) ?_ 3 _ (by first | rfl | simp [*]); (with_reducible repeat (first | refine blk_drewN ?_ _ | refine blk_drew ?_ | refine blk_alloc ?_ _)); refine blk_put (cs := #[.bool false, .slice none 0 0, .slice none 0 0, .slice none 0 0]) ?_ 2 _ (by first | rfl | simp [*]); (with_reducible repeat (first | refine blk_drewN ?_ _ | refine blk_drew ?_ | refine blk_alloc ?_ _)); refine blk_put (cs := #[.bool false, .slice none 0 0, .slice none 0 0, .slice none 0 0]) ?_ 1 _ (by first | rfl | simp [*]); (with_reducible repeat (first | refine blk_drewN ?_ _ | refine blk_drew ?_ | refine blk_alloc ?_ _)); refine blk_put (cs := #[.bool x430000_11, .slice none 0 0, .slice none 0 0, .slice none 0 0]) ?_ 0 _ (by first | rfl | simp [*]); (with_reducible repeat (first | refine blk_drewN ?_ _ | refine blk_drew ?_ | refine blk_alloc ?_ _)); exact BK429.out) Try.underlying26 rfl (by kernel_rfl)) rfl ?_
                    exact ⟨_, _, _, by first | rfl | (simp [errW_none, errW_some] <;> rfl) | (simp [*, errW_none, errW_some] <;> rfl), by first | exact Kd.R_nil _ _ _ _ _ | exact Kd.N_nil _ _ _ _ _ | exact Kd.V_nil _ _ _ _ _ | exact Kd.Q_nil _ _ _ _ _ | exact Kd.S_nil _ _ _ _ _, by first | exact Kd.R_nil _ _ _ _ _ | exact Kd.N_nil _ _ _ _ _ | exact Kd.V_nil _ _ _ _ _ | exact Kd.Q_nil _ _ _ _ _ | exact Kd.S_nil _ _ _ _ _, by first | exact Kd.R_nil _ _ _ _ _ | exact Kd.N_nil _ _ _ _ _ | exact Kd.V_nil _ _ _ _ _ | exact Kd.Q_nil _ _ _ _ _ | exact Kd.S_nil _ _ _ _ _, by repeat (first | (with_reducible first | exact HB.out | apply below_alloc | apply pw_below_drewN | apply below_drew1 | refine below_set ?_ GE429.out | refine below_set ?_ GE430.out) | exact HB.out)⟩
            · rw [if_neg c11] at H
              exact absurd H (by simp)
          · rw [if_neg c9] at H
            exact absurd H (by simp)
        · rw [if_neg c7] at H
          exact absurd H (by simp)
end
end Go.Proofs.Ytjjfeoigjhbbpaa.PA
namespace Go.Proofs.Ytjjfeoigjhbbpaa.PA
section

open Go.RowKit Go.Proofs.YtjjfeoigjhbbpaaW.PrintWords Go.Proofs.YtjjfeoigjhbbpaaW.PrintLast Go.Proofs.YtjjfeoigjhbbpaaW.PrintMore
attribute [local go_sem] pr_leq pr_geq pr_gtr max2_int min2_int max_two min_two max_three min_three max_four min_four
set_option linter.unusedVariables false
set_option linter.unusedSimpArgs false
theorem ba_app (l m : List UInt8) : ba l ++ ba m = ba (l ++ m) := by
  apply ByteArray.ext
  rw [ByteArray.data_append]
  simp
theorem nums_ba (l : List Int) : strOfNums l = ba (l.map fun c => UInt8.ofNat c.toNat) := rfl
theorem dtext_val (s : ByteArray) (h : s.size ≤ 100000) : cisternref11_text.f s = some (ba (textL s)) := by
  unfold cisternref11_text.f
  rw [Option.bind_some, nums_ba, if_pos (by rw [ba_size]; simp; omega)]
  have e : UInt8.ofNat (((s.size : Int) % 256).toNat) = UInt8.ofNat s.size := by
    apply UInt8.toNat_inj.1
    simp
    omega
  have e2 : s = ba s.data.toList := rfl
  show some (ba [UInt8.ofNat (((s.size : Int) % 256).toNat)] ++ s) = _
  rw [e]
  conv => lhs; rw [e2]
  rw [ba_app]
  rfl
theorem dsize_l0 (a : Bool) (K : List ByteArray) (D : List Int) (l : List S48) (hl : l.length ≤ 9223372036854775807) : ∀ (k i : Nat) (x : Int), i ≤ l.length → l.length - i < k → cisternref11_Size.l0 k (wrap64 x) (i : Int) a l K D = some (wrap64 (x + (weightN (l.drop i) : Nat)))
  | 0, _, _, _, h => by omega
  | k + 1, i, x, hi, hk => by
    unfold cisternref11_Size.l0
    by_cases h : i < l.length
    · have e3 : weightN (l.drop i) = 2 + l[i].f0.size + l[i].f1.size + weightN (l.drop (i + 1)) := by
        unfold weightN
        rw [List.drop_eq_getElem_cons h, List.map_cons, List.sum_cons]
      rw [if_pos (by omega), if_pos (by omega), wsuc (by omega), rd48 h]
      have e4 : wrap64 (wrap64 (wrap64 (wrap64 x + 2) + (l[i].f0.size : Int)) + (l[i].f1.size : Int)) = wrap64 (x + (2 + l[i].f0.size + l[i].f1.size : Nat)) := by
        simp only [w64_l, w64_r]
        congr 1
        omega
      rw [e4, dsize_l0 a K D l hl k (i + 1) _ (by omega) (by omega), e3]
      congr 2
      omega
    · rw [if_neg (by omega), List.drop_eq_nil_of_le (by omega)]
      congr 2
      show x = x + ((0 : Nat) : Int)
      omega
theorem dsize_l1 (a : Bool) (P : List S48) (D : List Int) (l : List ByteArray) (hl : l.length ≤ 9223372036854775807) : ∀ (k i : Nat) (x : Int), i ≤ l.length → l.length - i < k → cisternref11_Size.l1 k (wrap64 x) (i : Int) a P l D = some (wrap64 (x + (((l.drop i).map fun s => 1 + s.size).sum : Nat)))
  | 0, _, _, _, h => by omega
  | k + 1, i, x, hi, hk => by
    unfold cisternref11_Size.l1
    by_cases h : i < l.length
    · have e3 : ((l.drop i).map fun s => 1 + s.size).sum = 1 + l[i].size + ((l.drop (i + 1)).map fun s => 1 + s.size).sum := by
        rw [List.drop_eq_getElem_cons h, List.map_cons, List.sum_cons]
      rw [if_pos (by omega), if_pos (by omega), wsuc (by omega), rdB h]
      have e4 : wrap64 (wrap64 (wrap64 x + 1) + (l[i].size : Int)) = wrap64 (x + (1 + l[i].size : Nat)) := by
        simp only [w64_l, w64_r]
        congr 1
        omega
      rw [e4, dsize_l1 a P D l hl k (i + 1) _ (by omega) (by omega), e3]
      congr 2
      omega
    · rw [if_neg (by omega), List.drop_eq_nil_of_le (by omega)]
      congr 2
      show x = x + ((0 : Nat) : Int)
      omega
theorem dsize_val (lf : Bool) (P : List S48) (K : List ByteArray) (D : List Int) (h1 : P.length ≤ 9223372036854775807) (h2 : K.length ≤ 9223372036854775807) (k : Nat) (hk1 : P.length < k) (hk2 : K.length < k) : cisternref11_Size.f k lf P K D = some (wrap64 (sizeN lf P K D : Nat)) := by
  unfold cisternref11_Size.f sizeN
  cases lf
  · have h := dsize_l1 false P D K h2 k 0 (2 + 2 * (D.length : Int)) (by omega) (by omega)
    rw [if_neg (by decide), if_neg (by decide)]
    have e : wrap64 (2 + wrap64 (2 * (D.length : Int))) = wrap64 (2 + 2 * (D.length : Int)) := w64_r _ _
    rw [e, ← Int.ofNat_zero, h, List.drop_zero]
    congr 2
  · have h := dsize_l0 true K D P h1 k 0 2 (by omega) (by omega)
    have e : wrap64 2 = 2 := by unfold wrap64; omega
    rw [e, Int.ofNat_zero, List.drop_zero] at h
    rw [if_pos rfl, if_pos rfl, h]
    rfl
theorem rdI {D : List Int} {i : Nat} (h : i < D.length) : rd D (i : Int) = D[i] := by unfold rd; rw [Int.toNat_natCast, List.getD_eq_getElem?_getD, List.getElem?_eq_getElem h]; rfl
theorem denc_l0 (a : Bool) (P : List S48) (K : List ByteArray) (D : List Int) (hP : P.any badP = false) (hl : P.length ≤ 255) : ∀ (n i k : Nat) (x : List UInt8), i + n = P.length → n < k → x.length ≤ 100000 + 100 * i → cisternref11_Encode.l0 k (ba x) (i : Int) a P K D = some (ba (x ++ (P.drop i).flatMap pairL))
  | 0, i, k + 1, x, hi, hk, hx => by
    unfold cisternref11_Encode.l0
    rw [if_neg (by omega), List.drop_eq_nil_of_le (by omega)]
    simp
  | n + 1, i, k + 1, x, hi, hk, hx => by
    have h : i < P.length := by omega
    obtain ⟨z1, z2, z3⟩ := pair_size hP P[i] (List.getElem_mem h)
    have t1 : (textL P[i].f0).length ≤ 33 := by rw [textL_length]; omega
    have t2 : (textL P[i].f1).length ≤ 49 := by rw [textL_length]; omega
    unfold cisternref11_Encode.l0
    rw [if_pos (by omega), if_pos (by omega), rd48 h, dtext_val _ (by omega), Option.bind_some, if_pos (by rw [ba_size, ba_size]; omega), dtext_val _ (by omega), Option.bind_some, ba_app, if_pos (by rw [ba_size, ba_size, List.length_append]; omega), ba_app, wsuc (by omega)]
    rw [denc_l0 a P K D hP hl n (i + 1) k _ (by omega) (by omega) (by simp only [List.length_append]; omega), List.drop_eq_getElem_cons h, List.flatMap_cons, pairL]
    simp
theorem denc_l2 (a : Bool) (P : List S48) (K : List ByteArray) (D : List Int) (hK : K.any badS = false) (hl : K.length ≤ 255) : ∀ (n i k : Nat) (x : List UInt8), i + n = K.length → n < k → x.length ≤ 100000 + 100 * i → cisternref11_Encode.l2 k (ba x) (i : Int) a P K D = some (ba (x ++ (K.drop i).flatMap textL))
  | 0, i, k + 1, x, hi, hk, hx => by
    unfold cisternref11_Encode.l2
    rw [if_neg (by omega), List.drop_eq_nil_of_le (by omega)]
    simp
  | n + 1, i, k + 1, x, hi, hk, hx => by
    have h : i < K.length := by omega
    obtain ⟨z1, z2⟩ := key_size hK K[i] (List.getElem_mem h)
    have t1 : (textL K[i]).length ≤ 33 := by rw [textL_length]; omega
    unfold cisternref11_Encode.l2
    rw [if_pos (by omega), if_pos (by omega), rdB h, dtext_val _ (by omega), Option.bind_some, if_pos (by rw [ba_size, ba_size]; omega), ba_app, wsuc (by omega)]
    rw [denc_l2 a P K D hK hl n (i + 1) k _ (by omega) (by omega) (by simp only [List.length_append]; omega), List.drop_eq_getElem_cons h, List.flatMap_cons]
    simp
theorem denc_l1 (a : Bool) (P : List S48) (K : List ByteArray) (D : List Int) (hK : K.any badS = false) (hl : K.length ≤ 255) (hD : D.any badI = false) (hd : D.length ≤ 255) : ∀ (n i k : Nat) (x : List UInt8), i + n = D.length → n + K.length + 1 < k → x.length ≤ 10000 + 100 * i → cisternref11_Encode.l1 k (ba x) (i : Int) a P K D = some (ba (x ++ (D.drop i).flatMap kidL ++ K.flatMap textL))
  | 0, i, k + 1, x, hi, hk, hx => by
    unfold cisternref11_Encode.l1
    rw [if_neg (by omega), List.drop_eq_nil_of_le (by omega)]
    have h := denc_l2 a P K D hK hl K.length 0 k x (by omega) (by omega) (by omega)
    rw [Int.ofNat_zero, List.drop_zero] at h
    rw [h]
    simp
  | n + 1, i, k + 1, x, hi, hk, hx => by
    have h : i < D.length := by omega
    have z := kid_size hD D[i] (List.getElem_mem h)
    unfold cisternref11_Encode.l1
    have e : strOfNums [(Int.tmod (rd D (i : Int)) 256) % 256, (wrap64 (Int.tdiv (rd D (i : Int)) 256)) % 256] = ba (kidL D[i]) := by
      rw [rdI h, nums_ba, Int.tmod_eq_emod_of_nonneg (by omega), Int.tdiv_eq_ediv_of_nonneg (by omega)]
      have e1 : (D[i] % 256) % 256 = D[i] % 256 := by omega
      have e2 : wrap64 (D[i] / 256) = D[i] / 256 := by unfold wrap64; omega
      rw [e1, e2]
      rfl
    rw [if_pos (by omega), if_pos (by omega), Option.bind_some, e, if_pos (by rw [ba_size, ba_size]; have : (kidL D[i]).length = 2 := rfl; omega), ba_app, wsuc (by omega)]
    rw [denc_l1 a P K D hK hl hD hd n (i + 1) k _ (by omega) (by omega) (by rw [List.length_append]; have : (kidL D[i]).length = 2 := rfl; omega), List.drop_eq_getElem_cons h, List.flatMap_cons]
    simp
theorem denc_val {lf : Bool} {P : List S48} {K : List ByteArray} {D : List Int} (h : (leafV lf P K D || innerV lf P K D) = true) (k : Nat) (hk : 600 < k) : cisternref11_Encode.f k lf P K D = some (ba (encL lf P K D)) := by
  unfold cisternref11_Encode.f
  rcases Bool.or_eq_true_iff.1 h with hl | hi
  · obtain ⟨rfl, rfl, rfl, h1, h2, h3⟩ := leafV_true hl
    have e : strOfNums [1, ((P.length : Int)) % 256] = ba [1, UInt8.ofNat P.length] := by
      rw [nums_ba]
      have : ((P.length : Int) % 256).toNat = P.length := by omega
      simp [this]
    have h := denc_l0 true P [] [] h2 h1 P.length 0 k [1, UInt8.ofNat P.length] (by omega) (by omega) (by simp)
    rw [Int.ofNat_zero, List.drop_zero] at h
    rw [if_pos rfl, e, h]
    simp [encL]
  · obtain ⟨rfl, rfl, h1, h2, h3, h4, h5, h6⟩ := innerV_true hi
    have e : strOfNums [2, ((D.length : Int)) % 256] = ba [2, UInt8.ofNat D.length] := by
      rw [nums_ba]
      have : ((D.length : Int) % 256).toNat = D.length := by omega
      simp [this]
    have h := denc_l1 false [] K D h4 (by omega) h5 h2 D.length 0 k [2, UInt8.ofNat D.length] (by omega) (by omega) (by simp)
    rw [Int.ofNat_zero, List.drop_zero] at h
    rw [if_neg (by decide), e, h]
    simp [encL]
theorem docenc_val (lf : Bool) (P : List S48) (K : List ByteArray) (D : List Int) (k : Nat) (hk : 600 < k) : cisternref11_DocEncode.f k lf P K D = node_Encode.f lf P K D := by
  unfold cisternref11_DocEncode.f node_Encode.f
  rw [right_val, Option.bind_some]
  by_cases h : (leafV lf P K D || innerV lf P K D) = true
  · have hs := size_form h
    obtain ⟨z1, z2, z3⟩ := form_len h
    rw [if_pos h, if_pos h, dsize_val lf P K D (by omega) (by omega) k (by omega) (by omega), Option.bind_some, wrap_small hs]
    by_cases h2 : sizeN lf P K D ≤ 160
    · rw [if_neg (by omega), if_pos h2, denc_val h k hk]
      rfl
    · rw [if_pos (by omega), if_neg h2]
  · rw [if_neg h, if_neg h]
/-- A text off the front. -/
def tkV (l : List UInt8) : ByteArray × ByteArray × Bool := match l with
  | [] => (ba [], ba [], false)
  | x :: t => if x.toNat > t.length then (ba [], ba [], false) else (ba (t.take x.toNat), ba (t.drop x.toNat), true)
theorem tk_cons (x : UInt8) (t : List UInt8) : tkV (x :: t) = if x.toNat > t.length then (ba [], ba [], false) else (ba (t.take x.toNat), ba (t.drop x.toNat), true) := rfl
theorem bt_cons (x : UInt8) (t : List UInt8) : bt (ba (x :: t)) 0 = (x.toNat : Int) := by
  unfold bt
  rw [dif_pos (by rw [ba_size]; exact Nat.succ_pos _)]
  rfl
theorem bt_cons1 (x y : UInt8) (t : List UInt8) : bt (ba (x :: y :: t)) 1 = (y.toNat : Int) := by
  unfold bt
  rw [dif_pos (by rw [ba_size]; exact Nat.succ_lt_succ (Nat.succ_pos _))]
  rfl
theorem take_val (l : List UInt8) (hl : l.length ≤ 9223372036854775000) : cisternref11_take.f (ba l) = some (tkV l) := by
  unfold cisternref11_take.f
  cases l with
  | nil => rw [if_pos (by rw [nd_toList])]; rfl
  | cons x t =>
    have hx := x.toNat_lt
    have hlt : t.length + 1 ≤ 9223372036854775000 := hl
    have w1 : wrap64 (x.toNat : Int) = (x.toNat : Int) := by unfold wrap64; omega
    have w2 : wrap64 ((((x :: t).length : Nat) : Int) - 1) = (t.length : Int) := by rw [List.length_cons]; unfold wrap64; omega
    have w3 : wrap64 (1 + (x.toNat : Int)) = ((1 + x.toNat : Nat) : Int) := by unfold wrap64; omega
    rw [if_neg (by rw [nd_toList]; simp), bt_cons, ba_size, w1, w2, w3, if_pos (by rw [List.length_cons]; omega)]
    rw [tk_cons]
    by_cases h : x.toNat > t.length
    · rw [if_pos (by omega), if_pos h]
    · rw [if_neg (by omega), if_neg h, if_pos (by omega), if_pos (by rw [List.length_cons]; omega), if_pos (by omega), Int.toNat_natCast, ba_cut, ba_cut]
      have e1 : ((x :: t).drop 1).take (1 + x.toNat - 1) = t.take x.toNat := by rw [Nat.add_sub_cancel_left]; rfl
      have e2 : ((x :: t).drop (1 + x.toNat)).take ((x :: t).length - (1 + x.toNat)) = t.drop x.toNat := by
        rw [Nat.add_comm 1, List.drop_succ_cons, List.length_cons]
        exact List.take_of_length_le (by rw [List.length_drop]; omega)
      rw [e1, e2]
theorem tk_text (k : ByteArray) (hk : k.size ≤ 255) (t : List UInt8) : tkV (textL k ++ t) = (k, ba t, true) := by
  have e : (UInt8.ofNat k.size).toNat = k.size := by simp; omega
  have e2 : k.data.toList.length = k.size := rfl
  unfold textL
  rw [List.cons_append]
  unfold tkV
  dsimp only
  rw [e, if_neg (by rw [List.length_append, e2]; omega), List.take_left' e2, List.drop_left' e2]
theorem tk_len (l : List UInt8) : (tkV l).2.1.size ≤ l.length := by
  unfold tkV
  split
  · exact Nat.zero_le _
  · split
    · exact Nat.zero_le _
    · rw [ba_size, List.length_drop, List.length_cons]; omega
/-- An answer of the document's that is right. -/
def goodD (x : ByteArray) (r : Bool × List S48 × List ByteArray × List Int × Int) : Prop := r = (false, [], [], [], 2) ∨ ∃ lf P K D, r = (lf, P, K, D, 0) ∧ (leafV lf P K D || innerV lf P K D) = true ∧ x = ba (encL lf P K D)
theorem doc_j4 (x : ByteArray) (lf : Bool) (P : List S48) (K : List ByteArray) (D : List Int) (k : Nat) (hk : 601 < k) : ∃ r, cisternref11_DocDecode.j4 k x lf P K D = some r ∧ goodD x r := by
  obtain ⟨k, rfl⟩ : ∃ m, k = m + 1 := ⟨k - 1, by omega⟩
  rw [cisternref11_DocDecode.j4, right_val, Option.bind_some]
  by_cases h : (leafV lf P K D || innerV lf P K D) = true
  · rw [if_pos h, denc_val h k (by omega), Option.bind_some]
    by_cases hx : (ba (encL lf P K D)).toList = x.toList
    · rw [if_pos hx]
      refine ⟨_, rfl, Or.inr ⟨lf, P, K, D, rfl, h, ?_⟩⟩
      rw [nd_toList, nd_toList] at hx
      rw [← ba_of x, ← hx]
    · rw [if_neg hx]
      exact ⟨_, rfl, Or.inl rfl⟩
  · rw [if_neg h]
    exact ⟨_, rfl, Or.inl rfl⟩
theorem doc_j4_enc {lf : Bool} {P : List S48} {K : List ByteArray} {D : List Int} (h : (leafV lf P K D || innerV lf P K D) = true) (k : Nat) (hk : 601 < k) : cisternref11_DocDecode.j4 k (ba (encL lf P K D)) lf P K D = some (lf, P, K, D, 0) := by
  obtain ⟨k, rfl⟩ : ∃ m, k = m + 1 := ⟨k - 1, by omega⟩
  rw [cisternref11_DocDecode.j4, right_val, Option.bind_some, if_pos h, denc_val h k (by omega), Option.bind_some, if_pos rfl]
theorem doc_l0 (x : ByteArray) (lf : Bool) (c : Nat) (hc : c ≤ 255) : ∀ (n i k : Nat) (s : List UInt8) (l : List S48), i + n = c → n + 610 < k → l.length ≤ i → s.length ≤ 1000 → ∃ r, cisternref11_DocDecode.l0 k x (c : Int) (ba s) (i : Int) lf l = some r ∧ goodD x r
  | 0, i, k + 1, s, l, hi, hk, hl, hs => by
    unfold cisternref11_DocDecode.l0
    rw [if_neg (by omega)]
    exact doc_j4 x lf l [] [] k (by omega)
  | n + 1, i, k + 1, s, l, hi, hk, hl, hs => by
    unfold cisternref11_DocDecode.l0
    have q1 := tk_len s
    obtain ⟨l1, e1⟩ : ∃ l1, (tkV s).2.1 = ba l1 := ⟨(tkV s).2.1.data.toList, rfl⟩
    rw [e1, ba_size] at q1
    have q2 := tk_len l1
    obtain ⟨l2, e2⟩ : ∃ l2, (tkV l1).2.1 = ba l2 := ⟨(tkV l1).2.1.data.toList, rfl⟩
    rw [e2, ba_size] at q2
    rw [if_pos (by omega), take_val s (by omega), Option.bind_some, e1, take_val l1 (by omega), Option.bind_some, e2]
    split
    · split
      · rw [if_pos (by omega), wsuc (by omega)]
        exact doc_l0 x lf c hc n (i + 1) k l2 _ (by omega) (by omega) (by rw [List.length_append]; simp; omega) (by omega)
      · exact ⟨_, rfl, Or.inl rfl⟩
    · exact ⟨_, rfl, Or.inl rfl⟩
theorem doc_l0_enc (x : ByteArray) (lf : Bool) (c : Nat) (hc : c ≤ 255) (r : Bool × List S48 × List ByteArray × List Int × Int) : ∀ (P : List S48) (i k : Nat) (l : List S48), i + P.length = c → P.length + 610 < k → l.length ≤ i → (∀ y ∈ P, y.f0.size ≤ 255 ∧ y.f1.size ≤ 255) → (P.flatMap pairL).length ≤ 1000 → (∀ k', 601 < k' → cisternref11_DocDecode.j4 k' x lf (l ++ P) [] [] = some r) → cisternref11_DocDecode.l0 k x (c : Int) (ba (P.flatMap pairL)) (i : Int) lf l = some r
  | [], i, k + 1, l, hi, hk, hl, hb, hs, hr => by
    unfold cisternref11_DocDecode.l0
    rw [List.length_nil] at hi hk
    rw [if_neg (by omega)]
    have := hr k (by omega)
    rwa [List.append_nil] at this
  | p :: P, i, k + 1, l, hi, hk, hl, hb, hs, hr => by
    unfold cisternref11_DocDecode.l0
    have hp := hb p List.mem_cons_self
    rw [List.length_cons] at hi hk
    rw [List.flatMap_cons, pairL, List.append_assoc] at hs ⊢
    have hs' := hs
    rw [List.length_append, List.length_append] at hs'
    rw [if_pos (by omega), take_val _ (by omega), tk_text _ hp.1, Option.bind_some]
    dsimp only
    rw [take_val _ (by rw [List.length_append]; omega), tk_text _ hp.2, Option.bind_some]
    dsimp only
    rw [if_pos rfl, if_pos rfl, if_pos (by omega), wsuc (by omega)]
    exact doc_l0_enc x lf c hc r P (i + 1) k _ (by omega) (by omega) (by rw [List.length_append]; simp; omega) (fun y hy => hb y (List.mem_cons_of_mem _ hy)) (by omega) (fun k' hk' => by rw [List.append_assoc]; exact hr k' hk')
theorem doc_l2 (x : ByteArray) (lf : Bool) (c : Nat) (hc : c ≤ 255) (D : List Int) : ∀ (n i k : Nat) (s : List UInt8) (l : List ByteArray), i + n = c - 1 → n + 610 < k → l.length ≤ i → s.length ≤ 1000 → ∃ r, cisternref11_DocDecode.l2 k x (c : Int) (ba s) (i : Int) lf l D = some r ∧ goodD x r
  | 0, i, k + 1, s, l, hi, hk, hl, hs => by
    unfold cisternref11_DocDecode.l2
    rw [if_neg (by unfold wrap64; omega)]
    exact doc_j4 x lf [] l D k (by omega)
  | n + 1, i, k + 1, s, l, hi, hk, hl, hs => by
    unfold cisternref11_DocDecode.l2
    have q1 := tk_len s
    obtain ⟨l1, e1⟩ : ∃ l1, (tkV s).2.1 = ba l1 := ⟨(tkV s).2.1.data.toList, rfl⟩
    rw [e1, ba_size] at q1
    rw [if_pos (by unfold wrap64; omega), take_val s (by omega), Option.bind_some, e1]
    split
    · rw [if_pos (by omega), wsuc (by omega)]
      exact doc_l2 x lf c hc D n (i + 1) k l1 _ (by omega) (by omega) (by rw [List.length_append]; simp; omega) (by omega)
    · exact ⟨_, rfl, Or.inl rfl⟩
theorem doc_l2_enc (x : ByteArray) (lf : Bool) (c : Nat) (hc : c ≤ 255) (D : List Int) (r : Bool × List S48 × List ByteArray × List Int × Int) : ∀ (K : List ByteArray) (i k : Nat) (l : List ByteArray), i + K.length = c - 1 → K.length + 610 < k → l.length ≤ i → (∀ y ∈ K, y.size ≤ 255) → (K.flatMap textL).length ≤ 1000 → (∀ k', 601 < k' → cisternref11_DocDecode.j4 k' x lf [] (l ++ K) D = some r) → cisternref11_DocDecode.l2 k x (c : Int) (ba (K.flatMap textL)) (i : Int) lf l D = some r
  | [], i, k + 1, l, hi, hk, hl, hb, hs, hr => by
    unfold cisternref11_DocDecode.l2
    rw [List.length_nil] at hi hk
    rw [if_neg (by unfold wrap64; omega)]
    have := hr k (by omega)
    rwa [List.append_nil] at this
  | p :: K, i, k + 1, l, hi, hk, hl, hb, hs, hr => by
    unfold cisternref11_DocDecode.l2
    have hp := hb p List.mem_cons_self
    rw [List.length_cons] at hi hk
    rw [List.flatMap_cons] at hs ⊢
    have hs' := hs
    rw [List.length_append] at hs'
    rw [if_pos (by unfold wrap64; omega), take_val _ (by omega), tk_text _ hp, Option.bind_some]
    dsimp only
    rw [if_pos rfl, if_pos (by omega), wsuc (by omega)]
    exact doc_l2_enc x lf c hc D r K (i + 1) k _ (by omega) (by omega) (by rw [List.length_append]; simp; omega) (fun y hy => hb y (List.mem_cons_of_mem _ hy)) (by omega) (fun k' hk' => by rw [List.append_assoc]; exact hr k' hk')
theorem kid_w (x y : UInt8) : wrap64 (wrap64 (x.toNat : Int) + wrap64 (256 * wrap64 (y.toNat : Int))) = ((x.toNat + 256 * y.toNat : Nat) : Int) := by
  have hx := x.toNat_lt
  have hy := y.toNat_lt
  unfold wrap64
  omega
theorem ba_drop2 (x y : UInt8) (t : List UInt8) : (ba (x :: y :: t)).extract 2 (ba (x :: y :: t)).size = ba t := by
  rw [ba_cut, ba_size]
  have : ((x :: y :: t).drop 2).take ((x :: y :: t).length - 2) = t := by simp
  rw [this]
theorem doc_l1 (x : ByteArray) (lf : Bool) (c : Nat) (hc : c ≤ 255) : ∀ (n i k : Nat) (s : List UInt8) (l : List Int), i + n = c → n + c + 620 < k → l.length ≤ i → s.length ≤ 1000 → ∃ r, cisternref11_DocDecode.l1 k x (c : Int) (ba s) (i : Int) lf l = some r ∧ goodD x r
  | 0, i, k + 1, s, l, hi, hk, hl, hs => by
    unfold cisternref11_DocDecode.l1
    rw [if_neg (by omega)]
    exact doc_l2 x lf c hc l (c - 1) 0 k s [] (by omega) (by omega) (by simp) hs
  | n + 1, i, k + 1, s, l, hi, hk, hl, hs => by
    unfold cisternref11_DocDecode.l1
    rw [if_pos (by omega)]
    match s, hs with
    | [], _ => rw [if_pos (by rw [ba_size]; decide)]; exact ⟨_, rfl, Or.inl rfl⟩
    | [_], _ => rw [if_pos (by rw [ba_size]; exact (by decide : ((1 : Nat) : Int) < 2))]; exact ⟨_, rfl, Or.inl rfl⟩
    | a :: b :: t, hs =>
      rw [List.length_cons, List.length_cons] at hs
      rw [if_neg (by rw [ba_size, List.length_cons, List.length_cons]; omega), if_pos (by rw [ba_size, List.length_cons, List.length_cons]; omega), if_pos (by rw [ba_size, List.length_cons, List.length_cons]; omega), if_pos (by omega), if_pos (by rw [ba_size, List.length_cons, List.length_cons]; omega), ba_drop2, wsuc (by omega), bt_cons, bt_cons1, kid_w]
      exact doc_l1 x lf c hc n (i + 1) k t _ (by omega) (by omega) (by rw [List.length_append]; simp; omega) (by omega)
theorem doc_l1_enc (x : ByteArray) (lf : Bool) (c : Nat) (hc : c ≤ 255) (r : Bool × List S48 × List ByteArray × List Int × Int) (K : List ByteArray) (hK : K.length = c - 1) (hKb : ∀ y ∈ K, y.size ≤ 255) (hKs : (K.flatMap textL).length ≤ 1000) : ∀ (D : List Int) (i k : Nat) (l : List Int), i + D.length = c → D.length + c + 620 < k → l.length ≤ i → (∀ y ∈ D, 0 ≤ y ∧ y ≤ 65535) → (∀ k', 601 < k' → cisternref11_DocDecode.j4 k' x lf [] K (l ++ D) = some r) → cisternref11_DocDecode.l1 k x (c : Int) (ba (D.flatMap kidL ++ K.flatMap textL)) (i : Int) lf l = some r
  | [], i, k + 1, l, hi, hk, hl, hb, hr => by
    unfold cisternref11_DocDecode.l1
    rw [List.length_nil] at hi hk
    rw [if_neg (by omega)]
    refine doc_l2_enc x lf c hc l r K 0 k [] (by omega) (by omega) (by simp) hKb hKs (fun k' hk' => ?_)
    have := hr k' hk'
    rwa [List.append_nil] at this
  | p :: D, i, k + 1, l, hi, hk, hl, hb, hr => by
    unfold cisternref11_DocDecode.l1
    have hp := hb p List.mem_cons_self
    rw [List.length_cons] at hi hk
    rw [List.flatMap_cons, List.append_assoc]
    have e : kidL p ++ (D.flatMap kidL ++ K.flatMap textL) = UInt8.ofNat (p % 256).toNat :: UInt8.ofNat (p / 256 % 256).toNat :: (D.flatMap kidL ++ K.flatMap textL) := rfl
    rw [e, if_pos (by omega), if_neg (by rw [ba_size, List.length_cons, List.length_cons]; omega), if_pos (by rw [ba_size, List.length_cons, List.length_cons]; omega), if_pos (by rw [ba_size, List.length_cons, List.length_cons]; omega), if_pos (by omega), if_pos (by rw [ba_size, List.length_cons, List.length_cons]; omega), ba_drop2, wsuc (by omega), bt_cons, bt_cons1, kid_w, kid_back p hp.1 hp.2]
    exact doc_l1_enc x lf c hc r K hK hKb hKs D (i + 1) k _ (by omega) (by omega) (by rw [List.length_append]; simp; omega) (fun y hy => hb y (List.mem_cons_of_mem _ hy)) (fun k' hk' => by rw [List.append_assoc]; exact hr k' hk')
theorem docdec_val (s : ByteArray) (k : Nat) (hk : 1200 < k) : cisternref11_DocDecode.f k s = some (decV s) := by
  obtain ⟨k, rfl⟩ : ∃ m, k = m + 1 := ⟨k - 1, by omega⟩
  have hbad : ∀ b : Bool, ¬ (2 ≤ s.size ∧ s.size ≤ 160) → cisternref11_DocDecode.j0 (k + 1) s true = some (decV s) := fun b hn => by
    rw [cisternref11_DocDecode.j0, if_pos rfl]
    rcases dec_cases s with h | ⟨lf, P, K, D, h, h1, h2, h3⟩
    · rw [h]
    · exfalso
      apply hn
      rw [h3, ba_size, encL_length]
      refine ⟨?_, h2⟩
      unfold sizeN
      split <;> omega
  unfold cisternref11_DocDecode.f
  by_cases h2 : s.size < 2
  · rw [if_pos (by omega)]
    exact hbad true (by omega)
  · rw [if_neg (by omega)]
    by_cases h160 : s.size > 160
    · rw [decide_eq_true (by omega : (s.size : Int) > 160)]
      exact hbad true (by omega)
    · rw [decide_eq_false (by omega : ¬ (s.size : Int) > 160)]
      obtain ⟨q, rfl⟩ : ∃ q, s = ba q := ⟨s.data.toList, rfl⟩
      rw [ba_size] at h2 h160
      match q, h2, h160, hbad with
      | [], h2, _, _ => exact absurd (by decide) h2
      | [_], h2, _, _ => exact absurd (by decide : 1 < 2) h2
      | x :: y :: t, h2, h160, hbad =>
        clear hbad h2
        rw [List.length_cons, List.length_cons] at h160
        have hx := x.toNat_lt
        have hy := y.toNat_lt
        have wy : wrap64 (y.toNat : Int) = (y.toNat : Int) := by unfold wrap64; omega
        have hj : cisternref11_DocDecode.j0 (k + 1) (ba (x :: y :: t)) false = if (x.toNat : Int) = 1 then cisternref11_DocDecode.l0 k (ba (x :: y :: t)) (y.toNat : Int) (ba t) ((0 : Nat) : Int) ((x.toNat : Int) == 1) [] else cisternref11_DocDecode.l1 k (ba (x :: y :: t)) (y.toNat : Int) (ba t) ((0 : Nat) : Int) ((x.toNat : Int) == 1) [] := by
          rw [cisternref11_DocDecode.j0, if_neg (by decide), if_pos (by rw [ba_size, List.length_cons]; omega), if_pos (by rw [ba_size, List.length_cons, List.length_cons]; omega), if_pos (by rw [ba_size, List.length_cons, List.length_cons]; omega), bt_cons, bt_cons1, ba_drop2, wy]
          rfl
        rw [hj]
        rcases dec_cases (ba (x :: y :: t)) with h | ⟨lf, P, K, D, h, h1, h2, h3⟩
        · obtain ⟨r, hr, hg⟩ : ∃ r, (if (x.toNat : Int) = 1 then cisternref11_DocDecode.l0 k (ba (x :: y :: t)) (y.toNat : Int) (ba t) ((0 : Nat) : Int) ((x.toNat : Int) == 1) [] else cisternref11_DocDecode.l1 k (ba (x :: y :: t)) (y.toNat : Int) (ba t) ((0 : Nat) : Int) ((x.toNat : Int) == 1) []) = some r ∧ goodD (ba (x :: y :: t)) r := by
            split
            · exact doc_l0 _ _ y.toNat (by omega) y.toNat 0 k t [] (by omega) (by omega) (by simp) (by omega)
            · exact doc_l1 _ _ y.toNat (by omega) y.toNat 0 k t [] (by omega) (by omega) (by simp) (by omega)
          rw [hr]
          rcases hg with rfl | ⟨lf, P, K, D, rfl, h1, h3⟩
          · rw [h]
          · rw [h3, dec_enc h1 (by rw [← encL_length, ← ba_size, ← h3, ba_size, List.length_cons, List.length_cons]; omega)]
        · rw [h]
          have hl := ba_inj h3
          rw [← encL_length, ← hl, List.length_cons, List.length_cons] at h2
          have hj4 := fun k' hk' => doc_j4_enc h1 k' hk'
          rw [← h3] at hj4
          rcases Bool.or_eq_true_iff.1 h1 with hf | hi
          · obtain ⟨rfl, rfl, rfl, p1, p2, p3⟩ := leafV_true hf
            have e0 : encL true P [] [] = 1 :: UInt8.ofNat P.length :: P.flatMap pairL := by simp [encL]
            rw [e0] at hl
            simp only [List.cons.injEq] at hl
            obtain ⟨rfl, rfl, rfl⟩ := hl
            have ec : (UInt8.ofNat P.length).toNat = P.length := by simp; omega
            rw [if_pos (by decide), ec]
            exact doc_l0_enc _ true P.length p1 _ P 0 k [] (by omega) (by omega) (by simp) (fun y hy => by have := pair_size p2 y hy; omega) (by omega) hj4
          · obtain ⟨rfl, rfl, p1, p2, p3, p4, p5, p6⟩ := innerV_true hi
            have e0 : encL false [] K D = 2 :: UInt8.ofNat D.length :: (D.flatMap kidL ++ K.flatMap textL) := by simp [encL]
            rw [e0] at hl
            simp only [List.cons.injEq] at hl
            obtain ⟨rfl, rfl, rfl⟩ := hl
            have ec : (UInt8.ofNat D.length).toNat = D.length := by simp; omega
            rw [List.length_append] at h2
            rw [if_neg (by decide), ec]
            exact doc_l1_enc _ false D.length p2 _ K (by omega) (fun y hy => by have := key_size p4 y hy; omega) (by omega) D 0 k [] (by omega) (by omega) (by simp) (fun y hy => by have := kid_size p5 y hy; omega) hj4
set_option maxHeartbeats 4000000 in
set_option maxRecDepth 100000 in
theorem cisternlaw11_NodePages.walk (a : Bool) (A1 : Option Addr) (c1 : Nat) (l1 : List S48) (A2 : Option Addr) (c2 : Nat) (l2 : List ByteArray) (A3 : Option Addr) (c3 : Nat) (l3 : List Int) (s : ByteArray) (w : World)
    (_wa0 : True ∧ (∀ x_ ∈ l1, (x_.f0.size ≤ maxLen) ∧ (x_.f1.size ≤ maxLen)) ∧ (∀ x_ ∈ l2, x_.size ≤ maxLen) ∧ (∀ x_ ∈ l3, (Lit.int .i64 x_).wf = true)) (hr1 : Kd.C k48 w A1 l1.length l1) (hc1 : l1.length ≤ c1) (y1 : l1.length * 32 ≤ 140737488351232) (hr2 : Kd.C Kd.string w A2 l2.length l2) (hc2 : l2.length ≤ c2) (y2 : l2.length * 16 ≤ 140737488351232) (hr3 : Kd.C (Kd.int .i64) w A3 l3.length l3) (hc3 : l3.length ≤ c3) (y3 : l3.length * 8 ≤ 140737488351232) (_ws : s.size ≤ 140737488351232) :
    Calls Try.prog 6 #[.agg #[.bool a, .slice A1 l1.length c1, .slice A2 l2.length c2, .slice A3 l3.length c3], .string s] w fun e w' => e = .returned (.bool true) ∧ Below w.heap.size w w' := by
  obtain ⟨KK, hK⟩ : ∃ K : Nat, K = 2000 + l1.length + l2.length := ⟨_, rfl⟩
  have OF : Aside0 (cisternlaw11_of.f a l1 l2 l3 = some (a, l1, l2, l3)) := ⟨of_val a l1 l2 l3 y1 y2 y3⟩
  obtain ⟨p, ee, hE⟩ : ∃ (pe : ByteArray) (ee : Int), node_Encode.f a l1 l2 l3 = some (pe, ee) := by
    unfold node_Encode.f
    split
    · split <;> exact ⟨_, _, rfl⟩
    · exact ⟨_, _, rfl⟩
  have EE := Aside0.mk hE
  have DE : Aside0 (cisternref11_DocEncode.f KK a l1 l2 l3 = some (p, ee)) := ⟨by rw [docenc_val a l1 l2 l3 KK (by omega)]; exact hE⟩
  obtain ⟨x0, x1, x2, x3, x4, hd⟩ : ∃ x0 x1 x2 x3 x4, decV s = (x0, x1, x2, x3, x4) := ⟨_, _, _, _, _, rfl⟩
  have DX : Aside0 (node_Decode.f s = some (x0, x1, x2, x3, x4)) := ⟨by unfold node_Decode.f; rw [hd]⟩
  have DD : Aside0 (cisternref11_DocDecode.f KK s = some (x0, x1, x2, x3, x4)) := ⟨by rw [docdec_val s KK (by omega), hd]⟩
  have hx : x1.length ≤ 255 ∧ x2.length ≤ 255 ∧ x3.length ≤ 255 := by
    rcases dec_cases s with h | ⟨_, _, _, _, h, h1, _, _⟩
    · rw [hd] at h; cases h; exact ⟨by decide, by decide, by decide⟩
    · rw [hd] at h; cases h; exact form_len h1
  obtain ⟨z1, z2, z3⟩ := hx
  have SS : Aside0 (cisternref11_Same.f KK x0 x1 x2 x3 x0 x1 x2 x3 = some true) := ⟨same_self x0 x1 x2 x3 (by omega) (by omega) (by omega) KK (by omega)⟩
  obtain ⟨sz, hsz⟩ : ∃ sz : Int, sz = wrap64 (sizeN a l1 l2 l3 : Nat) := ⟨_, rfl⟩
  have SZ : Aside0 (node_Size.f KK a l1 l2 l3 = some sz) := ⟨by rw [size_val a l1 l2 l3 (by omega) (by omega) KK (by omega) (by omega), hsz]⟩
  have SD : Aside0 (cisternref11_Size.f KK a l1 l2 l3 = some sz) := ⟨by rw [dsize_val a l1 l2 l3 (by omega) (by omega) KK (by omega) (by omega), hsz]⟩
  obtain ⟨fb, hfb⟩ : ∃ fb : Bool, fb = (leafV a l1 l2 l3 || innerV a l1 l2 l3) := ⟨_, rfl⟩
  have RI : Aside0 (cisternref11_Right.f a l1 l2 l3 = some fb) := ⟨by rw [right_val, hfb]⟩
  obtain ⟨ce, hce⟩ : ∃ ce : Int, ce = if fb = true then 0 else 2 := ⟨_, rfl⟩
  have CE : Aside0 (node_Check.f a l1 l2 l3 = some ce) := ⟨by rw [check_val, ← hfb, hce]⟩
  have hcb : (ce == 0) = fb := by rw [hce]; cases fb <;> rfl
  have R1 := Aside0.mk hr1
  have R2 := Aside0.mk hr2
  have R3 := Aside0.mk hr3
  clear hr1 hr2 hr3 y1 y2 y3 _wa0 _ws hE hd z1 z2 z3 hsz hfb hce hK
  have bx := heap_alloc_new w (.cells #[.bool a, .slice A1 l1.length c1, .slice A2 l2.length c2, .slice A3 l3.length c3] 26)
  have BA := below_alloc (Below.refl w.heap.size w) (.cells #[.bool a, .slice A1 l1.length c1, .slice A2 l2.length c2, .slice A3 l3.length c3] 26)
  obtain ⟨w0, hw0⟩ : ∃ w0, w0 = w.alloc (.cells #[.bool a, .slice A1 l1.length c1, .slice A2 l2.length c2, .slice A3 l3.length c3] 26) := ⟨_, rfl⟩
  have HW0 := Aside0.mk hw0
  rw [← hw0] at bx BA
  have B0 := Aside0.mk BA
  clear hw0 BA
  have b0 : w0.cell? ⟨w.heap.size, 0, none⟩ = some (.bool a) := blk_cell bx 0
  have b1 : w0.cell? ⟨w.heap.size, 1, none⟩ = some (.slice A1 l1.length c1) := blk_cell bx 1
  have b2 : w0.cell? ⟨w.heap.size, 2, none⟩ = some (.slice A2 l2.length c2) := blk_cell bx 2
  have b3 : w0.cell? ⟨w.heap.size, 3, none⟩ = some (.slice A3 l3.length c3) := blk_cell bx 3
  clear bx
  go_enter Try.func6, Try.ntmps6
  replace R1 := Aside0.mk (Kd.C_below R1.out B0.out)
  replace R2 := Aside0.mk (Kd.C_below R2.out B0.out)
  replace R3 := Aside0.mk (Kd.C_below R3.out B0.out)
  go_wp2_with fail
  rw [← HW0.out]
  refine (cisternlaw11_known.calls true _ known_val).mono ?_
  rintro e w1 ⟨rfl, hB⟩
  have B1 := Aside0.mk (B0.out.trans (hB.mono B0.out.size))
  replace b0 := nd_cell hB b0
  replace b1 := nd_cell hB b1
  replace b2 := nd_cell hB b2
  replace b3 := nd_cell hB b3
  replace R1 := Aside0.mk (Kd.C_below R1.out hB)
  replace R2 := Aside0.mk (Kd.C_below R2.out hB)
  replace R3 := Aside0.mk (Kd.C_below R3.out hB)
  clear hB
  go_wp2_with fail
  refine (cisternref11_DocEncode.calls KK a A1 c1 l1 A2 c2 l2 A3 c3 l3 p ee _ R1.out hc1 R2.out hc2 R3.out hc3 DE.out).mono ?_
  rintro e w2 ⟨rfl, hB⟩
  have B2 := Aside0.mk (B1.out.trans (hB.mono B1.out.size))
  replace b0 := nd_cell hB b0
  replace b1 := nd_cell hB b1
  replace b2 := nd_cell hB b2
  replace b3 := nd_cell hB b3
  replace R1 := Aside0.mk (Kd.C_below R1.out hB)
  replace R2 := Aside0.mk (Kd.C_below R2.out hB)
  replace R3 := Aside0.mk (Kd.C_below R3.out hB)
  clear hB
  go_wp2_with fail
  refine (cisternlaw11_of.calls a A1 c1 l1 A2 c2 l2 A3 c3 l3 a l1 l2 l3 _ R1.out hc1 R2.out hc2 R3.out hc3 OF.out).mono ?_
  rintro e w3 ⟨v1, v2, v3, rfl, h1, h2, h3, hB⟩
  have B3 := Aside0.mk (B2.out.trans (hB.mono B2.out.size))
  replace b0 := nd_cell hB b0
  replace b1 := nd_cell hB b1
  replace b2 := nd_cell hB b2
  replace b3 := nd_cell hB b3
  replace R1 := Aside0.mk (Kd.C_below R1.out hB)
  replace R2 := Aside0.mk (Kd.C_below R2.out hB)
  replace R3 := Aside0.mk (Kd.C_below R3.out hB)
  clear hB
  obtain ⟨oA1, oc1, rfl⟩ := Kd.R_slice h1
  have oR1 := Aside0.mk h1
  have oL1 := Aside0.mk (Kd.R_reads' h1).2.1
  obtain ⟨oA2, oc2, rfl⟩ := Kd.R_slice h2
  have oR2 := Aside0.mk h2
  have oL2 := Aside0.mk (Kd.R_reads' h2).2.1
  obtain ⟨oA3, oc3, rfl⟩ := Kd.R_slice h3
  have oR3 := Aside0.mk h3
  have oL3 := Aside0.mk (Kd.R_reads' h3).2.1
  clear h1 h2 h3
  go_wp2_with fail
  refine (node_Encode.calls a oA1 oc1 l1 oA2 oc2 l2 oA3 oc3 l3 p ee _ (Kd.R_reads' oR1.out).2.2 oL1.out (Kd.R_reads' oR2.out).2.2 oL2.out (Kd.R_reads' oR3.out).2.2 oL3.out EE.out).mono ?_
  rintro e w4 ⟨rfl, hB⟩
  have B4 := Aside0.mk (B3.out.trans (hB.mono B3.out.size))
  replace b0 := nd_cell hB b0
  replace b1 := nd_cell hB b1
  replace b2 := nd_cell hB b2
  replace b3 := nd_cell hB b3
  replace R1 := Aside0.mk (Kd.C_below R1.out hB)
  replace R2 := Aside0.mk (Kd.C_below R2.out hB)
  replace R3 := Aside0.mk (Kd.C_below R3.out hB)
  clear hB
  clear oR1 oR2 oR3 oL1 oL2 oL3
  go_wp2_with fail
  refine (cisternref11_DocDecode.calls KK s x0 x1 x2 x3 x4 _ DD.out).mono ?_
  rintro e w5 ⟨v1, v2, v3, rfl, h1, h2, h3, hB⟩
  have B5 := Aside0.mk (B4.out.trans (hB.mono B4.out.size))
  replace b0 := nd_cell hB b0
  replace b1 := nd_cell hB b1
  replace b2 := nd_cell hB b2
  replace b3 := nd_cell hB b3
  replace R1 := Aside0.mk (Kd.C_below R1.out hB)
  replace R2 := Aside0.mk (Kd.C_below R2.out hB)
  replace R3 := Aside0.mk (Kd.C_below R3.out hB)
  clear hB
  obtain ⟨xA1, xc1, rfl⟩ := Kd.R_slice h1
  have xR1 := Aside0.mk h1
  have xL1 := Aside0.mk (Kd.R_reads' h1).2.1
  obtain ⟨xA2, xc2, rfl⟩ := Kd.R_slice h2
  have xR2 := Aside0.mk h2
  have xL2 := Aside0.mk (Kd.R_reads' h2).2.1
  obtain ⟨xA3, xc3, rfl⟩ := Kd.R_slice h3
  have xR3 := Aside0.mk h3
  have xL3 := Aside0.mk (Kd.R_reads' h3).2.1
  clear h1 h2 h3
  obtain ⟨nA, hnnA⟩ : ∃ n, n = w5.heap.size := ⟨_, rfl⟩
  have tA := heap_alloc_new w5 (.cells #[.bool x0, .slice xA1 x1.length xc1, .slice xA2 x2.length xc2, .slice xA3 x3.length xc3] 26)
  have hB := below_alloc (Below.refl w5.heap.size w5) (.cells #[.bool x0, .slice xA1 x1.length xc1, .slice xA2 x2.length xc2, .slice xA3 x3.length xc3] 26)
  obtain ⟨w6, hwn⟩ : ∃ x, x = w5.alloc (.cells #[.bool x0, .slice xA1 x1.length xc1, .slice xA2 x2.length xc2, .slice xA3 x3.length xc3] 26) := ⟨_, rfl⟩
  have HWNnA := Aside0.mk hwn
  rw [← hwn] at tA hB
  rw [← hnnA] at tA
  have TA := Aside0.mk tA
  have NnA := Aside0.mk hnnA
  clear tA hwn
  have B6 := Aside0.mk (B5.out.trans (hB.mono B5.out.size))
  replace b0 := nd_cell hB b0
  replace b1 := nd_cell hB b1
  replace b2 := nd_cell hB b2
  replace b3 := nd_cell hB b3
  replace R1 := Aside0.mk (Kd.C_below R1.out hB)
  replace R2 := Aside0.mk (Kd.C_below R2.out hB)
  replace R3 := Aside0.mk (Kd.C_below R3.out hB)
  replace xR1 := Aside0.mk (Kd.R_below xR1.out hB)
  replace xR2 := Aside0.mk (Kd.R_below xR2.out hB)
  replace xR3 := Aside0.mk (Kd.R_below xR3.out hB)
  clear hB
  go_wp2_with fail
  rw [← HWNnA.out]
  rw [← hnnA]
  clear hnnA
  refine (node_Decode.calls s x0 x1 x2 x3 x4 _ DX.out).mono ?_
  rintro e w7 ⟨v1, v2, v3, rfl, h1, h2, h3, hB⟩
  have B7 := Aside0.mk (B6.out.trans (hB.mono B6.out.size))
  replace b0 := nd_cell hB b0
  replace b1 := nd_cell hB b1
  replace b2 := nd_cell hB b2
  replace b3 := nd_cell hB b3
  replace TA := Aside0.mk ((hB.block _ (blk_lt TA.out)).trans TA.out)
  replace R1 := Aside0.mk (Kd.C_below R1.out hB)
  replace R2 := Aside0.mk (Kd.C_below R2.out hB)
  replace R3 := Aside0.mk (Kd.C_below R3.out hB)
  replace xR1 := Aside0.mk (Kd.R_below xR1.out hB)
  replace xR2 := Aside0.mk (Kd.R_below xR2.out hB)
  replace xR3 := Aside0.mk (Kd.R_below xR3.out hB)
  clear hB
  obtain ⟨yA1, yc1, rfl⟩ := Kd.R_slice h1
  have yR1 := Aside0.mk h1
  have yL1 := Aside0.mk (Kd.R_reads' h1).2.1
  obtain ⟨yA2, yc2, rfl⟩ := Kd.R_slice h2
  have yR2 := Aside0.mk h2
  have yL2 := Aside0.mk (Kd.R_reads' h2).2.1
  obtain ⟨yA3, yc3, rfl⟩ := Kd.R_slice h3
  have yR3 := Aside0.mk h3
  have yL3 := Aside0.mk (Kd.R_reads' h3).2.1
  clear h1 h2 h3
  obtain ⟨nB, hnnB⟩ : ∃ n, n = w7.heap.size := ⟨_, rfl⟩
  have tA := heap_alloc_new w7 (.cells #[.bool x0, .slice yA1 x1.length yc1, .slice yA2 x2.length yc2, .slice yA3 x3.length yc3] 31)
  have hB := below_alloc (Below.refl w7.heap.size w7) (.cells #[.bool x0, .slice yA1 x1.length yc1, .slice yA2 x2.length yc2, .slice yA3 x3.length yc3] 31)
  obtain ⟨w8, hwn⟩ : ∃ x, x = w7.alloc (.cells #[.bool x0, .slice yA1 x1.length yc1, .slice yA2 x2.length yc2, .slice yA3 x3.length yc3] 31) := ⟨_, rfl⟩
  have HWNnB := Aside0.mk hwn
  rw [← hwn] at tA hB
  rw [← hnnB] at tA
  have TB := Aside0.mk tA
  have NnB := Aside0.mk hnnB
  clear tA hwn
  have B8 := Aside0.mk (B7.out.trans (hB.mono B7.out.size))
  replace b0 := nd_cell hB b0
  replace b1 := nd_cell hB b1
  replace b2 := nd_cell hB b2
  replace b3 := nd_cell hB b3
  replace TA := Aside0.mk ((hB.block _ (blk_lt TA.out)).trans TA.out)
  replace R1 := Aside0.mk (Kd.C_below R1.out hB)
  replace R2 := Aside0.mk (Kd.C_below R2.out hB)
  replace R3 := Aside0.mk (Kd.C_below R3.out hB)
  replace xR1 := Aside0.mk (Kd.R_below xR1.out hB)
  replace xR2 := Aside0.mk (Kd.R_below xR2.out hB)
  replace xR3 := Aside0.mk (Kd.R_below xR3.out hB)
  replace yR1 := Aside0.mk (Kd.R_below yR1.out hB)
  replace yR2 := Aside0.mk (Kd.R_below yR2.out hB)
  replace yR3 := Aside0.mk (Kd.R_below yR3.out hB)
  clear hB
  go_wp2_with fail
  rw [← HWNnB.out]
  rw [← hnnB]
  clear hnnB
  have ca0 : w8.cell? ⟨nA, 0, none⟩ = some (.bool x0) := blk_cell TA.out 0
  have ca1 : w8.cell? ⟨nA, 1, none⟩ = some (.slice xA1 x1.length xc1) := blk_cell TA.out 1
  have ca2 : w8.cell? ⟨nA, 2, none⟩ = some (.slice xA2 x2.length xc2) := blk_cell TA.out 2
  have ca3 : w8.cell? ⟨nA, 3, none⟩ = some (.slice xA3 x3.length xc3) := blk_cell TA.out 3
  have cd0 : w8.cell? ⟨nB, 0, none⟩ = some (.bool x0) := blk_cell TB.out 0
  have cd1 : w8.cell? ⟨nB, 1, none⟩ = some (.slice yA1 x1.length yc1) := blk_cell TB.out 1
  have cd2 : w8.cell? ⟨nB, 2, none⟩ = some (.slice yA2 x2.length yc2) := blk_cell TB.out 2
  have cd3 : w8.cell? ⟨nB, 3, none⟩ = some (.slice yA3 x3.length yc3) := blk_cell TB.out 3
  have MK : Aside0 (∀ W, Below w8.heap.size w8 W → Below w8.heap.size w8 W ∧ W.cell? ⟨nA, 0, none⟩ = some (.bool x0) ∧ W.cell? ⟨nA, 1, none⟩ = some (.slice xA1 x1.length xc1) ∧ W.cell? ⟨nA, 2, none⟩ = some (.slice xA2 x2.length xc2) ∧ W.cell? ⟨nA, 3, none⟩ = some (.slice xA3 x3.length xc3) ∧ W.cell? ⟨nB, 0, none⟩ = some (.bool x0) ∧ W.cell? ⟨nB, 1, none⟩ = some (.slice yA1 x1.length yc1) ∧ W.cell? ⟨nB, 2, none⟩ = some (.slice yA2 x2.length yc2) ∧ W.cell? ⟨nB, 3, none⟩ = some (.slice yA3 x3.length yc3) ∧ W.cell? ⟨w.heap.size, 0, none⟩ = some (.bool a) ∧ W.cell? ⟨w.heap.size, 1, none⟩ = some (.slice A1 l1.length c1) ∧ W.cell? ⟨w.heap.size, 2, none⟩ = some (.slice A2 l2.length c2) ∧ W.cell? ⟨w.heap.size, 3, none⟩ = some (.slice A3 l3.length c3)) := ⟨fun W hb => ⟨hb, nd_cell hb ca0, nd_cell hb ca1, nd_cell hb ca2, nd_cell hb ca3, nd_cell hb cd0, nd_cell hb cd1, nd_cell hb cd2, nd_cell hb cd3, nd_cell hb b0, nd_cell hb b1, nd_cell hb b2, nd_cell hb b3⟩⟩
  clear ca0 ca1 ca2 ca3 cd0 cd1 cd2 cd3 b0 b1 b2 b3
  refine wp_region_held_drew (S := fun W => Below w8.heap.size w8 W ∧ W.cell? ⟨nA, 0, none⟩ = some (.bool x0) ∧ W.cell? ⟨nA, 1, none⟩ = some (.slice xA1 x1.length xc1) ∧ W.cell? ⟨nA, 2, none⟩ = some (.slice xA2 x2.length xc2) ∧ W.cell? ⟨nA, 3, none⟩ = some (.slice xA3 x3.length xc3) ∧ W.cell? ⟨nB, 0, none⟩ = some (.bool x0) ∧ W.cell? ⟨nB, 1, none⟩ = some (.slice yA1 x1.length yc1) ∧ W.cell? ⟨nB, 2, none⟩ = some (.slice yA2 x2.length yc2) ∧ W.cell? ⟨nB, 3, none⟩ = some (.slice yA3 x3.length yc3) ∧ W.cell? ⟨w.heap.size, 0, none⟩ = some (.bool a) ∧ W.cell? ⟨w.heap.size, 1, none⟩ = some (.slice A1 l1.length c1) ∧ W.cell? ⟨w.heap.size, 2, none⟩ = some (.slice A2 l2.length c2) ∧ W.cell? ⟨w.heap.size, 3, none⟩ = some (.slice A3 l3.length c3)) (by kernel_rfl) ?_ (fun hHeld => ?_)
  · try dsimp only
    first | exact MK.out _ (Below.drew (Below.refl _ _)) | exact MK.out _ SB1.out | assumption
  refine wpAnyH_take (i := 0) (oi := _) (v := _) rfl (by kernel_rfl) (by kernel_rfl) (by kernel_rfl) (fun _ _ _ h => h) (Or.inl ⟨by rfl, by (intro w hSw; (try dsimp only at hSw); go_simp; try with_reducible rfl)⟩) hHeld ?_
  simp only [Act.put, List.getElem_toArray, List.getElem_cons_zero, List.getElem_cons_succ, List.setIfInBounds_toArray, List.set_cons_zero, List.set_cons_succ]
  refine wpAnyH_take (i := 4) (oi := _) (v := _) rfl (by kernel_rfl) (by kernel_rfl) (by kernel_rfl) (fun _ _ _ h => h) (Or.inl ⟨by rfl, by (intro w hSw; (try dsimp only at hSw); go_simp; try with_reducible rfl)⟩) hHeld ?_
  simp only [Act.put, List.getElem_toArray, List.getElem_cons_zero, List.getElem_cons_succ, List.setIfInBounds_toArray, List.set_cons_zero, List.set_cons_succ]
  refine wpAnyH_ready (rs := [1]) (by kernel_rfl) (by simp) ?_
  refine AllReadyH.cons rfl (fun K hK => ?_) AllReadyH.nil
  go_simp
  refine (cisternlaw11_of.calls a A1 c1 l1 A2 c2 l2 A3 c3 l3 a l1 l2 l3 _ (Kd.C_below R1.out hHeld.1) hc1 (Kd.C_below R2.out hHeld.1) hc2 (Kd.C_below R3.out hHeld.1) hc3 OF.out).mono ?_
  rintro e wa ⟨v1, v2, v3, rfl, h1, h2, h3, hb6⟩
  obtain ⟨uA1, uc1, rfl⟩ := Kd.R_slice h1
  have uR1 := Aside0.mk h1
  have uL1 := Aside0.mk (Kd.R_reads' h1).2.1
  obtain ⟨uA2, uc2, rfl⟩ := Kd.R_slice h2
  have uR2 := Aside0.mk h2
  have uL2 := Aside0.mk (Kd.R_reads' h2).2.1
  obtain ⟨uA3, uc3, rfl⟩ := Kd.R_slice h3
  have uR3 := Aside0.mk h3
  have uL3 := Aside0.mk (Kd.R_reads' h3).2.1
  clear h1 h2 h3
  have SB1 : Aside0 (Below w8.heap.size w8 wa) := ⟨Below.trans hHeld.1 (hb6.mono hHeld.1.size)⟩
  clear hb6
  go_simp
  refine hK.out _ _ ?_ (fun hNew => ?_)
  · try dsimp only
    first | exact MK.out _ (Below.drew (Below.refl _ _)) | exact MK.out _ SB1.out | assumption
  clear hK K hHeld
  have hHeld := hNew
  clear hNew
  refine wpAnyH_ready (rs := [2]) (by kernel_rfl) (by simp) ?_
  refine AllReadyH.cons rfl (fun K hK => ?_) AllReadyH.nil
  go_simp
  refine (node_Check.calls a uA1 uc1 l1 uA2 uc2 l2 uA3 uc3 l3 ce _ (Kd.R_reads' uR1.out).2.2 uL1.out (Kd.R_reads' uR2.out).2.2 uL2.out (Kd.R_reads' uR3.out).2.2 uL3.out CE.out).mono ?_
  rintro e wb ⟨rfl, hb6⟩
  clear uR1 uR2 uR3 uL1 uL2 uL3
  have SB1 : Aside0 (Below w8.heap.size w8 wb) := ⟨Below.trans hHeld.1 (hb6.mono hHeld.1.size)⟩
  clear hb6
  go_simp
  refine hK.out _ _ ?_ (fun hNew => ?_)
  · try dsimp only
    first | exact MK.out _ (Below.drew (Below.refl _ _)) | exact MK.out _ SB1.out | assumption
  clear hK K hHeld
  have hHeld := hNew
  clear hNew
  refine wpAnyH_take (i := 3) (oi := _) (v := _) rfl (by kernel_rfl) (by kernel_rfl) (by kernel_rfl) (fun _ _ _ h => h) (Or.inl ⟨by rfl, by (intro w hSw; (try dsimp only at hSw); go_simp; try with_reducible rfl)⟩) hHeld ?_
  simp only [Act.put, List.getElem_toArray, List.getElem_cons_zero, List.getElem_cons_succ, List.setIfInBounds_toArray, List.set_cons_zero, List.set_cons_succ]
  refine wpAnyH_ready (rs := [5]) (by kernel_rfl) (by simp) ?_
  refine AllReadyH.cons rfl (fun K hK => ?_) AllReadyH.nil
  go_simp
  refine (cisternref11_Right.calls a A1 c1 l1 A2 c2 l2 A3 c3 l3 fb _ (Kd.C_below R1.out hHeld.1) hc1 (Kd.C_below R2.out hHeld.1) hc2 (Kd.C_below R3.out hHeld.1) hc3 RI.out).mono ?_
  rintro e wc ⟨rfl, hb6⟩
  have SB1 : Aside0 (Below w8.heap.size w8 wc) := ⟨Below.trans hHeld.1 (hb6.mono hHeld.1.size)⟩
  clear hb6
  go_simp
  refine hK.out _ _ ?_ (fun hNew => ?_)
  · try dsimp only
    first | exact MK.out _ (Below.drew (Below.refl _ _)) | exact MK.out _ SB1.out | assumption
  clear hK K hHeld
  have hHeld := hNew
  clear hNew
  refine wpAnyH_take (i := 6) (oi := _) (v := _) rfl (by kernel_rfl) (by kernel_rfl) (by kernel_rfl) (fun _ _ _ h => h) (Or.inl ⟨by rfl, by (intro w hSw; (try dsimp only at hSw); go_simp; try with_reducible rfl)⟩) hHeld ?_
  simp only [Act.put, List.getElem_toArray, List.getElem_cons_zero, List.getElem_cons_succ, List.setIfInBounds_toArray, List.set_cons_zero, List.set_cons_succ]
  refine wpAnyH_take (i := 7) (oi := _) (v := _) rfl (by kernel_rfl) (by kernel_rfl) (by kernel_rfl) (fun _ _ _ h => h) (Or.inl ⟨by rfl, by (intro w hSw; (try dsimp only at hSw); go_simp; try with_reducible rfl)⟩) hHeld ?_
  simp only [Act.put, List.getElem_toArray, List.getElem_cons_zero, List.getElem_cons_succ, List.setIfInBounds_toArray, List.set_cons_zero, List.set_cons_succ]
  refine wpAnyH_take (i := 8) (oi := _) (v := _) rfl (by kernel_rfl) (by kernel_rfl) (by kernel_rfl) (fun _ _ _ h => h) (Or.inl ⟨by rfl, by (intro w hSw; (try dsimp only at hSw); go_simp; try with_reducible rfl)⟩) hHeld ?_
  simp only [Act.put, List.getElem_toArray, List.getElem_cons_zero, List.getElem_cons_succ, List.setIfInBounds_toArray, List.set_cons_zero, List.set_cons_succ]
  refine wpAnyH_take (i := 11) (oi := _) (v := _) rfl (by kernel_rfl) (by kernel_rfl) (by kernel_rfl) (fun _ _ _ h => h) (Or.inl ⟨by rfl, by (intro w hSw; (try dsimp only at hSw); go_simp; try with_reducible rfl)⟩) hHeld ?_
  simp only [Act.put, List.getElem_toArray, List.getElem_cons_zero, List.getElem_cons_succ, List.setIfInBounds_toArray, List.set_cons_zero, List.set_cons_succ]
  refine wpAnyH_ready (rs := [9]) (by kernel_rfl) (by simp) ?_
  refine AllReadyH.cons rfl (fun K hK => ?_) AllReadyH.nil
  go_simp
  refine (cisternlaw11_of.calls a A1 c1 l1 A2 c2 l2 A3 c3 l3 a l1 l2 l3 _ (Kd.C_below R1.out hHeld.1) hc1 (Kd.C_below R2.out hHeld.1) hc2 (Kd.C_below R3.out hHeld.1) hc3 OF.out).mono ?_
  rintro e wd ⟨v1, v2, v3, rfl, h1, h2, h3, hb6⟩
  obtain ⟨gA1, gc1, rfl⟩ := Kd.R_slice h1
  have gR1 := Aside0.mk h1
  have gL1 := Aside0.mk (Kd.R_reads' h1).2.1
  obtain ⟨gA2, gc2, rfl⟩ := Kd.R_slice h2
  have gR2 := Aside0.mk h2
  have gL2 := Aside0.mk (Kd.R_reads' h2).2.1
  obtain ⟨gA3, gc3, rfl⟩ := Kd.R_slice h3
  have gR3 := Aside0.mk h3
  have gL3 := Aside0.mk (Kd.R_reads' h3).2.1
  clear h1 h2 h3
  have SB1 : Aside0 (Below w8.heap.size w8 wd) := ⟨Below.trans hHeld.1 (hb6.mono hHeld.1.size)⟩
  clear hb6
  go_simp
  refine hK.out _ _ ?_ (fun hNew => ?_)
  · try dsimp only
    first | exact MK.out _ (Below.drew (Below.refl _ _)) | exact MK.out _ SB1.out | assumption
  clear hK K hHeld
  have hHeld := hNew
  clear hNew
  refine wpAnyH_ready (rs := [10]) (by kernel_rfl) (by simp) ?_
  refine AllReadyH.cons rfl (fun K hK => ?_) AllReadyH.nil
  go_simp
  refine (node_Size.calls KK a gA1 gc1 l1 gA2 gc2 l2 gA3 gc3 l3 sz _ (Kd.R_reads' gR1.out).2.2 gL1.out (Kd.R_reads' gR2.out).2.2 gL2.out (Kd.R_reads' gR3.out).2.2 gL3.out SZ.out).mono ?_
  rintro e wf ⟨rfl, hb6⟩
  clear gR1 gR2 gR3 gL1 gL2 gL3
  have SB1 : Aside0 (Below w8.heap.size w8 wf) := ⟨Below.trans hHeld.1 (hb6.mono hHeld.1.size)⟩
  clear hb6
  go_simp
  refine hK.out _ _ ?_ (fun hNew => ?_)
  · try dsimp only
    first | exact MK.out _ (Below.drew (Below.refl _ _)) | exact MK.out _ SB1.out | assumption
  clear hK K hHeld
  have hHeld := hNew
  clear hNew
  refine wpAnyH_ready (rs := [12]) (by kernel_rfl) (by simp) ?_
  refine AllReadyH.cons rfl (fun K hK => ?_) AllReadyH.nil
  go_simp
  refine (cisternref11_Size.calls KK a A1 c1 l1 A2 c2 l2 A3 c3 l3 sz _ (Kd.C_below R1.out hHeld.1) hc1 (Kd.C_below R2.out hHeld.1) hc2 (Kd.C_below R3.out hHeld.1) hc3 SD.out).mono ?_
  rintro e wg ⟨rfl, hb6⟩
  have SB1 : Aside0 (Below w8.heap.size w8 wg) := ⟨Below.trans hHeld.1 (hb6.mono hHeld.1.size)⟩
  clear hb6
  go_simp
  refine hK.out _ _ ?_ (fun hNew => ?_)
  · try dsimp only
    first | exact MK.out _ (Below.drew (Below.refl _ _)) | exact MK.out _ SB1.out | assumption
  clear hK K hHeld
  have hHeld := hNew
  clear hNew
  refine wpAnyH_take (i := 13) (oi := _) (v := _) rfl (by kernel_rfl) (by kernel_rfl) (by kernel_rfl) (fun _ _ _ h => h) (Or.inl ⟨by rfl, by (intro w hSw; (try dsimp only at hSw); go_simp; try with_reducible rfl)⟩) hHeld ?_
  simp only [Act.put, List.getElem_toArray, List.getElem_cons_zero, List.getElem_cons_succ, List.setIfInBounds_toArray, List.set_cons_zero, List.set_cons_succ]
  refine wpAnyH_take (i := 14) (oi := _) (v := _) rfl (by kernel_rfl) (by kernel_rfl) (by kernel_rfl) (fun _ _ _ h => h) (Or.inl ⟨by rfl, by (intro w hSw; (try dsimp only at hSw); go_simp; try with_reducible rfl)⟩) hHeld ?_
  simp only [Act.put, List.getElem_toArray, List.getElem_cons_zero, List.getElem_cons_succ, List.setIfInBounds_toArray, List.set_cons_zero, List.set_cons_succ]
  refine wpAnyH_take (i := 15) (oi := _) (v := _) rfl (by kernel_rfl) (by kernel_rfl) (by kernel_rfl) (fun _ _ _ h => h) (Or.inl ⟨by rfl, by (intro w hSw; (try dsimp only at hSw); go_simp; try with_reducible rfl)⟩) hHeld ?_
  simp only [Act.put, List.getElem_toArray, List.getElem_cons_zero, List.getElem_cons_succ, List.setIfInBounds_toArray, List.set_cons_zero, List.set_cons_succ]
  refine wpAnyH_take (i := 16) (oi := _) (v := _) rfl (by kernel_rfl) (by kernel_rfl) (by kernel_rfl) (fun _ _ _ h => h) (Or.inl ⟨by rfl, by (intro w hSw; (try dsimp only at hSw); go_simp; try with_reducible rfl)⟩) hHeld ?_
  simp only [Act.put, List.getElem_toArray, List.getElem_cons_zero, List.getElem_cons_succ, List.setIfInBounds_toArray, List.set_cons_zero, List.set_cons_succ]
  refine wpAnyH_take (i := 17) (oi := _) (v := _) rfl (by kernel_rfl) (by kernel_rfl) (by kernel_rfl) (fun _ _ _ h => h) (Or.inl ⟨by rfl, by (intro w hSw; (try dsimp only at hSw); go_simp; try with_reducible rfl)⟩) hHeld ?_
  simp only [Act.put, List.getElem_toArray, List.getElem_cons_zero, List.getElem_cons_succ, List.setIfInBounds_toArray, List.set_cons_zero, List.set_cons_succ]
  refine wpAnyH_take (i := 18) (oi := _) (v := _) rfl (by kernel_rfl) (by kernel_rfl) (by kernel_rfl) (fun _ _ _ h => h) (Or.inl ⟨by rfl, by (intro w hSw; (try dsimp only at hSw); go_simp; try with_reducible rfl)⟩) hHeld ?_
  simp only [Act.put, List.getElem_toArray, List.getElem_cons_zero, List.getElem_cons_succ, List.setIfInBounds_toArray, List.set_cons_zero, List.set_cons_succ]
  refine wpAnyH_take (i := 19) (oi := _) (v := _) rfl (by kernel_rfl) (by kernel_rfl) (by kernel_rfl) (fun _ _ _ h => h) (Or.inl ⟨by rfl, by (intro w hSw; (try dsimp only at hSw); go_simp; try with_reducible rfl)⟩) hHeld ?_
  simp only [Act.put, List.getElem_toArray, List.getElem_cons_zero, List.getElem_cons_succ, List.setIfInBounds_toArray, List.set_cons_zero, List.set_cons_succ]
  refine wpAnyH_take (i := 20) (oi := _) (v := _) rfl (by kernel_rfl) (by kernel_rfl) (by kernel_rfl) (fun _ _ _ h => h) (Or.inl ⟨by rfl, by (intro w hSw; (try dsimp only at hSw); go_simp; try with_reducible rfl)⟩) hHeld ?_
  simp only [Act.put, List.getElem_toArray, List.getElem_cons_zero, List.getElem_cons_succ, List.setIfInBounds_toArray, List.set_cons_zero, List.set_cons_succ]
  refine wpAnyH_take (i := 21) (oi := _) (v := _) rfl (by kernel_rfl) (by kernel_rfl) (by kernel_rfl) (fun _ _ _ h => h) (Or.inl ⟨by rfl, by (intro w hSw; (try dsimp only at hSw); go_simp; try with_reducible rfl)⟩) hHeld ?_
  simp only [Act.put, List.getElem_toArray, List.getElem_cons_zero, List.getElem_cons_succ, List.setIfInBounds_toArray, List.set_cons_zero, List.set_cons_succ]
  refine wpAnyH_take (i := 22) (oi := _) (v := _) rfl (by kernel_rfl) (by kernel_rfl) (by kernel_rfl) (fun _ _ _ h => h) (Or.inl ⟨by rfl, by (intro w hSw; (try dsimp only at hSw); go_simp; try with_reducible rfl)⟩) hHeld ?_
  simp only [Act.put, List.getElem_toArray, List.getElem_cons_zero, List.getElem_cons_succ, List.setIfInBounds_toArray, List.set_cons_zero, List.set_cons_succ]
  refine wpAnyH_take (i := 23) (oi := _) (v := _) rfl (by kernel_rfl) (by kernel_rfl) (by kernel_rfl) (fun _ _ _ h => h) (Or.inl ⟨by rfl, by (intro w hSw; (try dsimp only at hSw); go_simp; try with_reducible rfl)⟩) hHeld ?_
  simp only [Act.put, List.getElem_toArray, List.getElem_cons_zero, List.getElem_cons_succ, List.setIfInBounds_toArray, List.set_cons_zero, List.set_cons_succ]
  refine wpAnyH_take (i := 24) (oi := _) (v := _) rfl (by kernel_rfl) (by kernel_rfl) (by kernel_rfl) (fun _ _ _ h => h) (Or.inl ⟨by rfl, by (intro w hSw; (try dsimp only at hSw); go_simp; try with_reducible rfl)⟩) hHeld ?_
  simp only [Act.put, List.getElem_toArray, List.getElem_cons_zero, List.getElem_cons_succ, List.setIfInBounds_toArray, List.set_cons_zero, List.set_cons_succ]
  refine wpAnyH_take (i := 25) (oi := _) (v := _) rfl (by kernel_rfl) (by kernel_rfl) (by kernel_rfl) (fun _ _ _ h => h) (Or.inl ⟨by rfl, by (intro w hSw; (try dsimp only at hSw); go_simp; try with_reducible rfl)⟩) hHeld ?_
  simp only [Act.put, List.getElem_toArray, List.getElem_cons_zero, List.getElem_cons_succ, List.setIfInBounds_toArray, List.set_cons_zero, List.set_cons_succ]
  refine wpAnyH_take (i := 26) (oi := _) (v := _) rfl (by kernel_rfl) (by kernel_rfl) (by kernel_rfl) (fun _ _ _ h => h) (Or.inl ⟨by rfl, by (intro w hSw; (try dsimp only at hSw); go_simp; try with_reducible rfl)⟩) hHeld ?_
  simp only [Act.put, List.getElem_toArray, List.getElem_cons_zero, List.getElem_cons_succ, List.setIfInBounds_toArray, List.set_cons_zero, List.set_cons_succ]
  refine wpAnyH_take (i := 27) (oi := _) (v := _) rfl (by kernel_rfl) (by kernel_rfl) (by kernel_rfl) (fun _ _ _ h => h) (Or.inl ⟨by rfl, by (intro w hSw; (try dsimp only at hSw); go_simp; try with_reducible rfl)⟩) hHeld ?_
  simp only [Act.put, List.getElem_toArray, List.getElem_cons_zero, List.getElem_cons_succ, List.setIfInBounds_toArray, List.set_cons_zero, List.set_cons_succ]
  refine wpAnyH_ready (rs := [28]) (by kernel_rfl) (by simp) ?_
  refine AllReadyH.cons rfl (fun K hK => ?_) AllReadyH.nil
  go_simp
  refine (backW x0 yA1 _ yc1 yA2 _ yc2 yA3 _ yc3 _).mono ?_
  rintro e wh ⟨rfl, hb6⟩
  have SB1 : Aside0 (Below w8.heap.size w8 wh) := ⟨Below.trans hHeld.1 (hb6.mono hHeld.1.size)⟩
  clear hb6
  go_simp
  refine hK.out _ _ ?_ (fun hNew => ?_)
  · try dsimp only
    first | exact MK.out _ (Below.drew (Below.refl _ _)) | exact MK.out _ SB1.out | assumption
  clear hK K hHeld
  have hHeld := hNew
  clear hNew
  refine wpAnyH_ready (rs := [29]) (by kernel_rfl) (by simp) ?_
  refine AllReadyH.cons rfl (fun K hK => ?_) AllReadyH.nil
  go_simp
  refine (cisternref11_Same.calls KK x0 xA1 xc1 x1 xA2 xc2 x2 xA3 xc3 x3 x0 yA1 yc1 x1 yA2 yc2 x2 yA3 yc3 x3 true _ (Kd.C_below (Kd.R_reads' xR1.out).2.2 hHeld.1) xL1.out (Kd.C_below (Kd.R_reads' xR2.out).2.2 hHeld.1) xL2.out (Kd.C_below (Kd.R_reads' xR3.out).2.2 hHeld.1) xL3.out (Kd.C_below (Kd.R_reads' yR1.out).2.2 hHeld.1) yL1.out (Kd.C_below (Kd.R_reads' yR2.out).2.2 hHeld.1) yL2.out (Kd.C_below (Kd.R_reads' yR3.out).2.2 hHeld.1) yL3.out SS.out).mono ?_
  rintro e w9 ⟨rfl, hb6⟩
  have SB1 : Aside0 (Below w8.heap.size w8 w9) := ⟨Below.trans hHeld.1 (hb6.mono hHeld.1.size)⟩
  clear hb6
  go_simp
  refine hK.out _ _ ?_ (fun hNew => ?_)
  · try dsimp only
    first | exact MK.out _ (Below.drew (Below.refl _ _)) | exact MK.out _ SB1.out | assumption
  clear hK K hHeld
  have hHeld := hNew
  clear hNew
  refine wpAnyH_take (i := 30) (oi := _) (v := _) rfl (by kernel_rfl) (by kernel_rfl) (by kernel_rfl) (fun _ _ _ h => h) (Or.inl ⟨by rfl, by (intro w hSw; (try dsimp only at hSw); go_simp; try with_reducible rfl)⟩) hHeld ?_
  simp only [Act.put, List.getElem_toArray, List.getElem_cons_zero, List.getElem_cons_succ, List.setIfInBounds_toArray, List.set_cons_zero, List.set_cons_succ]
  refine wpAnyH_take (i := 31) (oi := _) (v := _) rfl (by kernel_rfl) (by kernel_rfl) (by kernel_rfl) (fun _ _ _ h => h) (Or.inl ⟨by rfl, by (intro w hSw; (try dsimp only at hSw); go_simp; try with_reducible rfl)⟩) hHeld ?_
  simp only [Act.put, List.getElem_toArray, List.getElem_cons_zero, List.getElem_cons_succ, List.setIfInBounds_toArray, List.set_cons_zero, List.set_cons_succ]
  refine wpAnyH_take (i := 32) (oi := _) (v := _) rfl (by kernel_rfl) (by kernel_rfl) (by kernel_rfl) (fun _ _ _ h => h) (Or.inl ⟨by rfl, by (intro w hSw; (try dsimp only at hSw); go_simp; try with_reducible rfl)⟩) hHeld ?_
  simp only [Act.put, List.getElem_toArray, List.getElem_cons_zero, List.getElem_cons_succ, List.setIfInBounds_toArray, List.set_cons_zero, List.set_cons_succ]
  refine wpAnyH_take (i := 33) (oi := _) (v := _) rfl (by kernel_rfl) (by kernel_rfl) (by kernel_rfl) (fun _ _ _ h => h) (Or.inl ⟨by rfl, by (intro w hSw; (try dsimp only at hSw); go_simp; try with_reducible rfl)⟩) hHeld ?_
  simp only [Act.put, List.getElem_toArray, List.getElem_cons_zero, List.getElem_cons_succ, List.setIfInBounds_toArray, List.set_cons_zero, List.set_cons_succ]
  refine wpAnyH_take (i := 34) (oi := _) (v := _) rfl (by kernel_rfl) (by kernel_rfl) (by kernel_rfl) (fun _ _ _ h => h) (Or.inl ⟨by rfl, by (intro w hSw; (try dsimp only at hSw); go_simp; try with_reducible rfl)⟩) hHeld ?_
  simp only [Act.put, List.getElem_toArray, List.getElem_cons_zero, List.getElem_cons_succ, List.setIfInBounds_toArray, List.set_cons_zero, List.set_cons_succ]
  refine wpAnyH_take (i := 35) (oi := _) (v := _) rfl (by kernel_rfl) (by kernel_rfl) (by kernel_rfl) (fun _ _ _ h => h) (Or.inl ⟨by rfl, by (intro w hSw; (try dsimp only at hSw); go_simp; try with_reducible rfl)⟩) hHeld ?_
  simp only [Act.put, List.getElem_toArray, List.getElem_cons_zero, List.getElem_cons_succ, List.setIfInBounds_toArray, List.set_cons_zero, List.set_cons_succ]
  refine wpAnyH_take (i := 36) (oi := _) (v := _) rfl (by kernel_rfl) (by kernel_rfl) (by kernel_rfl) (fun _ _ _ h => h) (Or.inl ⟨by rfl, by (intro w hSw; (try dsimp only at hSw); go_simp; try with_reducible rfl)⟩) hHeld ?_
  simp only [Act.put, List.getElem_toArray, List.getElem_cons_zero, List.getElem_cons_succ, List.setIfInBounds_toArray, List.set_cons_zero, List.set_cons_succ]
  refine wpAnyH_done (by kernel_rfl) ?_ _
  have hB := hHeld.1
  clear hHeld MK SB1
  have B9 := Aside0.mk (B8.out.trans (hB.mono B8.out.size))
  clear hB
  go_wp2
  go_ret
  exact ⟨rfl, B9.out⟩
end
end Go.Proofs.Ytjjfeoigjhbbpaa.PA
