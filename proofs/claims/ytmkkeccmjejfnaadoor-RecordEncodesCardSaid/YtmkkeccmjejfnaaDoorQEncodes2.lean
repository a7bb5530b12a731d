/- Texts of this claim: contracts of the functions that the statement reaches, and plain laws of what they compute. -/
import Derived.Test.YtmkkeccmjejfnaaDoorQEncodes1
set_option linter.unusedVariables false
set_option linter.unusedSimpArgs false
namespace Go.Proofs.YtmkkeccmjejfnaaDoor.PA
section

open Go.RowKit Go.Proofs.YtmkkeccmjejfnaaDoorW.PrintWords Go.Proofs.YtmkkeccmjejfnaaDoorW.PrintLast Go.Proofs.YtmkkeccmjejfnaaDoorW.PrintMore
attribute [local go_sem] pr_leq pr_geq pr_gtr max2_int min2_int max_two min_two max_three min_three max_four min_four
set_option linter.unusedVariables false
set_option linter.unusedSimpArgs false
def cisternref07_DocEncode.f (k : Nat) (a0_0 : Int) (l0_1 : List Int) (a0_2 : ByteArray) : Option (ByteArray × Int) := (cisternref07_Right.f k a0_0 l0_1 a0_2).bind fun t256 => (if t256 = true then ((cisternref07_Encode.f k a0_0 l0_1 a0_2).bind fun t257 => (some (t257, 0))) else (some ((⟨#[]⟩ : ByteArray), 2)))
set_option maxHeartbeats 8000000 in
set_option maxRecDepth 100000 in
theorem cisternref07_DocEncode.calls (k : Nat) (a0_0 : Int) (A0_1 : Option Addr) (c0_1 : Nat) (l0_1 : List Int) (a0_2 : ByteArray) (r1 : ByteArray) (r2 : Int) (w : World) (hr0_1 : Kd.C (Kd.int .i64) w A0_1 l0_1.length l0_1) (hc0_1 : l0_1.length ≤ c0_1) (h : cisternref07_DocEncode.f k a0_0 l0_1 a0_2 = some (r1, r2)) :
    Calls Tryd.prog 11 #[.agg #[.int .i64 a0_0, .slice A0_1 l0_1.length c0_1, .string a0_2]] w fun e w' => e = .returned (.tuple #[.string r1, .int .i64 r2]) ∧ Below w.heap.size w w' := by
  have hu34 := Tryd.underlying34
  have HR0_1 := Aside0.mk hr0_1
  have HC0_1 := Aside0.mk hc0_1
  clear hr0_1 hc0_1
  have HB := Aside0.mk (Below.refl w.heap.size w)
  have H : ((cisternref07_Right.f k a0_0 l0_1 a0_2).bind fun t256 => (if t256 = true then ((cisternref07_Encode.f k a0_0 l0_1 a0_2).bind fun t257 => (some (t257, 0))) else (some ((⟨#[]⟩ : ByteArray), 2)))) = some (r1, r2) := h
  clear h
  replace H := Option.bind_eq_some_iff.mp H
  obtain ⟨t256, A20, H⟩ := H
  replace H : (if t256 = true then ((cisternref07_Encode.f k a0_0 l0_1 a0_2).bind fun t257 => (some (t257, 0))) else (some ((⟨#[]⟩ : ByteArray), 2))) = some (r1, r2) := H
  have A2 := Aside0.mk A20
  clear A20
  by_cases c3 : t256 = true
  · subst c3
    have H1 : ((cisternref07_Encode.f k a0_0 l0_1 a0_2).bind fun t257 => (some (t257, 0))) = some (r1, r2) := by rw [if_pos rfl] at H; exact H
    clear H
    have H := H1
    clear H1
    replace H := Option.bind_eq_some_iff.mp H
    obtain ⟨t257, A40, H⟩ := H
    replace H : (some (t257, 0)) = some (r1, r2) := H
    have A4 := Aside0.mk A40
    clear A40
    simp only [Option.some.injEq, Prod.mk.injEq] at H
    obtain ⟨rfl, rfl⟩ := H
    go_enter Tryd.func11, Tryd.ntmps11
    go_wp2_with (first | ((with_reducible refine gate_dst (N := 1) rfl ?_); refine box_event ?hg (N := 1) ?hd (cs := #[.int .i64 a0_0, .slice A0_1 l0_1.length c0_1, .string a0_2]) (t := 34) ?hr ?_; (case hd => rfl); (case hg => rfl); (case hr => first | (go_simp; done) | (go_simp; rfl)); intro gb255 hg w5 hbox hb; have n0_ := Aside0.mk (below_step (by repeat (first | (with_reducible first | exact HB.out | apply below_alloc | apply pw_below_drewN | apply below_drew1) | exact HB.out)) hb); have n1_ := Aside0.mk (hbox); have n2_ := Aside0.mk ((by rw [hg]; exact (below_size (by repeat (first | (with_reducible first | exact HB.out | apply below_alloc | apply pw_below_drewN | apply below_drew1) | exact HB.out))) : w.heap.size ≤ gb255)); have n3_ := Aside0.mk ((by rw [hg]; exact (below_size (by repeat (first | (with_reducible first | exact HB.out | apply below_alloc | apply pw_below_drewN | apply below_drew1) | exact HB.out))) : w.heap.size ≤ gb255)); clear HB; have HB := n0_; have BK255 := n1_; have GW255 := n2_; have GE255 := n3_; clear n0_ n1_ n2_ n3_; clear hb hbox hg; have hcz6_0 : w5.cell? ⟨gb255, 0, none⟩ = some (.int .i64 a0_0) := (blk_cell BK255.out 0).trans rfl; have hcz6_1 : w5.cell? ⟨gb255, 1, none⟩ = some (.slice A0_1 l0_1.length c0_1) := (blk_cell BK255.out 1).trans rfl; have hcz6_2 : w5.cell? ⟨gb255, 2, none⟩ = some (.string a0_2) := (blk_cell BK255.out 2).trans rfl; have hfz6_0 := blk_frozen BK255.out 0; have hfz6_1 := blk_frozen BK255.out 1; have hfz6_2 := blk_frozen BK255.out 2) | ((with_reducible refine gate_callee (f := 28) rfl ?_); refine goesL_ (some 5) rfl rfl Tryd.func28 (by kernel_rfl) rfl #[.agg #[.int .i64 a0_0, .slice A0_1 l0_1.length c0_1, .string a0_2]] rfl (by (try simp only [List.map_toArray, List.map_cons, List.map_nil]); first | done | rfl | (simp only [List.length_drop, List.length_take]; rfl)) ?_; (with_reducible refine (cisternref07_Right.calls k a0_0 _ _ l0_1 a0_2 true _ ?side1 ?side2 A2.out).mono ?_); (case side1 => repeat (first | exact (Kd.C_below HR0_1.out HB.out) | (with_reducible refine Kd.C_alloc ?_ _) | (with_reducible refine Kd.C_drewN ?_ _) | (with_reducible refine Kd.C_drew ?_))); (case side2 => exact HC0_1.out); rintro e w7 ⟨rfl, hb⟩; refine ⟨_, rfl, ?_⟩; have n0_ := Aside0.mk (blk_below (g := gb255) (o := .cells #[.int .i64 a0_0, .slice A0_1 l0_1.length c0_1, .string a0_2] 34 (0, 0)) (by (with_reducible repeat (first | refine blk_drewN ?_ _ | refine blk_drew ?_ | refine blk_alloc ?_ _)); exact BK255.out) hb); have n1_ := Aside0.mk (below_step (by repeat (first | (with_reducible first | exact HB.out | apply below_alloc | apply pw_below_drewN | apply below_drew1 | refine below_set ?_ GE255.out) | exact HB.out)) hb); clear BK255; clear HB; have BK255 := n0_; have HB := n1_; clear n0_ n1_; (try clear hb); (try clear hb2); (try clear hk); (try clear hi); have hcz8_0 : w7.cell? ⟨gb255, 0, none⟩ = some (.int .i64 a0_0) := (blk_cell BK255.out 0).trans rfl; have hcz8_1 : w7.cell? ⟨gb255, 1, none⟩ = some (.slice A0_1 l0_1.length c0_1) := (blk_cell BK255.out 1).trans rfl; have hcz8_2 : w7.cell? ⟨gb255, 2, none⟩ = some (.string a0_2) := (blk_cell BK255.out 2).trans rfl; have hfz8_0 := blk_frozen BK255.out 0; have hfz8_1 := blk_frozen BK255.out 1; have hfz8_2 := blk_frozen BK255.out 2) | ((with_reducible refine gate_callee (f := 29) rfl ?_); refine goesL_ (some 8) rfl rfl Tryd.func29 (by kernel_rfl) rfl #[.agg #[.int .i64 a0_0, .slice A0_1 l0_1.length c0_1, .string a0_2]] rfl (by (try simp only [List.map_toArray, List.map_cons, List.map_nil]); first | done | rfl | (simp only [List.length_drop, List.length_take]; rfl)) ?_; (with_reducible refine (cisternref07_Encode.calls k a0_0 _ _ l0_1 a0_2 t257 _ ?side1 ?side2 A4.out).mono ?_); (case side1 => repeat (first | exact (Kd.C_below HR0_1.out HB.out) | (with_reducible refine Kd.C_alloc ?_ _) | (with_reducible refine Kd.C_drewN ?_ _) | (with_reducible refine Kd.C_drew ?_))); (case side2 => exact HC0_1.out); rintro e w9 ⟨rfl, hb⟩; refine ⟨_, rfl, ?_⟩; have n0_ := Aside0.mk (blk_below (g := gb255) (o := .cells #[.int .i64 a0_0, .slice A0_1 l0_1.length c0_1, .string a0_2] 34 (0, 0)) (by (with_reducible repeat (first | refine blk_drewN ?_ _ | refine blk_drew ?_ | refine blk_alloc ?_ _)); exact BK255.out) hb); have n1_ := Aside0.mk (below_step (by repeat (first | (with_reducible first | exact HB.out | apply below_alloc | apply pw_below_drewN | apply below_drew1 | refine below_set ?_ GE255.out) | exact HB.out)) hb); clear BK255; clear HB; have BK255 := n0_; have HB := n1_; clear n0_ n1_; (try clear hb); (try clear hb2); (try clear hk); (try clear hi)))
    go_ret2
    exact ⟨by first | rfl | (simp [errW_none, errW_some] <;> rfl) | (simp [*, errW_none, errW_some] <;> rfl), by repeat (first | (with_reducible first | exact HB.out | apply below_alloc | apply pw_below_drewN | apply below_drew1 | refine below_set ?_ GE255.out) | exact HB.out)⟩
  · replace c3 := Bool.eq_false_iff.mpr c3
    subst c3
    have H1 : (some ((⟨#[]⟩ : ByteArray), 2)) = some (r1, r2) := by rw [if_neg (show ¬ (false = true) by decide)] at H; exact H
    clear H
    have H := H1
    clear H1
    simp only [Option.some.injEq, Prod.mk.injEq] at H
    obtain ⟨rfl, rfl⟩ := H
    go_enter Tryd.func11, Tryd.ntmps11
    go_wp2_with (first | ((with_reducible refine gate_dst (N := 1) rfl ?_); refine box_event ?hg (N := 1) ?hd (cs := #[.int .i64 a0_0, .slice A0_1 l0_1.length c0_1, .string a0_2]) (t := 34) ?hr ?_; (case hd => rfl); (case hg => rfl); (case hr => first | (go_simp; done) | (go_simp; rfl)); intro gb255 hg w10 hbox hb; have n0_ := Aside0.mk (below_step (by repeat (first | (with_reducible first | exact HB.out | apply below_alloc | apply pw_below_drewN | apply below_drew1) | exact HB.out)) hb); have n1_ := Aside0.mk (hbox); have n2_ := Aside0.mk ((by rw [hg]; exact (below_size (by repeat (first | (with_reducible first | exact HB.out | apply below_alloc | apply pw_below_drewN | apply below_drew1) | exact HB.out))) : w.heap.size ≤ gb255)); have n3_ := Aside0.mk ((by rw [hg]; exact (below_size (by repeat (first | (with_reducible first | exact HB.out | apply below_alloc | apply pw_below_drewN | apply below_drew1) | exact HB.out))) : w.heap.size ≤ gb255)); clear HB; have HB := n0_; have BK255 := n1_; have GW255 := n2_; have GE255 := n3_; clear n0_ n1_ n2_ n3_; clear hb hbox hg; have hcz11_0 : w10.cell? ⟨gb255, 0, none⟩ = some (.int .i64 a0_0) := (blk_cell BK255.out 0).trans rfl; have hcz11_1 : w10.cell? ⟨gb255, 1, none⟩ = some (.slice A0_1 l0_1.length c0_1) := (blk_cell BK255.out 1).trans rfl; have hcz11_2 : w10.cell? ⟨gb255, 2, none⟩ = some (.string a0_2) := (blk_cell BK255.out 2).trans rfl; have hfz11_0 := blk_frozen BK255.out 0; have hfz11_1 := blk_frozen BK255.out 1; have hfz11_2 := blk_frozen BK255.out 2) | ((with_reducible refine gate_callee (f := 28) rfl ?_); refine goesL_ (some 5) rfl rfl Tryd.func28 (by kernel_rfl) rfl #[.agg #[.int .i64 a0_0, .slice A0_1 l0_1.length c0_1, .string a0_2]] rfl (by (try simp only [List.map_toArray, List.map_cons, List.map_nil]); first | done | rfl | (simp only [List.length_drop, List.length_take]; rfl)) ?_; (with_reducible refine (cisternref07_Right.calls k a0_0 _ _ l0_1 a0_2 false _ ?side1 ?side2 A2.out).mono ?_); (case side1 => repeat (first | exact (Kd.C_below HR0_1.out HB.out) | (with_reducible refine Kd.C_alloc ?_ _) | (with_reducible refine Kd.C_drewN ?_ _) | (with_reducible refine Kd.C_drew ?_))); (case side2 => exact HC0_1.out); rintro e w12 ⟨rfl, hb⟩; refine ⟨_, rfl, ?_⟩; have n0_ := Aside0.mk (blk_below (g := gb255) (o := .cells #[.int .i64 a0_0, .slice A0_1 l0_1.length c0_1, .string a0_2] 34 (0, 0)) (by (with_reducible repeat (first | refine blk_drewN ?_ _ | refine blk_drew ?_ | refine blk_alloc ?_ _)); exact BK255.out) hb); have n1_ := Aside0.mk (below_step (by repeat (first | (with_reducible first | exact HB.out | apply below_alloc | apply pw_below_drewN | apply below_drew1 | refine below_set ?_ GE255.out) | exact HB.out)) hb); clear BK255; clear HB; have BK255 := n0_; have HB := n1_; clear n0_ n1_; (try clear hb); (try clear hb2); (try clear hk); (try clear hi)))
    go_ret2
    exact ⟨by first | rfl | (simp [errW_none, errW_some] <;> rfl) | (simp [*, errW_none, errW_some] <;> rfl), by repeat (first | (with_reducible first | exact HB.out | apply below_alloc | apply pw_below_drewN | apply below_drew1 | refine below_set ?_ GE255.out) | exact HB.out)⟩
def cisternlaw07_superRec.f (a0_0 : Int) (a0_1 : Int) (a0_2 : Int) : Option (Int × List Int × ByteArray) := some (1, (([a0_0, a0_1, a0_2] : List Int)), (⟨#[]⟩ : ByteArray))
set_option maxHeartbeats 8000000 in
set_option maxRecDepth 100000 in
theorem cisternlaw07_superRec.calls (a0_0 : Int) (a0_1 : Int) (a0_2 : Int) (r1 : Int) (r2 : List Int) (r3 : ByteArray) (w : World) (h : cisternlaw07_superRec.f a0_0 a0_1 a0_2 = some (r1, r2, r3)) :
    Calls Tryd.prog 12 #[.agg #[.int .i64 a0_0, .int .i64 a0_1, .int .i64 a0_2]] w fun e w' => ∃ v1_ : Value, e = .returned (.agg #[.int .i64 r1, v1_, .string r3]) ∧ Kd.R (Kd.int .i64) 3 w' w.heap.size (fun _ => True) v1_ r2 ∧ Below w.heap.size w w' := by
  have hu23 := Tryd.underlying23
  have hu34 := Tryd.underlying34
  have HB := Aside0.mk (Below.refl w.heap.size w)
  have H : (some (1, (([a0_0, a0_1, a0_2] : List Int)), (⟨#[]⟩ : ByteArray))) = some (r1, r2, r3) := h
  clear h
  obtain ⟨y260, hy260⟩ : ∃ y_ : List Int, y_ = (([a0_0, a0_1, a0_2] : List Int)) := ⟨_, rfl⟩
  replace H : (some (1, y260, (⟨#[]⟩ : ByteArray))) = some (r1, r2, r3) := by first | (rw [hy260]; with_reducible exact H) | (have H2_ := (Option.bind_some _ _).symm.trans H; rw [hy260]; with_reducible exact H2_) | (have H2_ := (Option.bind_some _ _).symm.trans H; with_reducible exact H2_) | with_reducible exact H | (rw [hy260]; exact H) | exact H
  have Ny260 := Aside0.mk hy260
  clear hy260
  simp only [Option.some.injEq, Prod.mk.injEq] at H
  obtain ⟨rfl, rfl, rfl⟩ := H
  go_enter Tryd.func12, Tryd.ntmps12
  go_wp2_with (first | ((with_reducible refine gate_dst (N := 1) rfl ?_); refine box_event ?hg (N := 1) ?hd (cs := #[.int .i64 a0_0, .int .i64 a0_1, .int .i64 a0_2]) (t := 23) ?hr ?_; (case hd => rfl); (case hg => rfl); (case hr => first | (go_simp; done) | (go_simp; rfl)); intro gb258 hg w2 hbox hb; have n0_ := Aside0.mk (below_step (by repeat (first | (with_reducible first | exact HB.out | apply below_alloc | apply pw_below_drewN | apply below_drew1) | exact HB.out)) hb); have n1_ := Aside0.mk (hbox); have n2_ := Aside0.mk ((by rw [hg]; exact (below_size (by repeat (first | (with_reducible first | exact HB.out | apply below_alloc | apply pw_below_drewN | apply below_drew1) | exact HB.out))) : w.heap.size ≤ gb258)); have n3_ := Aside0.mk ((by rw [hg]; exact (below_size (by repeat (first | (with_reducible first | exact HB.out | apply below_alloc | apply pw_below_drewN | apply below_drew1) | exact HB.out))) : w.heap.size ≤ gb258)); clear HB; have HB := n0_; have BK258 := n1_; have GW258 := n2_; have GE258 := n3_; clear n0_ n1_ n2_ n3_; clear hb hbox hg) | ((with_reducible refine gate_dst (N := 2) rfl ?_); refine box_event ?hg (N := 2) ?hd (cs := #[.int .i64 0, .slice none 0 0, .string (⟨#[]⟩ : ByteArray)]) (t := 34) ?hr ?_; (case hd => rfl); (case hg => rfl); (case hr => first | (go_simp; done) | (go_simp; rfl)); intro gb259 hg w3 hbox hb; have n0_ := Aside0.mk (blk_below (g := gb258) (o := .cells #[.int .i64 a0_0, .int .i64 a0_1, .int .i64 a0_2] 23 (0, 0)) (by (with_reducible repeat (first | refine blk_drewN ?_ _ | refine blk_drew ?_ | refine blk_alloc ?_ _)); exact BK258.out) hb); have n1_ := Aside0.mk (below_step (by repeat (first | (with_reducible first | exact HB.out | apply below_alloc | apply pw_below_drewN | apply below_drew1 | refine below_set ?_ GE258.out) | exact HB.out)) hb); have n2_ := Aside0.mk (hbox); have n3_ := Aside0.mk ((by rw [hg]; exact (below_size (by repeat (first | (with_reducible first | exact HB.out | apply below_alloc | apply pw_below_drewN | apply below_drew1 | refine below_set ?_ GE258.out) | exact HB.out))) : w.heap.size ≤ gb259)); have n4_ := Aside0.mk ((by rw [hg]; exact (below_size (by repeat (first | (with_reducible first | exact HB.out | apply below_alloc | apply pw_below_drewN | apply below_drew1 | refine below_set ?_ GE258.out) | exact HB.out))) : w.heap.size ≤ gb259)); have n5_ := Aside0.mk ((by rw [hg]; exact Nat.ne_of_lt (blk_lt (g := gb258) (o := .cells #[.int .i64 a0_0, .int .i64 a0_1, .int .i64 a0_2] 23 (0, 0)) (by (with_reducible repeat (first | refine blk_drewN ?_ _ | refine blk_drew ?_ | refine blk_alloc ?_ _)); exact BK258.out)) : gb258 ≠ gb259)); have n6_ := Aside0.mk ((by rw [hg]; exact Nat.ne_of_gt (blk_lt (g := gb258) (o := .cells #[.int .i64 a0_0, .int .i64 a0_1, .int .i64 a0_2] 23 (0, 0)) (by (with_reducible repeat (first | refine blk_drewN ?_ _ | refine blk_drew ?_ | refine blk_alloc ?_ _)); exact BK258.out)) : gb259 ≠ gb258)); clear BK258; clear HB; have BK258 := n0_; have HB := n1_; have BK259 := n2_; have GW259 := n3_; have GE259 := n4_; have NB258_259 := n5_; have NB259_258 := n6_; clear n0_ n1_ n2_ n3_ n4_ n5_ n6_; clear hb hbox hg; have hnb4 := NB258_259.out; have hnc4 := NB259_258.out; have hcz5_0 : w3.cell? ⟨gb258, 0, none⟩ = some (.int .i64 a0_0) := (blk_cell BK258.out 0).trans rfl; have hcz5_1 : w3.cell? ⟨gb258, 1, none⟩ = some (.int .i64 a0_1) := (blk_cell BK258.out 1).trans rfl; have hcz5_2 : w3.cell? ⟨gb258, 2, none⟩ = some (.int .i64 a0_2) := (blk_cell BK258.out 2).trans rfl; have hfz5_0 := blk_frozen BK258.out 0; have hfz5_1 := blk_frozen BK258.out 1; have hfz5_2 := blk_frozen BK258.out 2) | ((with_reducible refine gate_dst (N := 9) rfl ?_); refine Kd.R_lit (Kd.int .i64) _ 3 ?hg (N := 9) ?hd (xs := ([a0_0, a0_1, a0_2] : List Int)) (inner := [.int .i64 a0_0, .int .i64 a0_1, .int .i64 a0_2]) (ok := fun _ => True) (okp := fun _ => True) ?hr ?hp (fun _ hk => hk) trivial (Below.refl _ _) (Nat.le_refl _) (by simp) ?_; (case hd => rfl); (case hg => rfl); (case hr => first | (go_simp; done) | (go_simp; rfl)); (case hp => exact (Reps.one (show Kd.M (Kd.int .i64) _ _ _ a0_0 [.int .i64 a0_0] from rfl) (Reps.one (show Kd.M (Kd.int .i64) _ _ _ a0_1 [.int .i64 a0_1] from rfl) (Reps.one (show Kd.M (Kd.int .i64) _ _ _ a0_2 [.int .i64 a0_2] from rfl) (Reps.none _ _))))); intro v261 w6 ho7 hb hg_ hnew_; clear hg_ hnew_; (first | rw [← Ny260.out] at ho7 | (simp only [Int.reduceToNat] at ho7; rw [← Ny260.out] at ho7)); have n0_ := Aside0.mk (Kd.R_lower ho7 (below_size (by repeat (first | (with_reducible first | exact HB.out | apply below_alloc | apply pw_below_drewN | apply below_drew1 | refine below_set ?_ GE258.out | refine below_set ?_ GE259.out) | exact HB.out)))); have n1_ := Aside0.mk (blk_below (g := gb258) (o := .cells #[.int .i64 a0_0, .int .i64 a0_1, .int .i64 a0_2] 23 (0, 0)) (by (with_reducible repeat (first | refine blk_drewN ?_ _ | refine blk_drew ?_ | refine blk_alloc ?_ _)); exact BK258.out) hb); have n2_ := Aside0.mk (blk_below (g := gb259) (o := .cells #[.int .i64 0, .slice none 0 0, .string (⟨#[]⟩ : ByteArray)] 34 (0, 0)) (by (with_reducible repeat (first | refine blk_drewN ?_ _ | refine blk_drew ?_ | refine blk_alloc ?_ _)); exact BK259.out) hb); have n3_ := Aside0.mk (below_step (by repeat (first | (with_reducible first | exact HB.out | apply below_alloc | apply pw_below_drewN | apply below_drew1 | refine below_set ?_ GE258.out | refine below_set ?_ GE259.out) | exact HB.out)) hb); clear BK258; clear BK259; clear HB; have HO262 := n0_; have BK258 := n1_; have BK259 := n2_; have HB := n3_; clear n0_ n1_ n2_ n3_; clear hb ho7; obtain ⟨Ao8, co8, eo8⟩ := Kd.R_slice HO262.out; subst eo8; have hcz9_0 : w6.cell? ⟨gb259, 0, none⟩ = some (.int .i64 0) := (blk_cell BK259.out 0).trans rfl; have hcz9_1 : w6.cell? ⟨gb259, 1, none⟩ = some (.slice none 0 0) := (blk_cell BK259.out 1).trans rfl; have hcz9_2 : w6.cell? ⟨gb259, 2, none⟩ = some (.string (⟨#[]⟩ : ByteArray)) := (blk_cell BK259.out 2).trans rfl; have hfz9_0 := blk_frozen BK259.out 0; have hfz9_1 := blk_frozen BK259.out 1; have hfz9_2 := blk_frozen BK259.out 2))
  refine bodyPost_ret (results_cell_row rfl _ _ gb259 34 #[.int .i64 1, .slice Ao8 y260.length co8, .string (⟨#[]⟩ : ByteArray)] (0, 0) _ rfl (by (with_reducible repeat (first | refine blk_drewN ?_ _ | refine blk_drew ?_ | refine blk_alloc ?_ _)); refine blk_put (cs := #[.int .i64 1, .slice Ao8 y260.length co8, .string (⟨#[]⟩ : ByteArray)]) ?_ 2 _ rfl; (with_reducible repeat (first | refine blk_drewN ?_ _ | refine blk_drew ?_ | refine blk_alloc ?_ _)); refine blk_put (cs := #[.int .i64 1, .slice none 0 0, .string (⟨#[]⟩ : ByteArray)]) ?_ 1 _ rfl; (with_reducible repeat (first | refine blk_drewN ?_ _ | refine blk_drew ?_ | refine blk_alloc ?_ _)); refine blk_put (cs := #[.int .i64 0, .slice none 0 0, .string (⟨#[]⟩ : ByteArray)]) ?_ 0 _ rfl; (with_reducible repeat (first | refine blk_drewN ?_ _ | refine blk_drew ?_ | refine blk_alloc ?_ _)); exact BK259.out) Tryd.underlying34 rfl (by kernel_rfl)) rfl ?_
  exact ⟨_, by first | rfl | (simp [errW_none, errW_some] <;> rfl) | (simp [*, errW_none, errW_some] <;> rfl), by (with_reducible repeat (first | apply Kd.R_alloc | apply Kd.R_drewN | apply Kd.R_drew)); exact Kd.R_mono (Kd.R_far (p := ⟨gb259, 2, none⟩) (Kd.R_far (p := ⟨gb259, 1, none⟩) (Kd.R_far (p := ⟨gb259, 0, none⟩) (Kd.R_types HO262.out BK259.out (by decide)) (fun _ hk => hk.2) (.int .i64 1)) (fun _ hk => hk.2) (.slice Ao8 y260.length co8)) (fun _ hk => hk.2) (.string (⟨#[]⟩ : ByteArray))) (fun _ hk => trivial), by repeat (first | (with_reducible first | exact HB.out | apply below_alloc | apply pw_below_drewN | apply below_drew1 | refine below_set ?_ GE258.out | refine below_set ?_ GE259.out) | exact HB.out)⟩
def cisternlaw07_logRec.f (a0_0 : Int) (a0_1 : Int) (a0_2 : Int) (a0_3 : Int) (a0_4 : Int) (a0_5 : Int) (a0_6 : Int) (a0_7 : ByteArray) : Option (Int × List Int × ByteArray) := some (2, (([a0_0, a0_1, a0_2, a0_3, a0_4, a0_5, a0_6] : List Int)), a0_7)
set_option maxHeartbeats 8000000 in
set_option maxRecDepth 100000 in
theorem cisternlaw07_logRec.calls (a0_0 : Int) (a0_1 : Int) (a0_2 : Int) (a0_3 : Int) (a0_4 : Int) (a0_5 : Int) (a0_6 : Int) (a0_7 : ByteArray) (r1 : Int) (r2 : List Int) (r3 : ByteArray) (w : World) (h : cisternlaw07_logRec.f a0_0 a0_1 a0_2 a0_3 a0_4 a0_5 a0_6 a0_7 = some (r1, r2, r3)) :
    Calls Tryd.prog 14 #[.agg #[.int .i64 a0_0, .int .i64 a0_1, .int .i64 a0_2, .int .i64 a0_3, .int .i64 a0_4, .int .i64 a0_5, .int .i64 a0_6, .string a0_7]] w fun e w' => ∃ v1_ : Value, e = .returned (.agg #[.int .i64 r1, v1_, .string r3]) ∧ Kd.R (Kd.int .i64) 3 w' w.heap.size (fun _ => True) v1_ r2 ∧ Below w.heap.size w w' := by
  have hu25 := Tryd.underlying25
  have hu34 := Tryd.underlying34
  have HB := Aside0.mk (Below.refl w.heap.size w)
  have H : (some (2, (([a0_0, a0_1, a0_2, a0_3, a0_4, a0_5, a0_6] : List Int)), a0_7)) = some (r1, r2, r3) := h
  clear h
  obtain ⟨y265, hy265⟩ : ∃ y_ : List Int, y_ = (([a0_0, a0_1, a0_2, a0_3, a0_4, a0_5, a0_6] : List Int)) := ⟨_, rfl⟩
  replace H : (some (2, y265, a0_7)) = some (r1, r2, r3) := by first | (rw [hy265]; with_reducible exact H) | (have H2_ := (Option.bind_some _ _).symm.trans H; rw [hy265]; with_reducible exact H2_) | (have H2_ := (Option.bind_some _ _).symm.trans H; with_reducible exact H2_) | with_reducible exact H | (rw [hy265]; exact H) | exact H
  have Ny265 := Aside0.mk hy265
  clear hy265
  simp only [Option.some.injEq, Prod.mk.injEq] at H
  obtain ⟨rfl, rfl, rfl⟩ := H
  go_enter Tryd.func14, Tryd.ntmps14
  go_wp2_with (first | ((with_reducible refine gate_dst (N := 1) rfl ?_); refine box_event ?hg (N := 1) ?hd (cs := #[.int .i64 a0_0, .int .i64 a0_1, .int .i64 a0_2, .int .i64 a0_3, .int .i64 a0_4, .int .i64 a0_5, .int .i64 a0_6, .string a0_7]) (t := 25) ?hr ?_; (case hd => rfl); (case hg => rfl); (case hr => first | (go_simp; done) | (go_simp; rfl)); intro gb263 hg w2 hbox hb; have n0_ := Aside0.mk (below_step (by repeat (first | (with_reducible first | exact HB.out | apply below_alloc | apply pw_below_drewN | apply below_drew1) | exact HB.out)) hb); have n1_ := Aside0.mk (hbox); have n2_ := Aside0.mk ((by rw [hg]; exact (below_size (by repeat (first | (with_reducible first | exact HB.out | apply below_alloc | apply pw_below_drewN | apply below_drew1) | exact HB.out))) : w.heap.size ≤ gb263)); have n3_ := Aside0.mk ((by rw [hg]; exact (below_size (by repeat (first | (with_reducible first | exact HB.out | apply below_alloc | apply pw_below_drewN | apply below_drew1) | exact HB.out))) : w.heap.size ≤ gb263)); clear HB; have HB := n0_; have BK263 := n1_; have GW263 := n2_; have GE263 := n3_; clear n0_ n1_ n2_ n3_; clear hb hbox hg) | ((with_reducible refine gate_dst (N := 2) rfl ?_); refine box_event ?hg (N := 2) ?hd (cs := #[.int .i64 0, .slice none 0 0, .string (⟨#[]⟩ : ByteArray)]) (t := 34) ?hr ?_; (case hd => rfl); (case hg => rfl); (case hr => first | (go_simp; done) | (go_simp; rfl)); intro gb264 hg w3 hbox hb; have n0_ := Aside0.mk (blk_below (g := gb263) (o := .cells #[.int .i64 a0_0, .int .i64 a0_1, .int .i64 a0_2, .int .i64 a0_3, .int .i64 a0_4, .int .i64 a0_5, .int .i64 a0_6, .string a0_7] 25 (0, 0)) (by (with_reducible repeat (first | refine blk_drewN ?_ _ | refine blk_drew ?_ | refine blk_alloc ?_ _)); exact BK263.out) hb); have n1_ := Aside0.mk (below_step (by repeat (first | (with_reducible first | exact HB.out | apply below_alloc | apply pw_below_drewN | apply below_drew1 | refine below_set ?_ GE263.out) | exact HB.out)) hb); have n2_ := Aside0.mk (hbox); have n3_ := Aside0.mk ((by rw [hg]; exact (below_size (by repeat (first | (with_reducible first | exact HB.out | apply below_alloc | apply pw_below_drewN | apply below_drew1 | refine below_set ?_ GE263.out) | exact HB.out))) : w.heap.size ≤ gb264)); have n4_ := Aside0.mk ((by rw [hg]; exact (below_size (by repeat (first | (with_reducible first | exact HB.out | apply below_alloc | apply pw_below_drewN | apply below_drew1 | refine below_set ?_ GE263.out) | exact HB.out))) : w.heap.size ≤ gb264)); have n5_ := Aside0.mk ((by rw [hg]; exact Nat.ne_of_lt (blk_lt (g := gb263) (o := .cells #[.int .i64 a0_0, .int .i64 a0_1, .int .i64 a0_2, .int .i64 a0_3, .int .i64 a0_4, .int .i64 a0_5, .int .i64 a0_6, .string a0_7] 25 (0, 0)) (by (with_reducible repeat (first | refine blk_drewN ?_ _ | refine blk_drew ?_ | refine blk_alloc ?_ _)); exact BK263.out)) : gb263 ≠ gb264)); have n6_ := Aside0.mk ((by rw [hg]; exact Nat.ne_of_gt (blk_lt (g := gb263) (o := .cells #[.int .i64 a0_0, .int .i64 a0_1, .int .i64 a0_2, .int .i64 a0_3, .int .i64 a0_4, .int .i64 a0_5, .int .i64 a0_6, .string a0_7] 25 (0, 0)) (by (with_reducible repeat (first | refine blk_drewN ?_ _ | refine blk_drew ?_ | refine blk_alloc ?_ _)); exact BK263.out)) : gb264 ≠ gb263)); clear BK263; clear HB; have BK263 := n0_; have HB := n1_; have BK264 := n2_; have GW264 := n3_; have GE264 := n4_; have NB263_264 := n5_; have NB264_263 := n6_; clear n0_ n1_ n2_ n3_ n4_ n5_ n6_; clear hb hbox hg; have hnb4 := NB263_264.out; have hnc4 := NB264_263.out; have hcz5_0 : w3.cell? ⟨gb263, 0, none⟩ = some (.int .i64 a0_0) := (blk_cell BK263.out 0).trans rfl; have hcz5_1 : w3.cell? ⟨gb263, 1, none⟩ = some (.int .i64 a0_1) := (blk_cell BK263.out 1).trans rfl; have hcz5_2 : w3.cell? ⟨gb263, 2, none⟩ = some (.int .i64 a0_2) := (blk_cell BK263.out 2).trans rfl; have hcz5_3 : w3.cell? ⟨gb263, 3, none⟩ = some (.int .i64 a0_3) := (blk_cell BK263.out 3).trans rfl; have hcz5_4 : w3.cell? ⟨gb263, 4, none⟩ = some (.int .i64 a0_4) := (blk_cell BK263.out 4).trans rfl; have hcz5_5 : w3.cell? ⟨gb263, 5, none⟩ = some (.int .i64 a0_5) := (blk_cell BK263.out 5).trans rfl; have hcz5_6 : w3.cell? ⟨gb263, 6, none⟩ = some (.int .i64 a0_6) := (blk_cell BK263.out 6).trans rfl; have hcz5_7 : w3.cell? ⟨gb263, 7, none⟩ = some (.string a0_7) := (blk_cell BK263.out 7).trans rfl; have hfz5_0 := blk_frozen BK263.out 0; have hfz5_1 := blk_frozen BK263.out 1; have hfz5_2 := blk_frozen BK263.out 2; have hfz5_3 := blk_frozen BK263.out 3; have hfz5_4 := blk_frozen BK263.out 4; have hfz5_5 := blk_frozen BK263.out 5; have hfz5_6 := blk_frozen BK263.out 6; have hfz5_7 := blk_frozen BK263.out 7) | ((with_reducible refine gate_dst (N := 17) rfl ?_); refine Kd.R_lit (Kd.int .i64) _ 3 ?hg (N := 17) ?hd (xs := ([a0_0, a0_1, a0_2, a0_3, a0_4, a0_5, a0_6] : List Int)) (inner := [.int .i64 a0_0, .int .i64 a0_1, .int .i64 a0_2, .int .i64 a0_3, .int .i64 a0_4, .int .i64 a0_5, .int .i64 a0_6]) (ok := fun _ => True) (okp := fun _ => True) ?hr ?hp (fun _ hk => hk) trivial (Below.refl _ _) (Nat.le_refl _) (by simp) ?_; (case hd => rfl); (case hg => rfl); (case hr => first | (go_simp; done) | (go_simp; rfl)); (case hp => exact (Reps.one (show Kd.M (Kd.int .i64) _ _ _ a0_0 [.int .i64 a0_0] from rfl) (Reps.one (show Kd.M (Kd.int .i64) _ _ _ a0_1 [.int .i64 a0_1] from rfl) (Reps.one (show Kd.M (Kd.int .i64) _ _ _ a0_2 [.int .i64 a0_2] from rfl) (Reps.one (show Kd.M (Kd.int .i64) _ _ _ a0_3 [.int .i64 a0_3] from rfl) (Reps.one (show Kd.M (Kd.int .i64) _ _ _ a0_4 [.int .i64 a0_4] from rfl) (Reps.one (show Kd.M (Kd.int .i64) _ _ _ a0_5 [.int .i64 a0_5] from rfl) (Reps.one (show Kd.M (Kd.int .i64) _ _ _ a0_6 [.int .i64 a0_6] from rfl) (Reps.none _ _))))))))); intro v266 w6 ho7 hb hg_ hnew_; clear hg_ hnew_; (first | rw [← Ny265.out] at ho7 | (simp only [Int.reduceToNat] at ho7; rw [← Ny265.out] at ho7)); have n0_ := Aside0.mk (Kd.R_lower ho7 (below_size (by repeat (first | (with_reducible first | exact HB.out | apply below_alloc | apply pw_below_drewN | apply below_drew1 | refine below_set ?_ GE263.out | refine below_set ?_ GE264.out) | exact HB.out)))); have n1_ := Aside0.mk (blk_below (g := gb263) (o := .cells #[.int .i64 a0_0, .int .i64 a0_1, .int .i64 a0_2, .int .i64 a0_3, .int .i64 a0_4, .int .i64 a0_5, .int .i64 a0_6, .string a0_7] 25 (0, 0)) (by (with_reducible repeat (first | refine blk_drewN ?_ _ | refine blk_drew ?_ | refine blk_alloc ?_ _)); exact BK263.out) hb); have n2_ := Aside0.mk (blk_below (g := gb264) (o := .cells #[.int .i64 0, .slice none 0 0, .string (⟨#[]⟩ : ByteArray)] 34 (0, 0)) (by (with_reducible repeat (first | refine blk_drewN ?_ _ | refine blk_drew ?_ | refine blk_alloc ?_ _)); exact BK264.out) hb); have n3_ := Aside0.mk (below_step (by repeat (first | (with_reducible first | exact HB.out | apply below_alloc | apply pw_below_drewN | apply below_drew1 | refine below_set ?_ GE263.out | refine below_set ?_ GE264.out) | exact HB.out)) hb); clear BK263; clear BK264; clear HB; have HO267 := n0_; have BK263 := n1_; have BK264 := n2_; have HB := n3_; clear n0_ n1_ n2_ n3_; clear hb ho7; have hcz8_0 : w6.cell? ⟨gb263, 0, none⟩ = some (.int .i64 a0_0) := (blk_cell BK263.out 0).trans rfl; have hcz8_1 : w6.cell? ⟨gb263, 1, none⟩ = some (.int .i64 a0_1) := (blk_cell BK263.out 1).trans rfl; have hcz8_2 : w6.cell? ⟨gb263, 2, none⟩ = some (.int .i64 a0_2) := (blk_cell BK263.out 2).trans rfl; have hcz8_3 : w6.cell? ⟨gb263, 3, none⟩ = some (.int .i64 a0_3) := (blk_cell BK263.out 3).trans rfl; have hcz8_4 : w6.cell? ⟨gb263, 4, none⟩ = some (.int .i64 a0_4) := (blk_cell BK263.out 4).trans rfl; have hcz8_5 : w6.cell? ⟨gb263, 5, none⟩ = some (.int .i64 a0_5) := (blk_cell BK263.out 5).trans rfl; have hcz8_6 : w6.cell? ⟨gb263, 6, none⟩ = some (.int .i64 a0_6) := (blk_cell BK263.out 6).trans rfl; have hcz8_7 : w6.cell? ⟨gb263, 7, none⟩ = some (.string a0_7) := (blk_cell BK263.out 7).trans rfl; have hfz8_0 := blk_frozen BK263.out 0; have hfz8_1 := blk_frozen BK263.out 1; have hfz8_2 := blk_frozen BK263.out 2; have hfz8_3 := blk_frozen BK263.out 3; have hfz8_4 := blk_frozen BK263.out 4; have hfz8_5 := blk_frozen BK263.out 5; have hfz8_6 := blk_frozen BK263.out 6; have hfz8_7 := blk_frozen BK263.out 7; obtain ⟨Ao9, co9, eo9⟩ := Kd.R_slice HO267.out; subst eo9; have hcz10_0 : w6.cell? ⟨gb264, 0, none⟩ = some (.int .i64 0) := (blk_cell BK264.out 0).trans rfl; have hcz10_1 : w6.cell? ⟨gb264, 1, none⟩ = some (.slice none 0 0) := (blk_cell BK264.out 1).trans rfl; have hcz10_2 : w6.cell? ⟨gb264, 2, none⟩ = some (.string (⟨#[]⟩ : ByteArray)) := (blk_cell BK264.out 2).trans rfl; have hfz10_0 := blk_frozen BK264.out 0; have hfz10_1 := blk_frozen BK264.out 1; have hfz10_2 := blk_frozen BK264.out 2))
  refine bodyPost_ret (results_cell_row rfl _ _ gb264 34 #[.int .i64 2, .slice Ao9 y265.length co9, .string a0_7] (0, 0) _ rfl (by (with_reducible repeat (first | refine blk_drewN ?_ _ | refine blk_drew ?_ | refine blk_alloc ?_ _)); refine blk_put (cs := #[.int .i64 2, .slice Ao9 y265.length co9, .string (⟨#[]⟩ : ByteArray)]) ?_ 2 _ rfl; (with_reducible repeat (first | refine blk_drewN ?_ _ | refine blk_drew ?_ | refine blk_alloc ?_ _)); refine blk_put (cs := #[.int .i64 2, .slice none 0 0, .string (⟨#[]⟩ : ByteArray)]) ?_ 1 _ rfl; (with_reducible repeat (first | refine blk_drewN ?_ _ | refine blk_drew ?_ | refine blk_alloc ?_ _)); refine blk_put (cs := #[.int .i64 0, .slice none 0 0, .string (⟨#[]⟩ : ByteArray)]) ?_ 0 _ rfl; (with_reducible repeat (first | refine blk_drewN ?_ _ | refine blk_drew ?_ | refine blk_alloc ?_ _)); exact BK264.out) Tryd.underlying34 rfl (by kernel_rfl)) rfl ?_
  exact ⟨_, by first | rfl | (simp [errW_none, errW_some] <;> rfl) | (simp [*, errW_none, errW_some] <;> rfl), by (with_reducible repeat (first | apply Kd.R_alloc | apply Kd.R_drewN | apply Kd.R_drew)); exact Kd.R_mono (Kd.R_far (p := ⟨gb264, 2, none⟩) (Kd.R_far (p := ⟨gb264, 1, none⟩) (Kd.R_far (p := ⟨gb264, 0, none⟩) (Kd.R_types HO267.out BK264.out (by decide)) (fun _ hk => hk.2) (.int .i64 2)) (fun _ hk => hk.2) (.slice Ao9 y265.length co9)) (fun _ hk => hk.2) (.string a0_7)) (fun _ hk => trivial), by repeat (first | (with_reducible first | exact HB.out | apply below_alloc | apply pw_below_drewN | apply below_drew1 | refine below_set ?_ GE263.out | refine below_set ?_ GE264.out) | exact HB.out)⟩
end
end Go.Proofs.YtmkkeccmjejfnaaDoor.PA
namespace Go.Proofs.YtmkkeccmjejfnaaDoor.PA
section

open Go.RowKit Go.Proofs.YtmkkeccmjejfnaaDoorW.PrintWords Go.Proofs.YtmkkeccmjejfnaaDoorW.PrintLast Go.Proofs.YtmkkeccmjejfnaaDoorW.PrintMore
attribute [local go_sem] pr_leq pr_geq pr_gtr max2_int min2_int max_two min_two max_three min_three max_four min_four
set_option linter.unusedVariables false
set_option linter.unusedSimpArgs false
def record_Log_right.j0 : Nat → Bool → Int → Int → Int → Int → Int → Int → Int → ByteArray → Option (Bool)
  | 0, _, _, _, _, _, _, _, _, _ => none
  | k + 1, x3, x269000, x269001, x269002, x269003, x269004, x269005, x269006, x269007 => if x3 = true then (some false) else (if x269000 = 2 then (if x269006 = 0 then (some (x269007.toList == ([] : List UInt8))) else (some false)) else (some (x269000 == 1)))
def record_Log_right.f (k : Nat) (a0_0 : Int) (a0_1 : Int) (a0_2 : Int) (a0_3 : Int) (a0_4 : Int) (a0_5 : Int) (a0_6 : Int) (a0_7 : ByteArray) : Option (Bool) := (record_natural.f k (([a0_1, a0_2, a0_3, a0_4, a0_5, a0_6] : List Int))).bind fun t272 => (if t272 = true then (record_Log_right.j0 k (decide ((a0_7.size : Int) > 160)) a0_0 a0_1 a0_2 a0_3 a0_4 a0_5 a0_6 a0_7) else (record_Log_right.j0 k true a0_0 a0_1 a0_2 a0_3 a0_4 a0_5 a0_6 a0_7))
set_option maxHeartbeats 8000000 in
set_option maxRecDepth 100000 in
theorem record_Log_right.calls (k : Nat) (a0_0 : Int) (a0_1 : Int) (a0_2 : Int) (a0_3 : Int) (a0_4 : Int) (a0_5 : Int) (a0_6 : Int) (a0_7 : ByteArray) (r : Bool) (w : World) (h : record_Log_right.f k a0_0 a0_1 a0_2 a0_3 a0_4 a0_5 a0_6 a0_7 = some r) :
    Calls Tryd.prog 33 #[.agg #[.int .i64 a0_0, .int .i64 a0_1, .int .i64 a0_2, .int .i64 a0_3, .int .i64 a0_4, .int .i64 a0_5, .int .i64 a0_6, .string a0_7]] w fun e w' => e = .returned (.bool r) ∧ Below w.heap.size w w' := by
  have hu25 := Tryd.underlying25
  have HB := Aside0.mk (Below.refl w.heap.size w)
  have H : ((record_natural.f k (([a0_1, a0_2, a0_3, a0_4, a0_5, a0_6] : List Int))).bind fun t272 => (if t272 = true then (record_Log_right.j0 k (decide ((a0_7.size : Int) > 160)) a0_0 a0_1 a0_2 a0_3 a0_4 a0_5 a0_6 a0_7) else (record_Log_right.j0 k true a0_0 a0_1 a0_2 a0_3 a0_4 a0_5 a0_6 a0_7))) = some r := h
  clear h
  have HC2 := Aside0.mk H
  clear H
  go_enter Tryd.func33, Tryd.ntmps33
  go_upto_region 1 with (first | ((with_reducible refine gate_dst (N := 1) rfl ?_); (try (refine gate_guard (by rfl) ?_; dsimp only)); refine box_event ?hg (N := 1) ?hd (cs := #[.int .i64 a0_0, .int .i64 a0_1, .int .i64 a0_2, .int .i64 a0_3, .int .i64 a0_4, .int .i64 a0_5, .int .i64 a0_6, .string a0_7]) (t := 25) ?hr ?_; (case hd => rfl); (case hg => rfl); (case hr => first | (go_simp; done) | (go_simp; rfl)); intro gb268 hg w3 hbox hb; have n0_ := Aside0.mk (below_step (by repeat (first | (with_reducible first | exact HB.out | apply below_alloc | apply pw_below_drewN | apply below_drew1) | exact HB.out)) hb); have n1_ := Aside0.mk (hbox); have n2_ := Aside0.mk ((by rw [hg]; exact (below_size (by repeat (first | (with_reducible first | exact HB.out | apply below_alloc | apply pw_below_drewN | apply below_drew1) | exact HB.out))) : w.heap.size ≤ gb268)); have n3_ := Aside0.mk ((by rw [hg]; exact (below_size (by repeat (first | (with_reducible first | exact HB.out | apply below_alloc | apply pw_below_drewN | apply below_drew1) | exact HB.out))) : w.heap.size ≤ gb268)); clear HB; have HB := n0_; have BK268 := n1_; have GW268 := n2_; have GE268 := n3_; clear n0_ n1_ n2_ n3_; clear hb hbox hg))
  (try simp only [Act.put, List.setIfInBounds_toArray, List.set_cons_zero, List.set_cons_succ])
  go_cut [3] (fun v3 wc => ∃ (kq : Nat) (x3_1 : Bool), v3 = .bool x3_1 ∧ Aside0 (record_Log_right.j0 kq x3_1 a0_0 a0_1 a0_2 a0_3 a0_4 a0_5 a0_6 a0_7 = some r) ∧ Aside0 (kq ≤ k) ∧ Aside0 (wc.heap[gb268]? = some (.cells #[.int .i64 a0_0, .int .i64 a0_1, .int .i64 a0_2, .int .i64 a0_3, .int .i64 a0_4, .int .i64 a0_5, .int .i64 a0_6, .string a0_7] 25 (0, 0))) ∧ Aside0 (Below w.heap.size w wc))
  case first =>
    have H := HC2.out
    clear HC2
    obtain ⟨y269, hy269⟩ : ∃ y_ : List Int, y_ = (([a0_1, a0_2, a0_3, a0_4, a0_5, a0_6] : List Int)) := ⟨_, rfl⟩
    replace H : ((record_natural.f k y269).bind fun t272 => (if t272 = true then (record_Log_right.j0 k (decide ((a0_7.size : Int) > 160)) a0_0 a0_1 a0_2 a0_3 a0_4 a0_5 a0_6 a0_7) else (record_Log_right.j0 k true a0_0 a0_1 a0_2 a0_3 a0_4 a0_5 a0_6 a0_7))) = some r := by first | (rw [hy269]; with_reducible exact H) | (have H2_ := (Option.bind_some _ _).symm.trans H; rw [hy269]; with_reducible exact H2_) | (have H2_ := (Option.bind_some _ _).symm.trans H; with_reducible exact H2_) | with_reducible exact H | (rw [hy269]; exact H) | exact H
    have Ny269 := Aside0.mk hy269
    clear hy269
    replace H := Option.bind_eq_some_iff.mp H
    obtain ⟨t272, A40, H⟩ := H
    replace H : (if t272 = true then (record_Log_right.j0 k (decide ((a0_7.size : Int) > 160)) a0_0 a0_1 a0_2 a0_3 a0_4 a0_5 a0_6 a0_7) else (record_Log_right.j0 k true a0_0 a0_1 a0_2 a0_3 a0_4 a0_5 a0_6 a0_7)) = some r := H
    have A4 := Aside0.mk A40
    clear A40
    by_cases c5 : t272 = true
    · subst c5
      have H1 : (record_Log_right.j0 k (decide ((a0_7.size : Int) > 160)) a0_0 a0_1 a0_2 a0_3 a0_4 a0_5 a0_6 a0_7) = some r := by rw [if_pos rfl] at H; exact H
      clear H
      have H := H1
      clear H1
      have H' := Aside0.mk H
      clear H
      have hcz6_0 : w3.cell? ⟨gb268, 0, none⟩ = some (.int .i64 a0_0) := (blk_cell BK268.out 0).trans rfl
      have hcz6_1 : w3.cell? ⟨gb268, 1, none⟩ = some (.int .i64 a0_1) := (blk_cell BK268.out 1).trans rfl
      have hcz6_2 : w3.cell? ⟨gb268, 2, none⟩ = some (.int .i64 a0_2) := (blk_cell BK268.out 2).trans rfl
      have hcz6_3 : w3.cell? ⟨gb268, 3, none⟩ = some (.int .i64 a0_3) := (blk_cell BK268.out 3).trans rfl
      have hcz6_4 : w3.cell? ⟨gb268, 4, none⟩ = some (.int .i64 a0_4) := (blk_cell BK268.out 4).trans rfl
      have hcz6_5 : w3.cell? ⟨gb268, 5, none⟩ = some (.int .i64 a0_5) := (blk_cell BK268.out 5).trans rfl
      have hcz6_6 : w3.cell? ⟨gb268, 6, none⟩ = some (.int .i64 a0_6) := (blk_cell BK268.out 6).trans rfl
      have hcz6_7 : w3.cell? ⟨gb268, 7, none⟩ = some (.string a0_7) := (blk_cell BK268.out 7).trans rfl
      have hfz6_0 := blk_frozen BK268.out 0
      have hfz6_1 := blk_frozen BK268.out 1
      have hfz6_2 := blk_frozen BK268.out 2
      have hfz6_3 := blk_frozen BK268.out 3
      have hfz6_4 := blk_frozen BK268.out 4
      have hfz6_5 := blk_frozen BK268.out 5
      have hfz6_6 := blk_frozen BK268.out 6
      have hfz6_7 := blk_frozen BK268.out 7
      go_wp2_with (first | ((with_reducible refine gate_dst (N := 16) rfl ?_); (try (refine gate_guard (by rfl) ?_; dsimp only)); refine Kd.R_lit (Kd.int .i64) _ 3 ?hg (N := 16) ?hd (xs := ([a0_1, a0_2, a0_3, a0_4, a0_5, a0_6] : List Int)) (inner := [.int .i64 a0_1, .int .i64 a0_2, .int .i64 a0_3, .int .i64 a0_4, .int .i64 a0_5, .int .i64 a0_6]) (ok := fun _ => True) (okp := fun _ => True) ?hr ?hp (fun _ hk => hk) trivial (Below.refl _ _) (Nat.le_refl _) (by simp) ?_; (case hd => rfl); (case hg => rfl); (case hr => first | (go_simp; done) | (go_simp; rfl)); (case hp => exact (Reps.one (show Kd.M (Kd.int .i64) _ _ _ a0_1 [.int .i64 a0_1] from rfl) (Reps.one (show Kd.M (Kd.int .i64) _ _ _ a0_2 [.int .i64 a0_2] from rfl) (Reps.one (show Kd.M (Kd.int .i64) _ _ _ a0_3 [.int .i64 a0_3] from rfl) (Reps.one (show Kd.M (Kd.int .i64) _ _ _ a0_4 [.int .i64 a0_4] from rfl) (Reps.one (show Kd.M (Kd.int .i64) _ _ _ a0_5 [.int .i64 a0_5] from rfl) (Reps.one (show Kd.M (Kd.int .i64) _ _ _ a0_6 [.int .i64 a0_6] from rfl) (Reps.none _ _)))))))); intro v270 w7 ho8 hb hg_ hnew_; clear hg_ hnew_; (first | rw [← Ny269.out] at ho8 | (simp only [Int.reduceToNat] at ho8; rw [← Ny269.out] at ho8)); have n0_ := Aside0.mk (Kd.R_lower ho8 (below_size (by repeat (first | (with_reducible first | exact HB.out | apply below_alloc | apply pw_below_drewN | apply below_drew1 | refine below_set ?_ GE268.out) | exact HB.out)))); have n1_ := Aside0.mk (blk_below (g := gb268) (o := .cells #[.int .i64 a0_0, .int .i64 a0_1, .int .i64 a0_2, .int .i64 a0_3, .int .i64 a0_4, .int .i64 a0_5, .int .i64 a0_6, .string a0_7] 25 (0, 0)) (by (with_reducible repeat (first | refine blk_drewN ?_ _ | refine blk_drew ?_ | refine blk_alloc ?_ _)); exact BK268.out) hb); have n2_ := Aside0.mk (below_step (by repeat (first | (with_reducible first | exact HB.out | apply below_alloc | apply pw_below_drewN | apply below_drew1 | refine below_set ?_ GE268.out) | exact HB.out)) hb); clear BK268; clear HB; have HO271 := n0_; have BK268 := n1_; have HB := n2_; clear n0_ n1_ n2_; clear hb ho8; obtain ⟨Ao9, co9, eo9⟩ := Kd.R_slice HO271.out; subst eo9) | ((with_reducible refine gate_callee (f := 52) rfl ?_); refine goesL_ (some 17) rfl rfl Tryd.func52 (by kernel_rfl) rfl #[.slice Ao9 y269.length co9] rfl (by (try simp only [List.map_toArray, List.map_cons, List.map_nil]); first | done | rfl | (simp only [List.length_drop, List.length_take]; rfl)) ?_; (with_reducible refine (record_natural.calls k _ _ y269 true _ ?side1 ?side2 A4.out).mono ?_); (case side1 => repeat (first | exact (Kd.R_reads' HO271.out).2.2 | (with_reducible refine Kd.C_alloc ?_ _) | (with_reducible refine Kd.C_drewN ?_ _) | (with_reducible refine Kd.C_drew ?_))); (case side2 => exact (Kd.R_reads' HO271.out).2.1); rintro e w' ⟨rfl, ⟨nd, rfl⟩⟩; refine ⟨_, rfl, ?_⟩; have hcz10_0 : w7.cell? ⟨gb268, 0, none⟩ = some (.int .i64 a0_0) := (blk_cell BK268.out 0).trans rfl; have hcz10_1 : w7.cell? ⟨gb268, 1, none⟩ = some (.int .i64 a0_1) := (blk_cell BK268.out 1).trans rfl; have hcz10_2 : w7.cell? ⟨gb268, 2, none⟩ = some (.int .i64 a0_2) := (blk_cell BK268.out 2).trans rfl; have hcz10_3 : w7.cell? ⟨gb268, 3, none⟩ = some (.int .i64 a0_3) := (blk_cell BK268.out 3).trans rfl; have hcz10_4 : w7.cell? ⟨gb268, 4, none⟩ = some (.int .i64 a0_4) := (blk_cell BK268.out 4).trans rfl; have hcz10_5 : w7.cell? ⟨gb268, 5, none⟩ = some (.int .i64 a0_5) := (blk_cell BK268.out 5).trans rfl; have hcz10_6 : w7.cell? ⟨gb268, 6, none⟩ = some (.int .i64 a0_6) := (blk_cell BK268.out 6).trans rfl; have hcz10_7 : w7.cell? ⟨gb268, 7, none⟩ = some (.string a0_7) := (blk_cell BK268.out 7).trans rfl; have hfz10_0 := blk_frozen BK268.out 0; have hfz10_1 := blk_frozen BK268.out 1; have hfz10_2 := blk_frozen BK268.out 2; have hfz10_3 := blk_frozen BK268.out 3; have hfz10_4 := blk_frozen BK268.out 4; have hfz10_5 := blk_frozen BK268.out 5; have hfz10_6 := blk_frozen BK268.out 6; have hfz10_7 := blk_frozen BK268.out 7))
      go_meet
      case rel => exact ⟨_, (decide ((a0_7.size : Int) > 160)), (by first | rfl | (simp; done) | (simp [*]; done)), H', ⟨by first | omega | exact Nat.le_refl _⟩, ⟨by (with_reducible repeat (first | refine blk_drewN ?_ _ | refine blk_drew ?_ | refine blk_alloc ?_ _)); exact BK268.out⟩, ⟨by repeat (first | (with_reducible first | exact HB.out | apply below_alloc | apply pw_below_drewN | apply below_drew1 | refine below_set ?_ GE268.out) | exact HB.out)⟩⟩
    · replace c5 := Bool.eq_false_iff.mpr c5
      subst c5
      have H1 : (record_Log_right.j0 k true a0_0 a0_1 a0_2 a0_3 a0_4 a0_5 a0_6 a0_7) = some r := by rw [if_neg (show ¬ (false = true) by decide)] at H; exact H
      clear H
      have H := H1
      clear H1
      have H' := Aside0.mk H
      clear H
      have hcz11_0 : w3.cell? ⟨gb268, 0, none⟩ = some (.int .i64 a0_0) := (blk_cell BK268.out 0).trans rfl
      have hcz11_1 : w3.cell? ⟨gb268, 1, none⟩ = some (.int .i64 a0_1) := (blk_cell BK268.out 1).trans rfl
      have hcz11_2 : w3.cell? ⟨gb268, 2, none⟩ = some (.int .i64 a0_2) := (blk_cell BK268.out 2).trans rfl
      have hcz11_3 : w3.cell? ⟨gb268, 3, none⟩ = some (.int .i64 a0_3) := (blk_cell BK268.out 3).trans rfl
      have hcz11_4 : w3.cell? ⟨gb268, 4, none⟩ = some (.int .i64 a0_4) := (blk_cell BK268.out 4).trans rfl
      have hcz11_5 : w3.cell? ⟨gb268, 5, none⟩ = some (.int .i64 a0_5) := (blk_cell BK268.out 5).trans rfl
      have hcz11_6 : w3.cell? ⟨gb268, 6, none⟩ = some (.int .i64 a0_6) := (blk_cell BK268.out 6).trans rfl
      have hcz11_7 : w3.cell? ⟨gb268, 7, none⟩ = some (.string a0_7) := (blk_cell BK268.out 7).trans rfl
      have hfz11_0 := blk_frozen BK268.out 0
      have hfz11_1 := blk_frozen BK268.out 1
      have hfz11_2 := blk_frozen BK268.out 2
      have hfz11_3 := blk_frozen BK268.out 3
      have hfz11_4 := blk_frozen BK268.out 4
      have hfz11_5 := blk_frozen BK268.out 5
      have hfz11_6 := blk_frozen BK268.out 6
      have hfz11_7 := blk_frozen BK268.out 7
      go_wp2_with (first | ((with_reducible refine gate_dst (N := 16) rfl ?_); (try (refine gate_guard (by rfl) ?_; dsimp only)); refine Kd.R_lit (Kd.int .i64) _ 3 ?hg (N := 16) ?hd (xs := ([a0_1, a0_2, a0_3, a0_4, a0_5, a0_6] : List Int)) (inner := [.int .i64 a0_1, .int .i64 a0_2, .int .i64 a0_3, .int .i64 a0_4, .int .i64 a0_5, .int .i64 a0_6]) (ok := fun _ => True) (okp := fun _ => True) ?hr ?hp (fun _ hk => hk) trivial (Below.refl _ _) (Nat.le_refl _) (by simp) ?_; (case hd => rfl); (case hg => rfl); (case hr => first | (go_simp; done) | (go_simp; rfl)); (case hp => exact (Reps.one (show Kd.M (Kd.int .i64) _ _ _ a0_1 [.int .i64 a0_1] from rfl) (Reps.one (show Kd.M (Kd.int .i64) _ _ _ a0_2 [.int .i64 a0_2] from rfl) (Reps.one (show Kd.M (Kd.int .i64) _ _ _ a0_3 [.int .i64 a0_3] from rfl) (Reps.one (show Kd.M (Kd.int .i64) _ _ _ a0_4 [.int .i64 a0_4] from rfl) (Reps.one (show Kd.M (Kd.int .i64) _ _ _ a0_5 [.int .i64 a0_5] from rfl) (Reps.one (show Kd.M (Kd.int .i64) _ _ _ a0_6 [.int .i64 a0_6] from rfl) (Reps.none _ _)))))))); intro v270 w12 ho13 hb hg_ hnew_; clear hg_ hnew_; (first | rw [← Ny269.out] at ho13 | (simp only [Int.reduceToNat] at ho13; rw [← Ny269.out] at ho13)); have n0_ := Aside0.mk (Kd.R_lower ho13 (below_size (by repeat (first | (with_reducible first | exact HB.out | apply below_alloc | apply pw_below_drewN | apply below_drew1 | refine below_set ?_ GE268.out) | exact HB.out)))); have n1_ := Aside0.mk (blk_below (g := gb268) (o := .cells #[.int .i64 a0_0, .int .i64 a0_1, .int .i64 a0_2, .int .i64 a0_3, .int .i64 a0_4, .int .i64 a0_5, .int .i64 a0_6, .string a0_7] 25 (0, 0)) (by (with_reducible repeat (first | refine blk_drewN ?_ _ | refine blk_drew ?_ | refine blk_alloc ?_ _)); exact BK268.out) hb); have n2_ := Aside0.mk (below_step (by repeat (first | (with_reducible first | exact HB.out | apply below_alloc | apply pw_below_drewN | apply below_drew1 | refine below_set ?_ GE268.out) | exact HB.out)) hb); clear BK268; clear HB; have HO271 := n0_; have BK268 := n1_; have HB := n2_; clear n0_ n1_ n2_; clear hb ho13; obtain ⟨Ao14, co14, eo14⟩ := Kd.R_slice HO271.out; subst eo14) | ((with_reducible refine gate_callee (f := 52) rfl ?_); refine goesL_ (some 17) rfl rfl Tryd.func52 (by kernel_rfl) rfl #[.slice Ao14 y269.length co14] rfl (by (try simp only [List.map_toArray, List.map_cons, List.map_nil]); first | done | rfl | (simp only [List.length_drop, List.length_take]; rfl)) ?_; (with_reducible refine (record_natural.calls k _ _ y269 false _ ?side1 ?side2 A4.out).mono ?_); (case side1 => repeat (first | exact (Kd.R_reads' HO271.out).2.2 | (with_reducible refine Kd.C_alloc ?_ _) | (with_reducible refine Kd.C_drewN ?_ _) | (with_reducible refine Kd.C_drew ?_))); (case side2 => exact (Kd.R_reads' HO271.out).2.1); rintro e w' ⟨rfl, ⟨nd, rfl⟩⟩; refine ⟨_, rfl, ?_⟩))
      go_meet
      case rel => exact ⟨_, (true), (by first | rfl | (simp; done) | (simp [*]; done)), H', ⟨by first | omega | exact Nat.le_refl _⟩, ⟨by (with_reducible repeat (first | refine blk_drewN ?_ _ | refine blk_drew ?_ | refine blk_alloc ?_ _)); exact BK268.out⟩, ⟨by repeat (first | (with_reducible first | exact HB.out | apply below_alloc | apply pw_below_drewN | apply below_drew1 | refine below_set ?_ GE268.out) | exact HB.out)⟩⟩
  case rest =>
    clear HC2
    try clear p2
    try clear c3
    try clear c5
    try clear hcz10_0
    try clear hcz10_1
    try clear hcz10_2
    try clear hcz10_3
    try clear hcz10_4
    try clear hcz10_5
    try clear hcz10_6
    try clear hcz10_7
    try clear hcz11_0
    try clear hcz11_1
    try clear hcz11_2
    try clear hcz11_3
    try clear hcz11_4
    try clear hcz11_5
    try clear hcz11_6
    try clear hcz11_7
    try clear hcz6_0
    try clear hcz6_1
    try clear hcz6_2
    try clear hcz6_3
    try clear hcz6_4
    try clear hcz6_5
    try clear hcz6_6
    try clear hcz6_7
    try clear hfz10_0
    try clear hfz10_1
    try clear hfz10_2
    try clear hfz10_3
    try clear hfz10_4
    try clear hfz10_5
    try clear hfz10_6
    try clear hfz10_7
    try clear hfz11_0
    try clear hfz11_1
    try clear hfz11_2
    try clear hfz11_3
    try clear hfz11_4
    try clear hfz11_5
    try clear hfz11_6
    try clear hfz11_7
    try clear hfz6_0
    try clear hfz6_1
    try clear hfz6_2
    try clear hfz6_3
    try clear hfz6_4
    try clear hfz6_5
    try clear hfz6_6
    try clear hfz6_7
    obtain ⟨kq, x3_1, rfl, HA, HJ1, BK268, HB⟩ := hcut
    cases kq with
    | zero => exact absurd HA.out (by simp [record_Log_right.j0])
    | succ kj1 =>
      have H := HA.out
      clear HA
      simp only [record_Log_right.j0] at H
      by_cases c15 : x3_1 = true
      · subst c15
        have H1 : (some false) = some r := by rw [if_pos rfl] at H; exact H
        clear H
        have H := H1
        clear H1
        obtain rfl := Option.some.inj H
        go_wp2
        go_ret
        exact ⟨by first | rfl | (simp [errW_none, errW_some] <;> rfl) | (simp [*, errW_none, errW_some] <;> rfl), by repeat (first | (with_reducible first | exact HB.out | apply below_alloc | apply pw_below_drewN | apply below_drew1 | refine below_set ?_ GE268.out) | exact HB.out)⟩
      · replace c15 := Bool.eq_false_iff.mpr c15
        subst c15
        have H1 : (if a0_0 = 2 then (if a0_6 = 0 then (some (a0_7.toList == ([] : List UInt8))) else (some false)) else (some (a0_0 == 1))) = some r := by rw [if_neg (show ¬ (false = true) by decide)] at H; exact H
        clear H
        have H := H1
        clear H1
        by_cases c16 : a0_0 = 2
        · rw [if_pos c16] at H
          have c16b0 : (a0_0 == 2) = true := beq_iff_eq.mpr c16
          have c16b1 : (a0_0 != 2) = false := bne_eq_false_iff_eq.mpr c16
          clear c16
          by_cases c17 : a0_6 = 0
          · rw [if_pos c17] at H
            have c17b0 : (a0_6 == 0) = true := beq_iff_eq.mpr c17
            have c17b1 : (a0_6 != 0) = false := bne_eq_false_iff_eq.mpr c17
            clear c17
            obtain rfl := Option.some.inj H
            have hcz18_0 : wc.cell? ⟨gb268, 0, none⟩ = some (.int .i64 a0_0) := (blk_cell BK268.out 0).trans rfl
            have hcz18_1 : wc.cell? ⟨gb268, 1, none⟩ = some (.int .i64 a0_1) := (blk_cell BK268.out 1).trans rfl
            have hcz18_2 : wc.cell? ⟨gb268, 2, none⟩ = some (.int .i64 a0_2) := (blk_cell BK268.out 2).trans rfl
            have hcz18_3 : wc.cell? ⟨gb268, 3, none⟩ = some (.int .i64 a0_3) := (blk_cell BK268.out 3).trans rfl
            have hcz18_4 : wc.cell? ⟨gb268, 4, none⟩ = some (.int .i64 a0_4) := (blk_cell BK268.out 4).trans rfl
            have hcz18_5 : wc.cell? ⟨gb268, 5, none⟩ = some (.int .i64 a0_5) := (blk_cell BK268.out 5).trans rfl
            have hcz18_6 : wc.cell? ⟨gb268, 6, none⟩ = some (.int .i64 a0_6) := (blk_cell BK268.out 6).trans rfl
            have hcz18_7 : wc.cell? ⟨gb268, 7, none⟩ = some (.string a0_7) := (blk_cell BK268.out 7).trans rfl
            have hfz18_0 := blk_frozen BK268.out 0
            have hfz18_1 := blk_frozen BK268.out 1
            have hfz18_2 := blk_frozen BK268.out 2
            have hfz18_3 := blk_frozen BK268.out 3
            have hfz18_4 := blk_frozen BK268.out 4
            have hfz18_5 := blk_frozen BK268.out 5
            have hfz18_6 := blk_frozen BK268.out 6
            have hfz18_7 := blk_frozen BK268.out 7
            go_wp2
            go_ret
            exact ⟨by first | rfl | (simp [errW_none, errW_some] <;> rfl) | (simp [*, errW_none, errW_some] <;> rfl), by repeat (first | (with_reducible first | exact HB.out | apply below_alloc | apply pw_below_drewN | apply below_drew1 | refine below_set ?_ GE268.out) | exact HB.out)⟩
          · rw [if_neg c17] at H
            have c17b0 : (a0_6 == 0) = false := beq_eq_false_iff_ne.mpr c17
            have c17b1 : (a0_6 != 0) = true := bne_iff_ne.mpr c17
            obtain rfl := Option.some.inj H
            have hcz19_0 : wc.cell? ⟨gb268, 0, none⟩ = some (.int .i64 a0_0) := (blk_cell BK268.out 0).trans rfl
            have hcz19_1 : wc.cell? ⟨gb268, 1, none⟩ = some (.int .i64 a0_1) := (blk_cell BK268.out 1).trans rfl
            have hcz19_2 : wc.cell? ⟨gb268, 2, none⟩ = some (.int .i64 a0_2) := (blk_cell BK268.out 2).trans rfl
            have hcz19_3 : wc.cell? ⟨gb268, 3, none⟩ = some (.int .i64 a0_3) := (blk_cell BK268.out 3).trans rfl
            have hcz19_4 : wc.cell? ⟨gb268, 4, none⟩ = some (.int .i64 a0_4) := (blk_cell BK268.out 4).trans rfl
            have hcz19_5 : wc.cell? ⟨gb268, 5, none⟩ = some (.int .i64 a0_5) := (blk_cell BK268.out 5).trans rfl
            have hcz19_6 : wc.cell? ⟨gb268, 6, none⟩ = some (.int .i64 a0_6) := (blk_cell BK268.out 6).trans rfl
            have hcz19_7 : wc.cell? ⟨gb268, 7, none⟩ = some (.string a0_7) := (blk_cell BK268.out 7).trans rfl
            have hfz19_0 := blk_frozen BK268.out 0
            have hfz19_1 := blk_frozen BK268.out 1
            have hfz19_2 := blk_frozen BK268.out 2
            have hfz19_3 := blk_frozen BK268.out 3
            have hfz19_4 := blk_frozen BK268.out 4
            have hfz19_5 := blk_frozen BK268.out 5
            have hfz19_6 := blk_frozen BK268.out 6
            have hfz19_7 := blk_frozen BK268.out 7
            go_wp2
            go_ret
            exact ⟨by first | rfl | (simp [errW_none, errW_some] <;> rfl) | (simp [*, errW_none, errW_some] <;> rfl), by repeat (first | (with_reducible first | exact HB.out | apply below_alloc | apply pw_below_drewN | apply below_drew1 | refine below_set ?_ GE268.out) | exact HB.out)⟩
        · rw [if_neg c16] at H
          have c16b0 : (a0_0 == 2) = false := beq_eq_false_iff_ne.mpr c16
          have c16b1 : (a0_0 != 2) = true := bne_iff_ne.mpr c16
          obtain rfl := Option.some.inj H
          have hcz20_0 : wc.cell? ⟨gb268, 0, none⟩ = some (.int .i64 a0_0) := (blk_cell BK268.out 0).trans rfl
          have hcz20_1 : wc.cell? ⟨gb268, 1, none⟩ = some (.int .i64 a0_1) := (blk_cell BK268.out 1).trans rfl
          have hcz20_2 : wc.cell? ⟨gb268, 2, none⟩ = some (.int .i64 a0_2) := (blk_cell BK268.out 2).trans rfl
          have hcz20_3 : wc.cell? ⟨gb268, 3, none⟩ = some (.int .i64 a0_3) := (blk_cell BK268.out 3).trans rfl
          have hcz20_4 : wc.cell? ⟨gb268, 4, none⟩ = some (.int .i64 a0_4) := (blk_cell BK268.out 4).trans rfl
          have hcz20_5 : wc.cell? ⟨gb268, 5, none⟩ = some (.int .i64 a0_5) := (blk_cell BK268.out 5).trans rfl
          have hcz20_6 : wc.cell? ⟨gb268, 6, none⟩ = some (.int .i64 a0_6) := (blk_cell BK268.out 6).trans rfl
          have hcz20_7 : wc.cell? ⟨gb268, 7, none⟩ = some (.string a0_7) := (blk_cell BK268.out 7).trans rfl
          have hfz20_0 := blk_frozen BK268.out 0
          have hfz20_1 := blk_frozen BK268.out 1
          have hfz20_2 := blk_frozen BK268.out 2
          have hfz20_3 := blk_frozen BK268.out 3
          have hfz20_4 := blk_frozen BK268.out 4
          have hfz20_5 := blk_frozen BK268.out 5
          have hfz20_6 := blk_frozen BK268.out 6
          have hfz20_7 := blk_frozen BK268.out 7
          go_wp2
          go_ret
          exact ⟨by first | rfl | (simp [errW_none, errW_some] <;> rfl) | (simp [*, errW_none, errW_some] <;> rfl), by repeat (first | (with_reducible first | exact HB.out | apply below_alloc | apply pw_below_drewN | apply below_drew1 | refine below_set ?_ GE268.out) | exact HB.out)⟩
end
end Go.Proofs.YtmkkeccmjejfnaaDoor.PA
namespace Go.Proofs.YtmkkeccmjejfnaaDoor.PA
section

open Go.RowKit Go.Proofs.YtmkkeccmjejfnaaDoorW.PrintWords Go.Proofs.YtmkkeccmjejfnaaDoorW.PrintLast Go.Proofs.YtmkkeccmjejfnaaDoorW.PrintMore
attribute [local go_sem] pr_leq pr_geq pr_gtr max2_int min2_int max_two min_two max_three min_three max_four min_four
set_option linter.unusedVariables false
set_option linter.unusedSimpArgs false
def record_text.f (a0 : ByteArray) : Option (Int × Int × ByteArray) := some (2, 0, a0)
set_option maxHeartbeats 8000000 in
set_option maxRecDepth 100000 in
theorem record_text.calls (a0 : ByteArray) (r1 : Int) (r2 : Int) (r3 : ByteArray) (w : World) (h : record_text.f a0 = some (r1, r2, r3)) :
    Calls Tryd.prog 34 #[.string a0] w fun e w' => e = .returned (.agg #[.int .i64 r1, .int .i64 r2, .string r3]) ∧ Below w.heap.size w w' := by
  have hu77 := Tryd.underlying77
  have HB := Aside0.mk (Below.refl w.heap.size w)
  have H : (some (2, 0, a0)) = some (r1, r2, r3) := h
  clear h
  simp only [Option.some.injEq, Prod.mk.injEq] at H
  obtain ⟨rfl, rfl, rfl⟩ := H
  go_enter Tryd.func34, Tryd.ntmps34
  go_wp2_with (first | ((with_reducible refine gate_dst (N := 2) rfl ?_); refine box_event ?hg (N := 2) ?hd (cs := #[.int .i64 0, .int .i64 0, .string (⟨#[]⟩ : ByteArray)]) (t := 77) ?hr ?_; (case hd => rfl); (case hg => rfl); (case hr => first | (go_simp; done) | (go_simp; rfl)); intro gb273 hg w2 hbox hb; have n0_ := Aside0.mk (below_step (by repeat (first | (with_reducible first | exact HB.out | apply below_alloc | apply pw_below_drewN | apply below_drew1) | exact HB.out)) hb); have n1_ := Aside0.mk (hbox); have n2_ := Aside0.mk ((by rw [hg]; exact (below_size (by repeat (first | (with_reducible first | exact HB.out | apply below_alloc | apply pw_below_drewN | apply below_drew1) | exact HB.out))) : w.heap.size ≤ gb273)); have n3_ := Aside0.mk ((by rw [hg]; exact (below_size (by repeat (first | (with_reducible first | exact HB.out | apply below_alloc | apply pw_below_drewN | apply below_drew1) | exact HB.out))) : w.heap.size ≤ gb273)); clear HB; have HB := n0_; have BK273 := n1_; have GW273 := n2_; have GE273 := n3_; clear n0_ n1_ n2_ n3_; clear hb hbox hg; have hcz3_0 : w2.cell? ⟨gb273, 0, none⟩ = some (.int .i64 0) := (blk_cell BK273.out 0).trans rfl; have hcz3_1 : w2.cell? ⟨gb273, 1, none⟩ = some (.int .i64 0) := (blk_cell BK273.out 1).trans rfl; have hcz3_2 : w2.cell? ⟨gb273, 2, none⟩ = some (.string (⟨#[]⟩ : ByteArray)) := (blk_cell BK273.out 2).trans rfl; have hfz3_0 := blk_frozen BK273.out 0; have hfz3_1 := blk_frozen BK273.out 1; have hfz3_2 := blk_frozen BK273.out 2))
  refine bodyPost_ret (results_cell_row rfl _ _ gb273 77 #[.int .i64 2, .int .i64 0, .string a0] (0, 0) _ rfl (by (with_reducible repeat (first | refine blk_drewN ?_ _ | refine blk_drew ?_ | refine blk_alloc ?_ _)); refine blk_put (cs := #[.int .i64 2, .int .i64 0, .string (⟨#[]⟩ : ByteArray)]) ?_ 2 _ rfl; (with_reducible repeat (first | refine blk_drewN ?_ _ | refine blk_drew ?_ | refine blk_alloc ?_ _)); refine blk_put (cs := #[.int .i64 2, .int .i64 0, .string (⟨#[]⟩ : ByteArray)]) ?_ 1 _ rfl; (with_reducible repeat (first | refine blk_drewN ?_ _ | refine blk_drew ?_ | refine blk_alloc ?_ _)); refine blk_put (cs := #[.int .i64 0, .int .i64 0, .string (⟨#[]⟩ : ByteArray)]) ?_ 0 _ rfl; (with_reducible repeat (first | refine blk_drewN ?_ _ | refine blk_drew ?_ | refine blk_alloc ?_ _)); exact BK273.out) Tryd.underlying77 rfl (by kernel_rfl)) rfl ?_
  exact ⟨by first | rfl | (simp [errW_none, errW_some] <;> rfl) | (simp [*, errW_none, errW_some] <;> rfl), by repeat (first | (with_reducible first | exact HB.out | apply below_alloc | apply pw_below_drewN | apply below_drew1 | refine below_set ?_ GE273.out) | exact HB.out)⟩
end
end Go.Proofs.YtmkkeccmjejfnaaDoor.PA
namespace Go.Proofs.YtmkkeccmjejfnaaDoor.PA
section

open Go.RowKit Go.Proofs.YtmkkeccmjejfnaaDoorW.PrintWords Go.Proofs.YtmkkeccmjejfnaaDoorW.PrintLast Go.Proofs.YtmkkeccmjejfnaaDoorW.PrintMore
attribute [local go_sem] pr_leq pr_geq pr_gtr max2_int min2_int max_two min_two max_three min_three max_four min_four
set_option linter.unusedVariables false
set_option linter.unusedSimpArgs false
def record_EncodeLog.f (k : Nat) (a0_0 : Int) (a0_1 : Int) (a0_2 : Int) (a0_3 : Int) (a0_4 : Int) (a0_5 : Int) (a0_6 : Int) (a0_7 : ByteArray) : Option (List Int × Int) := (record_Log_right.f k a0_0 a0_1 a0_2 a0_3 a0_4 a0_5 a0_6 a0_7).bind fun t275 => (if t275 = true then ((record_numbers.f k (([2, a0_0, a0_1, a0_2, a0_3, a0_4, a0_5, a0_6] : List Int))).bind fun t279 => ((record_text.f a0_7).bind fun bt282 => (if t279.length < 4398046511104 then ((record_sector.f k (t279 ++ [(⟨bt282.1, bt282.2.1, bt282.2.2⟩ : S77)])).bind fun bt288 => (some (bt288.1, bt288.2))) else (none)))) else (some (([] : List Int), 2)))
def record_EncodeLog.T3 : Bool × List (List Nat × List Nat) := (true, [([], []), ([0], [0]), ([], []), ([2], [2]), ([], []), ([4], [4]), ([], []), ([6], [6]), ([], []), ([8], [8]), ([], []), ([10], [10]), ([], []), ([12], [12]), ([1, 3, 5, 7, 9, 11, 13], [1, 3, 5, 7, 9, 11, 13]), ([14], [14]), ([], []), ([16], [16]), ([17, 15], [17]), ([18], [18]), ([15, 19, 18], [15, 19]), ([20, 20], [20]), ([21], [21]), ([21], [21]), ([22, 21, 0, 1, 2, 3, 4, 5, 6, 7, 8, 9, 10, 11, 12, 13, 14, 15, 16, 17, 18, 19, 20, 21, 22, 23], [22]), ([23, 24, 0, 1, 2, 3, 4, 5, 6, 7, 8, 9, 10, 11, 12, 13, 14, 15, 16, 17, 18, 19, 20, 21, 22, 23, 24], [23])])
def record_EncodeLog.B3 : List Nat := [0, 1, 0, 4, 0, 16, 0, 64, 0, 256, 0, 1024, 0, 4096, 16383, 32767, 0, 65536, 262143, 524287, 1048575, 2097151, 4194303, 4194303, 16777215, 33554431]
theorem record_EncodeLog.tab3 : rtab .any (opsOf Tryd.f15 3) = record_EncodeLog.T3 := by kernel_rfl
theorem record_EncodeLog.bits3 : waitsOk record_EncodeLog.T3.2 record_EncodeLog.B3 = true := by kernel_rfl
set_option maxHeartbeats 8000000 in
set_option maxRecDepth 100000 in
theorem record_EncodeLog.calls (k : Nat) (a0_0 : Int) (a0_1 : Int) (a0_2 : Int) (a0_3 : Int) (a0_4 : Int) (a0_5 : Int) (a0_6 : Int) (a0_7 : ByteArray) (r1 : List Int) (r2 : Int) (w : World) (h : record_EncodeLog.f k a0_0 a0_1 a0_2 a0_3 a0_4 a0_5 a0_6 a0_7 = some (r1, r2)) :
    Calls Tryd.prog 15 #[.agg #[.int .i64 a0_0, .int .i64 a0_1, .int .i64 a0_2, .int .i64 a0_3, .int .i64 a0_4, .int .i64 a0_5, .int .i64 a0_6, .string a0_7]] w fun e w' => ∃ v0_ : Value, e = .returned (.tuple #[v0_, .int .i64 r2]) ∧ Kd.R (Kd.int .u8) 5 w' w.heap.size (fun _ => True) v0_ r1 ∧ Below w.heap.size w w' := by
  have hu25 := Tryd.underlying25
  have HB := Aside0.mk (Below.refl w.heap.size w)
  have H : ((record_Log_right.f k a0_0 a0_1 a0_2 a0_3 a0_4 a0_5 a0_6 a0_7).bind fun t275 => (if t275 = true then ((record_numbers.f k (([2, a0_0, a0_1, a0_2, a0_3, a0_4, a0_5, a0_6] : List Int))).bind fun t279 => ((record_text.f a0_7).bind fun bt282 => (if t279.length < 4398046511104 then ((record_sector.f k (t279 ++ [(⟨bt282.1, bt282.2.1, bt282.2.2⟩ : S77)])).bind fun bt288 => (some (bt288.1, bt288.2))) else (none)))) else (some (([] : List Int), 2)))) = some (r1, r2) := h
  clear h
  replace H := Option.bind_eq_some_iff.mp H
  obtain ⟨t275, A20, H⟩ := H
  replace H : (if t275 = true then ((record_numbers.f k (([2, a0_0, a0_1, a0_2, a0_3, a0_4, a0_5, a0_6] : List Int))).bind fun t279 => ((record_text.f a0_7).bind fun bt282 => (if t279.length < 4398046511104 then ((record_sector.f k (t279 ++ [(⟨bt282.1, bt282.2.1, bt282.2.2⟩ : S77)])).bind fun bt288 => (some (bt288.1, bt288.2))) else (none)))) else (some (([] : List Int), 2))) = some (r1, r2) := H
  have A2 := Aside0.mk A20
  clear A20
  by_cases c3 : t275 = true
  · subst c3
    have H1 : ((record_numbers.f k (([2, a0_0, a0_1, a0_2, a0_3, a0_4, a0_5, a0_6] : List Int))).bind fun t279 => ((record_text.f a0_7).bind fun bt282 => (if t279.length < 4398046511104 then ((record_sector.f k (t279 ++ [(⟨bt282.1, bt282.2.1, bt282.2.2⟩ : S77)])).bind fun bt288 => (some (bt288.1, bt288.2))) else (none)))) = some (r1, r2) := by rw [if_pos rfl] at H; exact H
    clear H
    have H := H1
    clear H1
    obtain ⟨y276, hy276⟩ : ∃ y_ : List Int, y_ = (([2, a0_0, a0_1, a0_2, a0_3, a0_4, a0_5, a0_6] : List Int)) := ⟨_, rfl⟩
    replace H : ((record_numbers.f k y276).bind fun t279 => ((record_text.f a0_7).bind fun bt282 => (if t279.length < 4398046511104 then ((record_sector.f k (t279 ++ [(⟨bt282.1, bt282.2.1, bt282.2.2⟩ : S77)])).bind fun bt288 => (some (bt288.1, bt288.2))) else (none)))) = some (r1, r2) := by first | (rw [hy276]; with_reducible exact H) | (have H2_ := (Option.bind_some _ _).symm.trans H; rw [hy276]; with_reducible exact H2_) | (have H2_ := (Option.bind_some _ _).symm.trans H; with_reducible exact H2_) | with_reducible exact H | (rw [hy276]; exact H) | exact H
    have Ny276 := Aside0.mk hy276
    clear hy276
    replace H := Option.bind_eq_some_iff.mp H
    obtain ⟨t279, A40, H⟩ := H
    replace H : ((record_text.f a0_7).bind fun bt282 => (if t279.length < 4398046511104 then ((record_sector.f k (t279 ++ [(⟨bt282.1, bt282.2.1, bt282.2.2⟩ : S77)])).bind fun bt288 => (some (bt288.1, bt288.2))) else (none))) = some (r1, r2) := H
    have A4 := Aside0.mk A40
    clear A40
    replace H := Option.bind_eq_some_iff.mp H
    obtain ⟨⟨t282, t283, t284⟩, A50, H⟩ := H
    replace H : (if t279.length < 4398046511104 then ((record_sector.f k (t279 ++ [(⟨t282, t283, t284⟩ : S77)])).bind fun bt288 => (some (bt288.1, bt288.2))) else (none)) = some (r1, r2) := H
    have A5 := Aside0.mk A50
    clear A50
    by_cases c6 : t279.length < 4398046511104
    · rw [if_pos c6] at H
      have LMc6 := Aside0.mk c6
      clear c6
      obtain ⟨y285, hy285⟩ : ∃ y_ : List (S77), y_ = (t279 ++ [(⟨t282, t283, t284⟩ : S77)]) := ⟨_, rfl⟩
      replace H : ((record_sector.f k y285).bind fun bt288 => (some (bt288.1, bt288.2))) = some (r1, r2) := by first | (rw [hy285]; with_reducible exact H) | (have H2_ := (Option.bind_some _ _).symm.trans H; rw [hy285]; with_reducible exact H2_) | (have H2_ := (Option.bind_some _ _).symm.trans H; with_reducible exact H2_) | with_reducible exact H | (rw [hy285]; exact H) | exact H
      have Ny285 := Aside0.mk hy285
      clear hy285
      replace H := Option.bind_eq_some_iff.mp H
      obtain ⟨⟨t288, t289⟩, A70, H⟩ := H
      replace H : (some (t288, t289)) = some (r1, r2) := H
      have A7 := Aside0.mk A70
      clear A70
      simp only [Option.some.injEq, Prod.mk.injEq] at H
      obtain ⟨rfl, rfl⟩ := H
      go_enter Tryd.func15, Tryd.ntmps15
      try go_wp2_with (first | ((with_reducible refine gate_dst (N := 1) rfl ?_); refine box_event ?hg (N := 1) ?hd (cs := #[.int .i64 a0_0, .int .i64 a0_1, .int .i64 a0_2, .int .i64 a0_3, .int .i64 a0_4, .int .i64 a0_5, .int .i64 a0_6, .string a0_7]) (t := 25) ?hr ?_; (case hd => rfl); (case hg => rfl); (case hr => first | (go_simp; done) | (go_simp; rfl)); intro gb274 hg w8 hbox hb; have n0_ := Aside0.mk (below_step (by repeat (first | (with_reducible first | exact HB.out | apply below_alloc | apply pw_below_drewN | apply below_drew1) | exact HB.out)) hb); have n1_ := Aside0.mk (hbox); have n2_ := Aside0.mk ((by rw [hg]; exact (below_size (by repeat (first | (with_reducible first | exact HB.out | apply below_alloc | apply pw_below_drewN | apply below_drew1) | exact HB.out))) : w.heap.size ≤ gb274)); have n3_ := Aside0.mk ((by rw [hg]; exact (below_size (by repeat (first | (with_reducible first | exact HB.out | apply below_alloc | apply pw_below_drewN | apply below_drew1) | exact HB.out))) : w.heap.size ≤ gb274)); clear HB; have HB := n0_; have BK274 := n1_; have GW274 := n2_; have GE274 := n3_; clear n0_ n1_ n2_ n3_; clear hb hbox hg; have hcz9_0 : w8.cell? ⟨gb274, 0, none⟩ = some (.int .i64 a0_0) := (blk_cell BK274.out 0).trans rfl; have hcz9_1 : w8.cell? ⟨gb274, 1, none⟩ = some (.int .i64 a0_1) := (blk_cell BK274.out 1).trans rfl; have hcz9_2 : w8.cell? ⟨gb274, 2, none⟩ = some (.int .i64 a0_2) := (blk_cell BK274.out 2).trans rfl; have hcz9_3 : w8.cell? ⟨gb274, 3, none⟩ = some (.int .i64 a0_3) := (blk_cell BK274.out 3).trans rfl; have hcz9_4 : w8.cell? ⟨gb274, 4, none⟩ = some (.int .i64 a0_4) := (blk_cell BK274.out 4).trans rfl; have hcz9_5 : w8.cell? ⟨gb274, 5, none⟩ = some (.int .i64 a0_5) := (blk_cell BK274.out 5).trans rfl; have hcz9_6 : w8.cell? ⟨gb274, 6, none⟩ = some (.int .i64 a0_6) := (blk_cell BK274.out 6).trans rfl; have hcz9_7 : w8.cell? ⟨gb274, 7, none⟩ = some (.string a0_7) := (blk_cell BK274.out 7).trans rfl; have hfz9_0 := blk_frozen BK274.out 0; have hfz9_1 := blk_frozen BK274.out 1; have hfz9_2 := blk_frozen BK274.out 2; have hfz9_3 := blk_frozen BK274.out 3; have hfz9_4 := blk_frozen BK274.out 4; have hfz9_5 := blk_frozen BK274.out 5; have hfz9_6 := blk_frozen BK274.out 6; have hfz9_7 := blk_frozen BK274.out 7) | ((with_reducible refine gate_callee (f := 33) rfl ?_); refine goesL_ (some 5) rfl rfl Tryd.func33 (by kernel_rfl) rfl #[.agg #[.int .i64 a0_0, .int .i64 a0_1, .int .i64 a0_2, .int .i64 a0_3, .int .i64 a0_4, .int .i64 a0_5, .int .i64 a0_6, .string a0_7]] rfl (by (try simp only [List.map_toArray, List.map_cons, List.map_nil]); first | done | rfl | (simp only [List.length_drop, List.length_take]; rfl)) ?_; (with_reducible refine (record_Log_right.calls k a0_0 a0_1 a0_2 a0_3 a0_4 a0_5 a0_6 a0_7 true _ A2.out).mono ?_); rintro e w10 ⟨rfl, hb⟩; refine ⟨_, rfl, ?_⟩; have n0_ := Aside0.mk (blk_below (g := gb274) (o := .cells #[.int .i64 a0_0, .int .i64 a0_1, .int .i64 a0_2, .int .i64 a0_3, .int .i64 a0_4, .int .i64 a0_5, .int .i64 a0_6, .string a0_7] 25 (0, 0)) (by (with_reducible repeat (first | refine blk_drewN ?_ _ | refine blk_drew ?_ | refine blk_alloc ?_ _)); exact BK274.out) hb); have n1_ := Aside0.mk (below_step (by repeat (first | (with_reducible first | exact HB.out | apply below_alloc | apply pw_below_drewN | apply below_drew1 | refine below_set ?_ GE274.out) | exact HB.out)) hb); clear BK274; clear HB; have BK274 := n0_; have HB := n1_; clear n0_ n1_; (try clear hb); (try clear hb2); (try clear hk); (try clear hi)))
      have n0_ := Aside0.mk (blk_drew BK274.out)
      have n1_ := Aside0.mk (below_drew1 HB.out)
      clear BK274
      clear HB
      have BK274 := n0_
      have HB := n1_
      clear n0_ n1_
      refine start_ (n := 26) (S := fun w' => w'.cell? ⟨gb274, 0, none⟩ = some (.int .i64 a0_0) ∧ w'.cell? ⟨gb274, 1, none⟩ = some (.int .i64 a0_1) ∧ w'.cell? ⟨gb274, 2, none⟩ = some (.int .i64 a0_2) ∧ w'.cell? ⟨gb274, 3, none⟩ = some (.int .i64 a0_3) ∧ w'.cell? ⟨gb274, 4, none⟩ = some (.int .i64 a0_4) ∧ w'.cell? ⟨gb274, 5, none⟩ = some (.int .i64 a0_5) ∧ w'.cell? ⟨gb274, 6, none⟩ = some (.int .i64 a0_6) ∧ w'.cell? ⟨gb274, 7, none⟩ = some (.string a0_7)) (ds := []) #[false, false, false, false, false, false, false, false, false, false, false, false, false, false, false, false, false, false, false, false, false, false, false, false, false, false] (by kernel_rfl) rfl rfl ⟨(blk_cell BK274.out 0).trans rfl, (blk_cell BK274.out 1).trans rfl, (blk_cell BK274.out 2).trans rfl, (blk_cell BK274.out 3).trans rfl, (blk_cell BK274.out 4).trans rfl, (blk_cell BK274.out 5).trans rfl, (blk_cell BK274.out 6).trans rfl, (blk_cell BK274.out 7).trans rfl⟩ (fun hHeld => ?_); refine with_tabW record_EncodeLog.tab3 record_EncodeLog.bits3 (fun HT_ HW_ => ?_)
      generalize w10.drew = w11 at BK274 HB hHeld ⊢
      refine pure_ (i := 0) (N := some 7) (v := ?_) (a' := ?_) #[true, false, false, false, false, false, false, false, false, false, false, false, false, false, false, false, false, false, false, false, false, false, false, false, false, false] rfl rfl (any_of HT_.out (by kernel_rfl)) (fun _ _ _ h => h) (Or.inl ⟨by rfl, ?_⟩) ?_ ?_
      rotate_left
      · intro w'
        go_simp
        with_reducible rfl
      rotate_left
      · simp only [Act.put, List.setIfInBounds_toArray, List.set_cons_zero, List.set_cons_succ, i64_w, i32_w]
        rfl
      refine pure_ (i := 2) (N := some 9) (v := ?_) (a' := ?_) #[true, false, true, false, false, false, false, false, false, false, false, false, false, false, false, false, false, false, false, false, false, false, false, false, false, false] rfl rfl (any_of HT_.out (by kernel_rfl)) (fun _ _ _ h => h) (Or.inl ⟨by rfl, ?_⟩) ?_ ?_
      rotate_left
      · intro w'
        go_simp
        with_reducible rfl
      rotate_left
      · simp only [Act.put, List.setIfInBounds_toArray, List.set_cons_zero, List.set_cons_succ, i64_w, i32_w]
        rfl
      refine pure_ (i := 4) (N := some 11) (v := ?_) (a' := ?_) #[true, false, true, false, true, false, false, false, false, false, false, false, false, false, false, false, false, false, false, false, false, false, false, false, false, false] rfl rfl (any_of HT_.out (by kernel_rfl)) (fun _ _ _ h => h) (Or.inl ⟨by rfl, ?_⟩) ?_ ?_
      rotate_left
      · intro w'
        go_simp
        with_reducible rfl
      rotate_left
      · simp only [Act.put, List.setIfInBounds_toArray, List.set_cons_zero, List.set_cons_succ, i64_w, i32_w]
        rfl
      refine pure_ (i := 6) (N := some 13) (v := ?_) (a' := ?_) #[true, false, true, false, true, false, true, false, false, false, false, false, false, false, false, false, false, false, false, false, false, false, false, false, false, false] rfl rfl (any_of HT_.out (by kernel_rfl)) (fun _ _ _ h => h) (Or.inl ⟨by rfl, ?_⟩) ?_ ?_
      rotate_left
      · intro w'
        go_simp
        with_reducible rfl
      rotate_left
      · simp only [Act.put, List.setIfInBounds_toArray, List.set_cons_zero, List.set_cons_succ, i64_w, i32_w]
        rfl
      refine pure_ (i := 8) (N := some 15) (v := ?_) (a' := ?_) #[true, false, true, false, true, false, true, false, true, false, false, false, false, false, false, false, false, false, false, false, false, false, false, false, false, false] rfl rfl (any_of HT_.out (by kernel_rfl)) (fun _ _ _ h => h) (Or.inl ⟨by rfl, ?_⟩) ?_ ?_
      rotate_left
      · intro w'
        go_simp
        with_reducible rfl
      rotate_left
      · simp only [Act.put, List.setIfInBounds_toArray, List.set_cons_zero, List.set_cons_succ, i64_w, i32_w]
        rfl
      refine pure_ (i := 10) (N := some 17) (v := ?_) (a' := ?_) #[true, false, true, false, true, false, true, false, true, false, true, false, false, false, false, false, false, false, false, false, false, false, false, false, false, false] rfl rfl (any_of HT_.out (by kernel_rfl)) (fun _ _ _ h => h) (Or.inl ⟨by rfl, ?_⟩) ?_ ?_
      rotate_left
      · intro w'
        go_simp
        with_reducible rfl
      rotate_left
      · simp only [Act.put, List.setIfInBounds_toArray, List.set_cons_zero, List.set_cons_succ, i64_w, i32_w]
        rfl
      refine pure_ (i := 12) (N := some 19) (v := ?_) (a' := ?_) #[true, false, true, false, true, false, true, false, true, false, true, false, true, false, false, false, false, false, false, false, false, false, false, false, false, false] rfl rfl (any_of HT_.out (by kernel_rfl)) (fun _ _ _ h => h) (Or.inl ⟨by rfl, ?_⟩) ?_ ?_
      rotate_left
      · intro w'
        go_simp
        with_reducible rfl
      rotate_left
      · simp only [Act.put, List.setIfInBounds_toArray, List.set_cons_zero, List.set_cons_succ, i64_w, i32_w]
        rfl
      refine pure_ (i := 16) (N := some 23) (v := ?_) (a' := ?_) #[true, false, true, false, true, false, true, false, true, false, true, false, true, false, false, false, true, false, false, false, false, false, false, false, false, false] rfl rfl (any_of HT_.out (by kernel_rfl)) (fun _ _ _ h => h) (Or.inl ⟨by rfl, ?_⟩) ?_ ?_
      rotate_left
      · intro w'
        go_simp
        with_reducible rfl
      rotate_left
      · simp only [Act.put, List.setIfInBounds_toArray, List.set_cons_zero, List.set_cons_succ, i64_w, i32_w]
        rfl
      refine take_ (i := 1) (N := some 8) (v := ?_) (a' := ?_) #[true, true, true, false, true, false, true, false, true, false, true, false, true, false, false, false, true, false, false, false, false, false, false, false, false, false] rfl rfl (take_ofW HT_.out HW_.out (by kernel_rfl)) (fun _ _ _ h => h) (Or.inl ⟨by rfl, ?_⟩) hHeld ?_ ?_
      rotate_left
      · rintro w' ⟨s0, s1, s2, s3, s4, s5, s6, s7⟩
        go_simp
        with_reducible rfl
      rotate_left
      · simp only [Act.put, List.setIfInBounds_toArray, List.set_cons_zero, List.set_cons_succ, i64_w, i32_w]
        rfl
      refine take_ (i := 3) (N := some 10) (v := ?_) (a' := ?_) #[true, true, true, true, true, false, true, false, true, false, true, false, true, false, false, false, true, false, false, false, false, false, false, false, false, false] rfl rfl (take_ofW HT_.out HW_.out (by kernel_rfl)) (fun _ _ _ h => h) (Or.inl ⟨by rfl, ?_⟩) hHeld ?_ ?_
      rotate_left
      · rintro w' ⟨s0, s1, s2, s3, s4, s5, s6, s7⟩
        go_simp
        with_reducible rfl
      rotate_left
      · simp only [Act.put, List.setIfInBounds_toArray, List.set_cons_zero, List.set_cons_succ, i64_w, i32_w]
        rfl
      refine take_ (i := 5) (N := some 12) (v := ?_) (a' := ?_) #[true, true, true, true, true, true, true, false, true, false, true, false, true, false, false, false, true, false, false, false, false, false, false, false, false, false] rfl rfl (take_ofW HT_.out HW_.out (by kernel_rfl)) (fun _ _ _ h => h) (Or.inl ⟨by rfl, ?_⟩) hHeld ?_ ?_
      rotate_left
      · rintro w' ⟨s0, s1, s2, s3, s4, s5, s6, s7⟩
        go_simp
        with_reducible rfl
      rotate_left
      · simp only [Act.put, List.setIfInBounds_toArray, List.set_cons_zero, List.set_cons_succ, i64_w, i32_w]
        rfl
      refine take_ (i := 7) (N := some 14) (v := ?_) (a' := ?_) #[true, true, true, true, true, true, true, true, true, false, true, false, true, false, false, false, true, false, false, false, false, false, false, false, false, false] rfl rfl (take_ofW HT_.out HW_.out (by kernel_rfl)) (fun _ _ _ h => h) (Or.inl ⟨by rfl, ?_⟩) hHeld ?_ ?_
      rotate_left
      · rintro w' ⟨s0, s1, s2, s3, s4, s5, s6, s7⟩
        go_simp
        with_reducible rfl
      rotate_left
      · simp only [Act.put, List.setIfInBounds_toArray, List.set_cons_zero, List.set_cons_succ, i64_w, i32_w]
        rfl
      refine take_ (i := 9) (N := some 16) (v := ?_) (a' := ?_) #[true, true, true, true, true, true, true, true, true, true, true, false, true, false, false, false, true, false, false, false, false, false, false, false, false, false] rfl rfl (take_ofW HT_.out HW_.out (by kernel_rfl)) (fun _ _ _ h => h) (Or.inl ⟨by rfl, ?_⟩) hHeld ?_ ?_
      rotate_left
      · rintro w' ⟨s0, s1, s2, s3, s4, s5, s6, s7⟩
        go_simp
        with_reducible rfl
      rotate_left
      · simp only [Act.put, List.setIfInBounds_toArray, List.set_cons_zero, List.set_cons_succ, i64_w, i32_w]
        rfl
      refine take_ (i := 11) (N := some 18) (v := ?_) (a' := ?_) #[true, true, true, true, true, true, true, true, true, true, true, true, true, false, false, false, true, false, false, false, false, false, false, false, false, false] rfl rfl (take_ofW HT_.out HW_.out (by kernel_rfl)) (fun _ _ _ h => h) (Or.inl ⟨by rfl, ?_⟩) hHeld ?_ ?_
      rotate_left
      · rintro w' ⟨s0, s1, s2, s3, s4, s5, s6, s7⟩
        go_simp
        with_reducible rfl
      rotate_left
      · simp only [Act.put, List.setIfInBounds_toArray, List.set_cons_zero, List.set_cons_succ, i64_w, i32_w]
        rfl
      refine take_ (i := 13) (N := some 20) (v := ?_) (a' := ?_) #[true, true, true, true, true, true, true, true, true, true, true, true, true, true, false, false, true, false, false, false, false, false, false, false, false, false] rfl rfl (take_ofW HT_.out HW_.out (by kernel_rfl)) (fun _ _ _ h => h) (Or.inl ⟨by rfl, ?_⟩) hHeld ?_ ?_
      rotate_left
      · rintro w' ⟨s0, s1, s2, s3, s4, s5, s6, s7⟩
        go_simp
        with_reducible rfl
      rotate_left
      · simp only [Act.put, List.setIfInBounds_toArray, List.set_cons_zero, List.set_cons_succ, i64_w, i32_w]
        rfl
      refine take_ (i := 17) (N := some 24) (v := ?_) (a' := ?_) #[true, true, true, true, true, true, true, true, true, true, true, true, true, true, false, false, true, true, false, false, false, false, false, false, false, false] rfl rfl (take_ofW HT_.out HW_.out (by kernel_rfl)) (fun _ _ _ h => h) (Or.inl ⟨by rfl, ?_⟩) hHeld ?_ ?_
      rotate_left
      · rintro w' ⟨s0, s1, s2, s3, s4, s5, s6, s7⟩
        go_simp
        with_reducible rfl
      rotate_left
      · simp only [Act.put, List.setIfInBounds_toArray, List.set_cons_zero, List.set_cons_succ, i64_w, i32_w]
        rfl
      refine one_ (i := 14) (N := some 21) #[true, true, true, true, true, true, true, true, true, true, true, true, true, true, true, false, true, true, false, false, false, false, false, false, false, false] rfl rfl (one_of HT_.out (by kernel_rfl)) (by decide) (fun K hK => ?_)
      refine Kd.R_lit_step (Kd.int .i64) _ 3 ?hg (N := 21) ?hd (xs := ([2, a0_0, a0_1, a0_2, a0_3, a0_4, a0_5, a0_6] : List Int)) (inner := [.int .i64 2, .int .i64 a0_0, .int .i64 a0_1, .int .i64 a0_2, .int .i64 a0_3, .int .i64 a0_4, .int .i64 a0_5, .int .i64 a0_6]) (ok := fun _ => True) (okp := fun _ => True) ?hr ?hp (fun _ hk => hk) trivial (Below.refl _ _) (Nat.le_refl _) (by simp) ?_; (case hd => rfl); (case hg => rfl); (case hr => first | (go_simp; done) | (go_simp; rfl)); (case hp => exact (Reps.one (show Kd.M (Kd.int .i64) _ _ _ 2 [.int .i64 2] from rfl) (Reps.one (show Kd.M (Kd.int .i64) _ _ _ a0_0 [.int .i64 a0_0] from rfl) (Reps.one (show Kd.M (Kd.int .i64) _ _ _ a0_1 [.int .i64 a0_1] from rfl) (Reps.one (show Kd.M (Kd.int .i64) _ _ _ a0_2 [.int .i64 a0_2] from rfl) (Reps.one (show Kd.M (Kd.int .i64) _ _ _ a0_3 [.int .i64 a0_3] from rfl) (Reps.one (show Kd.M (Kd.int .i64) _ _ _ a0_4 [.int .i64 a0_4] from rfl) (Reps.one (show Kd.M (Kd.int .i64) _ _ _ a0_5 [.int .i64 a0_5] from rfl) (Reps.one (show Kd.M (Kd.int .i64) _ _ _ a0_6 [.int .i64 a0_6] from rfl) (Reps.none _ _))))))))))
      intro v277 w12 ho13 hb hg_ hnew_
      clear hg_ hnew_
      (first | rw [← Ny276.out] at ho13 | (simp only [Int.reduceToNat] at ho13; rw [← Ny276.out] at ho13))
      have n0_ := Aside0.mk (Kd.R_lower ho13 (below_size (by repeat (first | (with_reducible first | exact HB.out | apply below_alloc | apply pw_below_drewN | apply below_drew1 | refine below_set ?_ GE274.out) | exact HB.out))))
      have n1_ := Aside0.mk (blk_below (g := gb274) (o := .cells #[.int .i64 a0_0, .int .i64 a0_1, .int .i64 a0_2, .int .i64 a0_3, .int .i64 a0_4, .int .i64 a0_5, .int .i64 a0_6, .string a0_7] 25 (0, 0)) (by (with_reducible repeat (first | refine blk_drewN ?_ _ | refine blk_drew ?_ | refine blk_alloc ?_ _)); exact BK274.out) hb)
      have n2_ := Aside0.mk (below_step (by repeat (first | (with_reducible first | exact HB.out | apply below_alloc | apply pw_below_drewN | apply below_drew1 | refine below_set ?_ GE274.out) | exact HB.out)) hb)
      clear BK274
      clear HB
      have HO278 := n0_
      have BK274 := n1_
      have HB := n2_
      clear n0_ n1_ n2_
      clear hb ho13
      obtain ⟨Ao14, co14, eo14⟩ := Kd.R_slice HO278.out
      (first | subst eo14 | (injection eo14 with f1_ f2_ f3_; have f4_ := f1_.symm; have f5_ := f3_.symm; clear f1_ f2_ f3_; subst f4_; subst f5_))
      refine hK.out _ _ ⟨(blk_cell BK274.out 0).trans rfl, (blk_cell BK274.out 1).trans rfl, (blk_cell BK274.out 2).trans rfl, (blk_cell BK274.out 3).trans rfl, (blk_cell BK274.out 4).trans rfl, (blk_cell BK274.out 5).trans rfl, (blk_cell BK274.out 6).trans rfl, (blk_cell BK274.out 7).trans rfl⟩ (fun hHeld => ?_)
      clear hK K
      refine norm_ (a' := ?_) ?_ ?_
      rotate_left
      · show Act.put _ (some 21) _ = _
        simp only [Act.put, List.setIfInBounds_toArray, List.set_cons_zero, List.set_cons_succ, i64_w, i32_w]
        rfl
      refine one_ (i := 15) (N := some 22) #[true, true, true, true, true, true, true, true, true, true, true, true, true, true, true, true, true, true, false, false, false, false, false, false, false, false] rfl rfl (one_of HT_.out (by kernel_rfl)) (by decide) (fun K hK => ?_)
      refine goes_ Tryd.func32 (by kernel_rfl) rfl #[.slice Ao14 y276.length co14] (by rfl) rfl rfl (by (try simp only [List.map_toArray, List.map_cons, List.map_nil]); first | done | rfl | (simp only [List.length_drop, List.length_take]; rfl)) ?_
      with_reducible refine (record_numbers.calls k _ _ y276 t279 _ ?side1 ?side2 A4.out).mono ?_
      (case side1 => repeat (first | exact (Kd.R_reads' HO278.out).2.2 | (with_reducible refine Kd.C_alloc ?_ _) | (with_reducible refine Kd.C_drewN ?_ _) | (with_reducible refine Kd.C_drew ?_)))
      (case side2 => exact (Kd.R_reads' HO278.out).2.1)
      rintro e w15 ⟨v280, rfl, ho0, hb⟩
      refine ⟨_, rfl, ?_⟩
      have n0_ := Aside0.mk (Kd.R_below (by (with_reducible repeat (first | apply Kd.R_alloc | apply Kd.R_drewN | apply Kd.R_drew)); exact HO278.out) hb)
      have n1_ := Aside0.mk (Kd.R_lower ho0 (below_size (by repeat (first | (with_reducible first | exact HB.out | apply below_alloc | apply pw_below_drewN | apply below_drew1 | refine below_set ?_ GE274.out) | exact HB.out))))
      have n2_ := Aside0.mk (blk_below (g := gb274) (o := .cells #[.int .i64 a0_0, .int .i64 a0_1, .int .i64 a0_2, .int .i64 a0_3, .int .i64 a0_4, .int .i64 a0_5, .int .i64 a0_6, .string a0_7] 25 (0, 0)) (by (with_reducible repeat (first | refine blk_drewN ?_ _ | refine blk_drew ?_ | refine blk_alloc ?_ _)); exact BK274.out) hb)
      have n3_ := Aside0.mk (below_step (by repeat (first | (with_reducible first | exact HB.out | apply below_alloc | apply pw_below_drewN | apply below_drew1 | refine below_set ?_ GE274.out) | exact HB.out)) hb)
      clear HO278
      clear BK274
      clear HB
      have HO278 := n0_
      have HO281 := n1_
      have BK274 := n2_
      have HB := n3_
      clear n0_ n1_ n2_ n3_
      (try clear hb)
      (try clear hb2)
      (try clear hk)
      (try clear hi)
      (try clear ho0)
      refine hK.out _ _ ⟨(blk_cell BK274.out 0).trans rfl, (blk_cell BK274.out 1).trans rfl, (blk_cell BK274.out 2).trans rfl, (blk_cell BK274.out 3).trans rfl, (blk_cell BK274.out 4).trans rfl, (blk_cell BK274.out 5).trans rfl, (blk_cell BK274.out 6).trans rfl, (blk_cell BK274.out 7).trans rfl⟩ (fun hHeld => ?_)
      clear hK K
      refine norm_ (a' := ?_) ?_ ?_
      rotate_left
      · show Act.put _ (some 22) _ = _
        simp only [Act.put, List.setIfInBounds_toArray, List.set_cons_zero, List.set_cons_succ, i64_w, i32_w]
        rfl
      refine one_ (i := 18) (N := some 25) #[true, true, true, true, true, true, true, true, true, true, true, true, true, true, true, true, true, true, true, false, false, false, false, false, false, false] rfl rfl (one_of HT_.out (by kernel_rfl)) (by decide) (fun K hK => ?_)
      refine goes_ Tryd.func34 (by kernel_rfl) rfl #[.string a0_7] (by rfl) rfl rfl (by (try simp only [List.map_toArray, List.map_cons, List.map_nil]); first | done | rfl | (simp only [List.length_drop, List.length_take]; rfl)) ?_
      with_reducible refine (record_text.calls a0_7 t282 t283 t284 _ A5.out).mono ?_
      rintro e w16 ⟨rfl, hb⟩
      refine ⟨_, rfl, ?_⟩
      have n0_ := Aside0.mk (Kd.R_below (by (with_reducible repeat (first | apply Kd.R_alloc | apply Kd.R_drewN | apply Kd.R_drew)); exact HO278.out) hb)
      have n1_ := Aside0.mk (Kd.R_below (by (with_reducible repeat (first | apply Kd.R_alloc | apply Kd.R_drewN | apply Kd.R_drew)); exact HO281.out) hb)
      have n2_ := Aside0.mk (blk_below (g := gb274) (o := .cells #[.int .i64 a0_0, .int .i64 a0_1, .int .i64 a0_2, .int .i64 a0_3, .int .i64 a0_4, .int .i64 a0_5, .int .i64 a0_6, .string a0_7] 25 (0, 0)) (by (with_reducible repeat (first | refine blk_drewN ?_ _ | refine blk_drew ?_ | refine blk_alloc ?_ _)); exact BK274.out) hb)
      have n3_ := Aside0.mk (below_step (by repeat (first | (with_reducible first | exact HB.out | apply below_alloc | apply pw_below_drewN | apply below_drew1 | refine below_set ?_ GE274.out) | exact HB.out)) hb)
      clear HO278
      clear HO281
      clear BK274
      clear HB
      have HO278 := n0_
      have HO281 := n1_
      have BK274 := n2_
      have HB := n3_
      clear n0_ n1_ n2_ n3_
      (try clear hb)
      (try clear hb2)
      (try clear hk)
      (try clear hi)
      refine hK.out _ _ ⟨(blk_cell BK274.out 0).trans rfl, (blk_cell BK274.out 1).trans rfl, (blk_cell BK274.out 2).trans rfl, (blk_cell BK274.out 3).trans rfl, (blk_cell BK274.out 4).trans rfl, (blk_cell BK274.out 5).trans rfl, (blk_cell BK274.out 6).trans rfl, (blk_cell BK274.out 7).trans rfl⟩ (fun hHeld => ?_)
      clear hK K
      refine norm_ (a' := ?_) ?_ ?_
      rotate_left
      · show Act.put _ (some 25) _ = _
        simp only [Act.put, List.setIfInBounds_toArray, List.set_cons_zero, List.set_cons_succ, i64_w, i32_w]
        rfl
      refine one_ (i := 19) (N := some 26) #[true, true, true, true, true, true, true, true, true, true, true, true, true, true, true, true, true, true, true, true, false, false, false, false, false, false] rfl rfl (one_of HT_.out (by kernel_rfl)) (by decide) (fun K hK => ?_)
      refine value_ (w1 := ?_) (v := ?_) (by rfl) rfl ?_ ?_
      rotate_left 2
      · go_simp
        constructor
        · rfl
        · rfl
      refine hK.out _ _ ⟨(blk_cell (blk_alloc BK274.out _) 0).trans rfl, (blk_cell (blk_alloc BK274.out _) 1).trans rfl, (blk_cell (blk_alloc BK274.out _) 2).trans rfl, (blk_cell (blk_alloc BK274.out _) 3).trans rfl, (blk_cell (blk_alloc BK274.out _) 4).trans rfl, (blk_cell (blk_alloc BK274.out _) 5).trans rfl, (blk_cell (blk_alloc BK274.out _) 6).trans rfl, (blk_cell (blk_alloc BK274.out _) 7).trans rfl⟩ (fun hHeld => ?_)
      clear hK K
      refine norm_ (a' := ?_) ?_ ?_
      rotate_left
      · show Act.put _ (some 26) _ = _
        simp only [Act.put, List.setIfInBounds_toArray, List.set_cons_zero, List.set_cons_succ, i64_w, i32_w]
        rfl
      refine one_ (i := 20) (N := some 27) #[true, true, true, true, true, true, true, true, true, true, true, true, true, true, true, true, true, true, true, true, true, false, false, false, false, false] rfl rfl (one_of HT_.out (by kernel_rfl)) (by decide) (fun K hK => ?_)
      refine Kd.R_append_step k77 (w0 := w) w.heap.size (by rfl) (.tmp 22) (.tmp 26) 74 77 (.agg #[(.int .i64 0), (.int .i64 0), (.string ⟨#[]⟩)]) 32 rfl Tryd.underlying74 info77 rfl (by decide) (by omega) v280 t279 (⟨t282, t283, t284⟩ : S77) [.int .i64 t282, .int .i64 t283, .string t284] (fun _ => True) (fun _ => False) rfl rfl ?aP (fun _ hk => hk.elim) ?aF ?aO ?aB ?aS ?aL ?_
      (case aP => exact k77_mkM _ _ _ (⟨t282, t283, t284⟩ : S77))
      (case aB => exact (by repeat (first | (with_reducible first | exact HB.out | apply below_alloc | apply pw_below_drewN | apply below_drew1 | refine below_set ?_ GE274.out) | exact HB.out)))
      (case aF => exact (fun _ _ => trivial))
      (case aO => exact (by (with_reducible repeat (first | apply Kd.R_alloc | apply Kd.R_drewN | apply Kd.R_drew)); exact HO281.out))
      (case aS => exact (below_size (by repeat (first | (with_reducible first | exact HB.out | apply below_alloc | apply pw_below_drewN | apply below_drew1 | refine below_set ?_ GE274.out) | exact HB.out))))
      (case aL => have := LMc6.out; omega)
      intro v286 w17 ho hb hg hat
      rw [← Ny285.out] at ho
      have n0_ := Aside0.mk (blk_grown (g := gb274) (o := .cells #[.int .i64 a0_0, .int .i64 a0_1, .int .i64 a0_2, .int .i64 a0_3, .int .i64 a0_4, .int .i64 a0_5, .int .i64 a0_6, .string a0_7] 25 (0, 0)) (by (with_reducible repeat (first | refine blk_drewN ?_ _ | refine blk_drew ?_ | refine blk_alloc ?_ _)); exact BK274.out) hg (Kd.R_ne HO281.out BK274.out (by decide)))
      have n1_ := Aside0.mk (Kd.R_over' (by (with_reducible repeat (first | apply Kd.R_alloc | apply Kd.R_drewN | apply Kd.R_drew)); exact HO278.out) (Kd.R_typed (by (with_reducible repeat (first | apply Kd.R_alloc | apply Kd.R_drewN | apply Kd.R_drew)); exact HO281.out)) (by decide) hg)
      have n2_ := Aside0.mk (hb)
      have n3_ := Aside0.mk (ho)
      clear BK274
      clear HO278
      clear HB
      clear HO281
      have BK274 := n0_
      have HO278 := n1_
      have HB := n2_
      have HO287 := n3_
      clear n0_ n1_ n2_ n3_
      clear ho hb hg hat
      obtain ⟨Ao18, co18, eo18⟩ := Kd.R_slice HO287.out
      (first | subst eo18 | (injection eo18 with f1_ f2_ f3_; have f4_ := f1_.symm; have f5_ := f3_.symm; clear f1_ f2_ f3_; subst f4_; subst f5_))
      refine hK.out _ _ ⟨(blk_cell BK274.out 0).trans rfl, (blk_cell BK274.out 1).trans rfl, (blk_cell BK274.out 2).trans rfl, (blk_cell BK274.out 3).trans rfl, (blk_cell BK274.out 4).trans rfl, (blk_cell BK274.out 5).trans rfl, (blk_cell BK274.out 6).trans rfl, (blk_cell BK274.out 7).trans rfl⟩ (fun hHeld => ?_)
      clear hK K
      refine norm_ (a' := ?_) ?_ ?_
      rotate_left
      · show Act.put _ (some 27) _ = _
        simp only [Act.put, List.setIfInBounds_toArray, List.set_cons_zero, List.set_cons_succ, i64_w, i32_w]
        rfl
      refine one_ (i := 21) (N := some 28) #[true, true, true, true, true, true, true, true, true, true, true, true, true, true, true, true, true, true, true, true, true, true, false, false, false, false] rfl rfl (one_of HT_.out (by kernel_rfl)) (by decide) (fun K hK => ?_)
      refine goes_ Tryd.func31 (by kernel_rfl) rfl #[.slice Ao18 y285.length co18] (by rfl) rfl rfl (by (try simp only [List.map_toArray, List.map_cons, List.map_nil]); first | done | rfl | (simp only [List.length_drop, List.length_take]; rfl)) ?_
      with_reducible refine (record_sector.calls k _ _ y285 t288 t289 _ ?side1 ?side2 A7.out).mono ?_
      (case side1 => repeat (first | exact (Kd.R_reads' HO287.out).2.2 | (with_reducible refine Kd.C_alloc ?_ _) | (with_reducible refine Kd.C_drewN ?_ _) | (with_reducible refine Kd.C_drew ?_)))
      (case side2 => exact (Kd.R_reads' HO287.out).2.1)
      rintro e w19 ⟨v290, rfl, ho0, hb⟩
      refine ⟨_, rfl, ?_⟩
      have n0_ := Aside0.mk (Kd.R_below (by (with_reducible repeat (first | apply Kd.R_alloc | apply Kd.R_drewN | apply Kd.R_drew)); exact HO278.out) hb)
      have n1_ := Aside0.mk (Kd.R_below (by (with_reducible repeat (first | apply Kd.R_alloc | apply Kd.R_drewN | apply Kd.R_drew)); exact HO287.out) hb)
      have n2_ := Aside0.mk (Kd.R_lower ho0 (below_size (by repeat (first | (with_reducible first | exact HB.out | apply below_alloc | apply pw_below_drewN | apply below_drew1 | refine below_set ?_ GE274.out) | exact HB.out))))
      have n3_ := Aside0.mk (blk_below (g := gb274) (o := .cells #[.int .i64 a0_0, .int .i64 a0_1, .int .i64 a0_2, .int .i64 a0_3, .int .i64 a0_4, .int .i64 a0_5, .int .i64 a0_6, .string a0_7] 25 (0, 0)) (by (with_reducible repeat (first | refine blk_drewN ?_ _ | refine blk_drew ?_ | refine blk_alloc ?_ _)); exact BK274.out) hb)
      have n4_ := Aside0.mk (below_step (by repeat (first | (with_reducible first | exact HB.out | apply below_alloc | apply pw_below_drewN | apply below_drew1 | refine below_set ?_ GE274.out) | exact HB.out)) hb)
      clear HO278
      clear HO287
      clear BK274
      clear HB
      have HO278 := n0_
      have HO287 := n1_
      have HO291 := n2_
      have BK274 := n3_
      have HB := n4_
      clear n0_ n1_ n2_ n3_ n4_
      (try clear hb)
      (try clear hb2)
      (try clear hk)
      (try clear hi)
      (try clear ho0)
      refine hK.out _ _ ⟨(blk_cell BK274.out 0).trans rfl, (blk_cell BK274.out 1).trans rfl, (blk_cell BK274.out 2).trans rfl, (blk_cell BK274.out 3).trans rfl, (blk_cell BK274.out 4).trans rfl, (blk_cell BK274.out 5).trans rfl, (blk_cell BK274.out 6).trans rfl, (blk_cell BK274.out 7).trans rfl⟩ (fun hHeld => ?_)
      clear hK K
      refine norm_ (a' := ?_) ?_ ?_
      rotate_left
      · show Act.put _ (some 28) _ = _
        simp only [Act.put, List.setIfInBounds_toArray, List.set_cons_zero, List.set_cons_succ, i64_w, i32_w]
        rfl
      refine pure_ (i := 22) (N := some 29) (v := ?_) (a' := ?_) #[true, true, true, true, true, true, true, true, true, true, true, true, true, true, true, true, true, true, true, true, true, true, true, false, false, false] rfl rfl (any_of HT_.out (by kernel_rfl)) (fun _ _ _ h => h) (Or.inl ⟨by rfl, ?_⟩) ?_ ?_
      rotate_left
      · intro w'
        go_simp
        with_reducible rfl
      rotate_left
      · simp only [Act.put, List.setIfInBounds_toArray, List.set_cons_zero, List.set_cons_succ, i64_w, i32_w]
        rfl
      refine pure_ (i := 23) (N := some 30) (v := ?_) (a' := ?_) #[true, true, true, true, true, true, true, true, true, true, true, true, true, true, true, true, true, true, true, true, true, true, true, true, false, false] rfl rfl (any_of HT_.out (by kernel_rfl)) (fun _ _ _ h => h) (Or.inl ⟨by rfl, ?_⟩) ?_ ?_
      rotate_left
      · intro w'
        go_simp
        with_reducible rfl
      rotate_left
      · simp only [Act.put, List.setIfInBounds_toArray, List.set_cons_zero, List.set_cons_succ, i64_w, i32_w]
        rfl
      refine pure_ (i := 24) (N := some 2) (v := ?_) (a' := ?_) #[true, true, true, true, true, true, true, true, true, true, true, true, true, true, true, true, true, true, true, true, true, true, true, true, true, false] rfl rfl (any_of HT_.out (by kernel_rfl)) (fun _ _ _ h => h) (Or.inl ⟨by rfl, ?_⟩) ?_ ?_
      rotate_left
      · intro w'
        go_simp
        with_reducible rfl
      rotate_left
      · simp only [Act.put, List.setIfInBounds_toArray, List.set_cons_zero, List.set_cons_succ, i64_w, i32_w]
        rfl
      refine pure_ (i := 25) (N := some 3) (v := ?_) (a' := ?_) #[true, true, true, true, true, true, true, true, true, true, true, true, true, true, true, true, true, true, true, true, true, true, true, true, true, true] rfl rfl (any_of HT_.out (by kernel_rfl)) (fun _ _ _ h => h) (Or.inl ⟨by rfl, ?_⟩) ?_ ?_
      rotate_left
      · intro w'
        go_simp
        with_reducible rfl
      rotate_left
      · simp only [Act.put, List.setIfInBounds_toArray, List.set_cons_zero, List.set_cons_succ, i64_w, i32_w]
        rfl
      refine done_ (done_of HT_.out (by kernel_rfl)) ?_
      try go_wp2
      go_ret2
      exact ⟨_, by first | rfl | (simp [errW_none, errW_some] <;> rfl) | (simp [*, errW_none, errW_some] <;> rfl), by (with_reducible repeat (first | apply Kd.R_alloc | apply Kd.R_drewN | apply Kd.R_drew)); exact HO291.out, by repeat (first | (with_reducible first | exact HB.out | apply below_alloc | apply pw_below_drewN | apply below_drew1 | refine below_set ?_ GE274.out) | exact HB.out)⟩
    · rw [if_neg c6] at H
      exact absurd H (by simp)
  · replace c3 := Bool.eq_false_iff.mpr c3
    subst c3
    have H1 : (some (([] : List Int), 2)) = some (r1, r2) := by rw [if_neg (show ¬ (false = true) by decide)] at H; exact H
    clear H
    have H := H1
    clear H1
    simp only [Option.some.injEq, Prod.mk.injEq] at H
    obtain ⟨rfl, rfl⟩ := H
    go_enter Tryd.func15, Tryd.ntmps15
    go_wp2_with (first | ((with_reducible refine gate_dst (N := 1) rfl ?_); refine box_event ?hg (N := 1) ?hd (cs := #[.int .i64 a0_0, .int .i64 a0_1, .int .i64 a0_2, .int .i64 a0_3, .int .i64 a0_4, .int .i64 a0_5, .int .i64 a0_6, .string a0_7]) (t := 25) ?hr ?_; (case hd => rfl); (case hg => rfl); (case hr => first | (go_simp; done) | (go_simp; rfl)); intro gb274 hg w20 hbox hb; have n0_ := Aside0.mk (below_step (by repeat (first | (with_reducible first | exact HB.out | apply below_alloc | apply pw_below_drewN | apply below_drew1) | exact HB.out)) hb); have n1_ := Aside0.mk (hbox); have n2_ := Aside0.mk ((by rw [hg]; exact (below_size (by repeat (first | (with_reducible first | exact HB.out | apply below_alloc | apply pw_below_drewN | apply below_drew1) | exact HB.out))) : w.heap.size ≤ gb274)); have n3_ := Aside0.mk ((by rw [hg]; exact (below_size (by repeat (first | (with_reducible first | exact HB.out | apply below_alloc | apply pw_below_drewN | apply below_drew1) | exact HB.out))) : w.heap.size ≤ gb274)); clear HB; have HB := n0_; have BK274 := n1_; have GW274 := n2_; have GE274 := n3_; clear n0_ n1_ n2_ n3_; clear hb hbox hg; have hcz21_0 : w20.cell? ⟨gb274, 0, none⟩ = some (.int .i64 a0_0) := (blk_cell BK274.out 0).trans rfl; have hcz21_1 : w20.cell? ⟨gb274, 1, none⟩ = some (.int .i64 a0_1) := (blk_cell BK274.out 1).trans rfl; have hcz21_2 : w20.cell? ⟨gb274, 2, none⟩ = some (.int .i64 a0_2) := (blk_cell BK274.out 2).trans rfl; have hcz21_3 : w20.cell? ⟨gb274, 3, none⟩ = some (.int .i64 a0_3) := (blk_cell BK274.out 3).trans rfl; have hcz21_4 : w20.cell? ⟨gb274, 4, none⟩ = some (.int .i64 a0_4) := (blk_cell BK274.out 4).trans rfl; have hcz21_5 : w20.cell? ⟨gb274, 5, none⟩ = some (.int .i64 a0_5) := (blk_cell BK274.out 5).trans rfl; have hcz21_6 : w20.cell? ⟨gb274, 6, none⟩ = some (.int .i64 a0_6) := (blk_cell BK274.out 6).trans rfl; have hcz21_7 : w20.cell? ⟨gb274, 7, none⟩ = some (.string a0_7) := (blk_cell BK274.out 7).trans rfl; have hfz21_0 := blk_frozen BK274.out 0; have hfz21_1 := blk_frozen BK274.out 1; have hfz21_2 := blk_frozen BK274.out 2; have hfz21_3 := blk_frozen BK274.out 3; have hfz21_4 := blk_frozen BK274.out 4; have hfz21_5 := blk_frozen BK274.out 5; have hfz21_6 := blk_frozen BK274.out 6; have hfz21_7 := blk_frozen BK274.out 7) | ((with_reducible refine gate_callee (f := 33) rfl ?_); refine goesL_ (some 5) rfl rfl Tryd.func33 (by kernel_rfl) rfl #[.agg #[.int .i64 a0_0, .int .i64 a0_1, .int .i64 a0_2, .int .i64 a0_3, .int .i64 a0_4, .int .i64 a0_5, .int .i64 a0_6, .string a0_7]] rfl (by (try simp only [List.map_toArray, List.map_cons, List.map_nil]); first | done | rfl | (simp only [List.length_drop, List.length_take]; rfl)) ?_; (with_reducible refine (record_Log_right.calls k a0_0 a0_1 a0_2 a0_3 a0_4 a0_5 a0_6 a0_7 false _ A2.out).mono ?_); rintro e w22 ⟨rfl, hb⟩; refine ⟨_, rfl, ?_⟩; have n0_ := Aside0.mk (blk_below (g := gb274) (o := .cells #[.int .i64 a0_0, .int .i64 a0_1, .int .i64 a0_2, .int .i64 a0_3, .int .i64 a0_4, .int .i64 a0_5, .int .i64 a0_6, .string a0_7] 25 (0, 0)) (by (with_reducible repeat (first | refine blk_drewN ?_ _ | refine blk_drew ?_ | refine blk_alloc ?_ _)); exact BK274.out) hb); have n1_ := Aside0.mk (below_step (by repeat (first | (with_reducible first | exact HB.out | apply below_alloc | apply pw_below_drewN | apply below_drew1 | refine below_set ?_ GE274.out) | exact HB.out)) hb); clear BK274; clear HB; have BK274 := n0_; have HB := n1_; clear n0_ n1_; (try clear hb); (try clear hb2); (try clear hk); (try clear hi)))
    go_ret2
    exact ⟨_, by first | rfl | (simp [errW_none, errW_some] <;> rfl) | (simp [*, errW_none, errW_some] <;> rfl), by first | exact Kd.R_nil _ _ _ _ _ | exact Kd.N_nil _ _ _ _ _ | exact Kd.V_nil _ _ _ _ _ | exact Kd.Q_nil _ _ _ _ _ | exact Kd.S_nil _ _ _ _ _, by repeat (first | (with_reducible first | exact HB.out | apply below_alloc | apply pw_below_drewN | apply below_drew1 | refine below_set ?_ GE274.out) | exact HB.out)⟩
end
end Go.Proofs.YtmkkeccmjejfnaaDoor.PA
namespace Go.Proofs.YtmkkeccmjejfnaaDoor.PA
section

open Go.RowKit Go.Proofs.YtmkkeccmjejfnaaDoorW.PrintWords Go.Proofs.YtmkkeccmjejfnaaDoorW.PrintLast Go.Proofs.YtmkkeccmjejfnaaDoorW.PrintMore
attribute [local go_sem] pr_leq pr_geq pr_gtr max2_int min2_int max_two min_two max_three min_three max_four min_four
set_option linter.unusedVariables false
set_option linter.unusedSimpArgs false
def cisternlaw07_homeRec.f (a0_0 : Int) (a0_1 : ByteArray) : Option (Int × List Int × ByteArray) := some (3, (([a0_0] : List Int)), a0_1)
set_option maxHeartbeats 8000000 in
set_option maxRecDepth 100000 in
theorem cisternlaw07_homeRec.calls (a0_0 : Int) (a0_1 : ByteArray) (r1 : Int) (r2 : List Int) (r3 : ByteArray) (w : World) (h : cisternlaw07_homeRec.f a0_0 a0_1 = some (r1, r2, r3)) :
    Calls Tryd.prog 16 #[.agg #[.int .i64 a0_0, .string a0_1]] w fun e w' => ∃ v1_ : Value, e = .returned (.agg #[.int .i64 r1, v1_, .string r3]) ∧ Kd.R (Kd.int .i64) 3 w' w.heap.size (fun _ => True) v1_ r2 ∧ Below w.heap.size w w' := by
  have hu27 := Tryd.underlying27
  have hu34 := Tryd.underlying34
  have HB := Aside0.mk (Below.refl w.heap.size w)
  have H : (some (3, (([a0_0] : List Int)), a0_1)) = some (r1, r2, r3) := h
  clear h
  obtain ⟨y294, hy294⟩ : ∃ y_ : List Int, y_ = (([a0_0] : List Int)) := ⟨_, rfl⟩
  replace H : (some (3, y294, a0_1)) = some (r1, r2, r3) := by first | (rw [hy294]; with_reducible exact H) | (have H2_ := (Option.bind_some _ _).symm.trans H; rw [hy294]; with_reducible exact H2_) | (have H2_ := (Option.bind_some _ _).symm.trans H; with_reducible exact H2_) | with_reducible exact H | (rw [hy294]; exact H) | exact H
  have Ny294 := Aside0.mk hy294
  clear hy294
  simp only [Option.some.injEq, Prod.mk.injEq] at H
  obtain ⟨rfl, rfl, rfl⟩ := H
  go_enter Tryd.func16, Tryd.ntmps16
  go_wp2_with (first | ((with_reducible refine gate_dst (N := 1) rfl ?_); refine box_event ?hg (N := 1) ?hd (cs := #[.int .i64 a0_0, .string a0_1]) (t := 27) ?hr ?_; (case hd => rfl); (case hg => rfl); (case hr => first | (go_simp; done) | (go_simp; rfl)); intro gb292 hg w2 hbox hb; have n0_ := Aside0.mk (below_step (by repeat (first | (with_reducible first | exact HB.out | apply below_alloc | apply pw_below_drewN | apply below_drew1) | exact HB.out)) hb); have n1_ := Aside0.mk (hbox); have n2_ := Aside0.mk ((by rw [hg]; exact (below_size (by repeat (first | (with_reducible first | exact HB.out | apply below_alloc | apply pw_below_drewN | apply below_drew1) | exact HB.out))) : w.heap.size ≤ gb292)); have n3_ := Aside0.mk ((by rw [hg]; exact (below_size (by repeat (first | (with_reducible first | exact HB.out | apply below_alloc | apply pw_below_drewN | apply below_drew1) | exact HB.out))) : w.heap.size ≤ gb292)); clear HB; have HB := n0_; have BK292 := n1_; have GW292 := n2_; have GE292 := n3_; clear n0_ n1_ n2_ n3_; clear hb hbox hg) | ((with_reducible refine gate_dst (N := 2) rfl ?_); refine box_event ?hg (N := 2) ?hd (cs := #[.int .i64 0, .slice none 0 0, .string (⟨#[]⟩ : ByteArray)]) (t := 34) ?hr ?_; (case hd => rfl); (case hg => rfl); (case hr => first | (go_simp; done) | (go_simp; rfl)); intro gb293 hg w3 hbox hb; have n0_ := Aside0.mk (blk_below (g := gb292) (o := .cells #[.int .i64 a0_0, .string a0_1] 27 (0, 0)) (by (with_reducible repeat (first | refine blk_drewN ?_ _ | refine blk_drew ?_ | refine blk_alloc ?_ _)); exact BK292.out) hb); have n1_ := Aside0.mk (below_step (by repeat (first | (with_reducible first | exact HB.out | apply below_alloc | apply pw_below_drewN | apply below_drew1 | refine below_set ?_ GE292.out) | exact HB.out)) hb); have n2_ := Aside0.mk (hbox); have n3_ := Aside0.mk ((by rw [hg]; exact (below_size (by repeat (first | (with_reducible first | exact HB.out | apply below_alloc | apply pw_below_drewN | apply below_drew1 | refine below_set ?_ GE292.out) | exact HB.out))) : w.heap.size ≤ gb293)); have n4_ := Aside0.mk ((by rw [hg]; exact (below_size (by repeat (first | (with_reducible first | exact HB.out | apply below_alloc | apply pw_below_drewN | apply below_drew1 | refine below_set ?_ GE292.out) | exact HB.out))) : w.heap.size ≤ gb293)); have n5_ := Aside0.mk ((by rw [hg]; exact Nat.ne_of_lt (blk_lt (g := gb292) (o := .cells #[.int .i64 a0_0, .string a0_1] 27 (0, 0)) (by (with_reducible repeat (first | refine blk_drewN ?_ _ | refine blk_drew ?_ | refine blk_alloc ?_ _)); exact BK292.out)) : gb292 ≠ gb293)); have n6_ := Aside0.mk ((by rw [hg]; exact Nat.ne_of_gt (blk_lt (g := gb292) (o := .cells #[.int .i64 a0_0, .string a0_1] 27 (0, 0)) (by (with_reducible repeat (first | refine blk_drewN ?_ _ | refine blk_drew ?_ | refine blk_alloc ?_ _)); exact BK292.out)) : gb293 ≠ gb292)); clear BK292; clear HB; have BK292 := n0_; have HB := n1_; have BK293 := n2_; have GW293 := n3_; have GE293 := n4_; have NB292_293 := n5_; have NB293_292 := n6_; clear n0_ n1_ n2_ n3_ n4_ n5_ n6_; clear hb hbox hg; have hnb4 := NB292_293.out; have hnc4 := NB293_292.out; have hcz5_0 : w3.cell? ⟨gb292, 0, none⟩ = some (.int .i64 a0_0) := (blk_cell BK292.out 0).trans rfl; have hcz5_1 : w3.cell? ⟨gb292, 1, none⟩ = some (.string a0_1) := (blk_cell BK292.out 1).trans rfl; have hfz5_0 := blk_frozen BK292.out 0; have hfz5_1 := blk_frozen BK292.out 1) | ((with_reducible refine gate_dst (N := 5) rfl ?_); refine Kd.R_lit (Kd.int .i64) _ 3 ?hg (N := 5) ?hd (xs := ([a0_0] : List Int)) (inner := [.int .i64 a0_0]) (ok := fun _ => True) (okp := fun _ => True) ?hr ?hp (fun _ hk => hk) trivial (Below.refl _ _) (Nat.le_refl _) (by simp) ?_; (case hd => rfl); (case hg => rfl); (case hr => first | (go_simp; done) | (go_simp; rfl)); (case hp => exact (Reps.one (show Kd.M (Kd.int .i64) _ _ _ a0_0 [.int .i64 a0_0] from rfl) (Reps.none _ _))); intro v295 w6 ho7 hb hg_ hnew_; clear hg_ hnew_; (first | rw [← Ny294.out] at ho7 | (simp only [Int.reduceToNat] at ho7; rw [← Ny294.out] at ho7)); have n0_ := Aside0.mk (Kd.R_lower ho7 (below_size (by repeat (first | (with_reducible first | exact HB.out | apply below_alloc | apply pw_below_drewN | apply below_drew1 | refine below_set ?_ GE292.out | refine below_set ?_ GE293.out) | exact HB.out)))); have n1_ := Aside0.mk (blk_below (g := gb292) (o := .cells #[.int .i64 a0_0, .string a0_1] 27 (0, 0)) (by (with_reducible repeat (first | refine blk_drewN ?_ _ | refine blk_drew ?_ | refine blk_alloc ?_ _)); exact BK292.out) hb); have n2_ := Aside0.mk (blk_below (g := gb293) (o := .cells #[.int .i64 0, .slice none 0 0, .string (⟨#[]⟩ : ByteArray)] 34 (0, 0)) (by (with_reducible repeat (first | refine blk_drewN ?_ _ | refine blk_drew ?_ | refine blk_alloc ?_ _)); exact BK293.out) hb); have n3_ := Aside0.mk (below_step (by repeat (first | (with_reducible first | exact HB.out | apply below_alloc | apply pw_below_drewN | apply below_drew1 | refine below_set ?_ GE292.out | refine below_set ?_ GE293.out) | exact HB.out)) hb); clear BK292; clear BK293; clear HB; have HO296 := n0_; have BK292 := n1_; have BK293 := n2_; have HB := n3_; clear n0_ n1_ n2_ n3_; clear hb ho7; have hcz8_0 : w6.cell? ⟨gb292, 0, none⟩ = some (.int .i64 a0_0) := (blk_cell BK292.out 0).trans rfl; have hcz8_1 : w6.cell? ⟨gb292, 1, none⟩ = some (.string a0_1) := (blk_cell BK292.out 1).trans rfl; have hfz8_0 := blk_frozen BK292.out 0; have hfz8_1 := blk_frozen BK292.out 1; obtain ⟨Ao9, co9, eo9⟩ := Kd.R_slice HO296.out; subst eo9; have hcz10_0 : w6.cell? ⟨gb293, 0, none⟩ = some (.int .i64 0) := (blk_cell BK293.out 0).trans rfl; have hcz10_1 : w6.cell? ⟨gb293, 1, none⟩ = some (.slice none 0 0) := (blk_cell BK293.out 1).trans rfl; have hcz10_2 : w6.cell? ⟨gb293, 2, none⟩ = some (.string (⟨#[]⟩ : ByteArray)) := (blk_cell BK293.out 2).trans rfl; have hfz10_0 := blk_frozen BK293.out 0; have hfz10_1 := blk_frozen BK293.out 1; have hfz10_2 := blk_frozen BK293.out 2))
  refine bodyPost_ret (results_cell_row rfl _ _ gb293 34 #[.int .i64 3, .slice Ao9 y294.length co9, .string a0_1] (0, 0) _ rfl (by (with_reducible repeat (first | refine blk_drewN ?_ _ | refine blk_drew ?_ | refine blk_alloc ?_ _)); refine blk_put (cs := #[.int .i64 3, .slice Ao9 y294.length co9, .string (⟨#[]⟩ : ByteArray)]) ?_ 2 _ rfl; (with_reducible repeat (first | refine blk_drewN ?_ _ | refine blk_drew ?_ | refine blk_alloc ?_ _)); refine blk_put (cs := #[.int .i64 3, .slice none 0 0, .string (⟨#[]⟩ : ByteArray)]) ?_ 1 _ rfl; (with_reducible repeat (first | refine blk_drewN ?_ _ | refine blk_drew ?_ | refine blk_alloc ?_ _)); refine blk_put (cs := #[.int .i64 0, .slice none 0 0, .string (⟨#[]⟩ : ByteArray)]) ?_ 0 _ rfl; (with_reducible repeat (first | refine blk_drewN ?_ _ | refine blk_drew ?_ | refine blk_alloc ?_ _)); exact BK293.out) Tryd.underlying34 rfl (by kernel_rfl)) rfl ?_
  exact ⟨_, by first | rfl | (simp [errW_none, errW_some] <;> rfl) | (simp [*, errW_none, errW_some] <;> rfl), by (with_reducible repeat (first | apply Kd.R_alloc | apply Kd.R_drewN | apply Kd.R_drew)); exact Kd.R_mono (Kd.R_far (p := ⟨gb293, 2, none⟩) (Kd.R_far (p := ⟨gb293, 1, none⟩) (Kd.R_far (p := ⟨gb293, 0, none⟩) (Kd.R_types HO296.out BK293.out (by decide)) (fun _ hk => hk.2) (.int .i64 3)) (fun _ hk => hk.2) (.slice Ao9 y294.length co9)) (fun _ hk => hk.2) (.string a0_1)) (fun _ hk => trivial), by repeat (first | (with_reducible first | exact HB.out | apply below_alloc | apply pw_below_drewN | apply below_drew1 | refine below_set ?_ GE292.out | refine below_set ?_ GE293.out) | exact HB.out)⟩
def record_Home_right.f (a0_0 : Int) (a0_1 : ByteArray) : Option (Bool) := if a0_0 ≥ 0 then (some (decide ((a0_1.size : Int) ≤ 160))) else (some false)
set_option maxHeartbeats 8000000 in
set_option maxRecDepth 100000 in
theorem record_Home_right.calls (a0_0 : Int) (a0_1 : ByteArray) (r : Bool) (w : World) (h : record_Home_right.f a0_0 a0_1 = some r) :
    Calls Tryd.prog 35 #[.agg #[.int .i64 a0_0, .string a0_1]] w fun e w' => e = .returned (.bool r) ∧ Below w.heap.size w w' := by
  have hu27 := Tryd.underlying27
  have HB := Aside0.mk (Below.refl w.heap.size w)
  have H : (if a0_0 ≥ 0 then (some (decide ((a0_1.size : Int) ≤ 160))) else (some false)) = some r := h
  clear h
  by_cases c2 : a0_0 ≥ 0
  · rw [if_pos c2] at H
    have c2b0 : decide (0 ≤ a0_0) = true := decide_eq_true c2
    clear c2
    obtain rfl := Option.some.inj H
    go_enter Tryd.func35, Tryd.ntmps35
    go_wp2_with (first | ((with_reducible refine gate_dst (N := 1) rfl ?_); (try (refine gate_guard (by rfl) ?_; dsimp only)); refine box_event ?hg (N := 1) ?hd (cs := #[.int .i64 a0_0, .string a0_1]) (t := 27) ?hr ?_; (case hd => rfl); (case hg => rfl); (case hr => first | (go_simp; done) | (go_simp; rfl)); intro gb297 hg w3 hbox hb; have n0_ := Aside0.mk (below_step (by repeat (first | (with_reducible first | exact HB.out | apply below_alloc | apply pw_below_drewN | apply below_drew1) | exact HB.out)) hb); have n1_ := Aside0.mk (hbox); have n2_ := Aside0.mk ((by rw [hg]; exact (below_size (by repeat (first | (with_reducible first | exact HB.out | apply below_alloc | apply pw_below_drewN | apply below_drew1) | exact HB.out))) : w.heap.size ≤ gb297)); have n3_ := Aside0.mk ((by rw [hg]; exact (below_size (by repeat (first | (with_reducible first | exact HB.out | apply below_alloc | apply pw_below_drewN | apply below_drew1) | exact HB.out))) : w.heap.size ≤ gb297)); clear HB; have HB := n0_; have BK297 := n1_; have GW297 := n2_; have GE297 := n3_; clear n0_ n1_ n2_ n3_; clear hb hbox hg; have hcz4_0 : w3.cell? ⟨gb297, 0, none⟩ = some (.int .i64 a0_0) := (blk_cell BK297.out 0).trans rfl; have hcz4_1 : w3.cell? ⟨gb297, 1, none⟩ = some (.string a0_1) := (blk_cell BK297.out 1).trans rfl; have hfz4_0 := blk_frozen BK297.out 0; have hfz4_1 := blk_frozen BK297.out 1))
    go_ret
    exact ⟨by first | rfl | (simp [errW_none, errW_some] <;> rfl) | (simp [*, errW_none, errW_some] <;> rfl), by repeat (first | (with_reducible first | exact HB.out | apply below_alloc | apply pw_below_drewN | apply below_drew1 | refine below_set ?_ GE297.out) | exact HB.out)⟩
  · rw [if_neg c2] at H
    have c2b0 : decide (0 ≤ a0_0) = false := decide_eq_false c2
    clear c2
    obtain rfl := Option.some.inj H
    go_enter Tryd.func35, Tryd.ntmps35
    go_wp2_with (first | ((with_reducible refine gate_dst (N := 1) rfl ?_); (try (refine gate_guard (by rfl) ?_; dsimp only)); refine box_event ?hg (N := 1) ?hd (cs := #[.int .i64 a0_0, .string a0_1]) (t := 27) ?hr ?_; (case hd => rfl); (case hg => rfl); (case hr => first | (go_simp; done) | (go_simp; rfl)); intro gb297 hg w5 hbox hb; have n0_ := Aside0.mk (below_step (by repeat (first | (with_reducible first | exact HB.out | apply below_alloc | apply pw_below_drewN | apply below_drew1) | exact HB.out)) hb); have n1_ := Aside0.mk (hbox); have n2_ := Aside0.mk ((by rw [hg]; exact (below_size (by repeat (first | (with_reducible first | exact HB.out | apply below_alloc | apply pw_below_drewN | apply below_drew1) | exact HB.out))) : w.heap.size ≤ gb297)); have n3_ := Aside0.mk ((by rw [hg]; exact (below_size (by repeat (first | (with_reducible first | exact HB.out | apply below_alloc | apply pw_below_drewN | apply below_drew1) | exact HB.out))) : w.heap.size ≤ gb297)); clear HB; have HB := n0_; have BK297 := n1_; have GW297 := n2_; have GE297 := n3_; clear n0_ n1_ n2_ n3_; clear hb hbox hg; have hcz6_0 : w5.cell? ⟨gb297, 0, none⟩ = some (.int .i64 a0_0) := (blk_cell BK297.out 0).trans rfl; have hcz6_1 : w5.cell? ⟨gb297, 1, none⟩ = some (.string a0_1) := (blk_cell BK297.out 1).trans rfl; have hfz6_0 := blk_frozen BK297.out 0; have hfz6_1 := blk_frozen BK297.out 1))
    go_ret
    exact ⟨by first | rfl | (simp [errW_none, errW_some] <;> rfl) | (simp [*, errW_none, errW_some] <;> rfl), by repeat (first | (with_reducible first | exact HB.out | apply below_alloc | apply pw_below_drewN | apply below_drew1 | refine below_set ?_ GE297.out) | exact HB.out)⟩
end
end Go.Proofs.YtmkkeccmjejfnaaDoor.PA
namespace Go.Proofs.YtmkkeccmjejfnaaDoor.PA
section

open Go.RowKit Go.Proofs.YtmkkeccmjejfnaaDoorW.PrintWords Go.Proofs.YtmkkeccmjejfnaaDoorW.PrintLast Go.Proofs.YtmkkeccmjejfnaaDoorW.PrintMore
attribute [local go_sem] pr_leq pr_geq pr_gtr max2_int min2_int max_two min_two max_three min_three max_four min_four
set_option linter.unusedVariables false
set_option linter.unusedSimpArgs false
def record_EncodeHome.f (k : Nat) (a0_0 : Int) (a0_1 : ByteArray) : Option (List Int × Int) := (record_Home_right.f a0_0 a0_1).bind fun t299 => (if t299 = true then ((record_numbers.f k (([3, a0_0] : List Int))).bind fun t303 => ((record_text.f a0_1).bind fun bt306 => (if t303.length < 4398046511104 then ((record_sector.f k (t303 ++ [(⟨bt306.1, bt306.2.1, bt306.2.2⟩ : S77)])).bind fun bt312 => (some (bt312.1, bt312.2))) else (none)))) else (some (([] : List Int), 2)))
def record_EncodeHome.T3 : Bool × List (List Nat × List Nat) := (true, [([], []), ([0], [0]), ([1], [1]), ([2], [2]), ([], []), ([4], [4]), ([5, 3], [5]), ([6], [6]), ([3, 7, 6], [3, 7]), ([8, 8], [8]), ([9], [9]), ([9], [9]), ([10, 9, 0, 1, 2, 3, 4, 5, 6, 7, 8, 9, 10, 11], [10]), ([11, 12, 0, 1, 2, 3, 4, 5, 6, 7, 8, 9, 10, 11, 12], [11])])
def record_EncodeHome.B3 : List Nat := [0, 1, 3, 7, 0, 16, 63, 127, 255, 511, 1023, 1023, 4095, 8191]
theorem record_EncodeHome.tab3 : rtab .any (opsOf Tryd.f17 3) = record_EncodeHome.T3 := by kernel_rfl
theorem record_EncodeHome.bits3 : waitsOk record_EncodeHome.T3.2 record_EncodeHome.B3 = true := by kernel_rfl
set_option maxHeartbeats 8000000 in
set_option maxRecDepth 100000 in
theorem record_EncodeHome.calls (k : Nat) (a0_0 : Int) (a0_1 : ByteArray) (r1 : List Int) (r2 : Int) (w : World) (h : record_EncodeHome.f k a0_0 a0_1 = some (r1, r2)) :
    Calls Tryd.prog 17 #[.agg #[.int .i64 a0_0, .string a0_1]] w fun e w' => ∃ v0_ : Value, e = .returned (.tuple #[v0_, .int .i64 r2]) ∧ Kd.R (Kd.int .u8) 5 w' w.heap.size (fun _ => True) v0_ r1 ∧ Below w.heap.size w w' := by
  have hu27 := Tryd.underlying27
  have HB := Aside0.mk (Below.refl w.heap.size w)
  have H : ((record_Home_right.f a0_0 a0_1).bind fun t299 => (if t299 = true then ((record_numbers.f k (([3, a0_0] : List Int))).bind fun t303 => ((record_text.f a0_1).bind fun bt306 => (if t303.length < 4398046511104 then ((record_sector.f k (t303 ++ [(⟨bt306.1, bt306.2.1, bt306.2.2⟩ : S77)])).bind fun bt312 => (some (bt312.1, bt312.2))) else (none)))) else (some (([] : List Int), 2)))) = some (r1, r2) := h
  clear h
  replace H := Option.bind_eq_some_iff.mp H
  obtain ⟨t299, A20, H⟩ := H
  replace H : (if t299 = true then ((record_numbers.f k (([3, a0_0] : List Int))).bind fun t303 => ((record_text.f a0_1).bind fun bt306 => (if t303.length < 4398046511104 then ((record_sector.f k (t303 ++ [(⟨bt306.1, bt306.2.1, bt306.2.2⟩ : S77)])).bind fun bt312 => (some (bt312.1, bt312.2))) else (none)))) else (some (([] : List Int), 2))) = some (r1, r2) := H
  have A2 := Aside0.mk A20
  clear A20
  by_cases c3 : t299 = true
  · subst c3
    have H1 : ((record_numbers.f k (([3, a0_0] : List Int))).bind fun t303 => ((record_text.f a0_1).bind fun bt306 => (if t303.length < 4398046511104 then ((record_sector.f k (t303 ++ [(⟨bt306.1, bt306.2.1, bt306.2.2⟩ : S77)])).bind fun bt312 => (some (bt312.1, bt312.2))) else (none)))) = some (r1, r2) := by rw [if_pos rfl] at H; exact H
    clear H
    have H := H1
    clear H1
    obtain ⟨y300, hy300⟩ : ∃ y_ : List Int, y_ = (([3, a0_0] : List Int)) := ⟨_, rfl⟩
    replace H : ((record_numbers.f k y300).bind fun t303 => ((record_text.f a0_1).bind fun bt306 => (if t303.length < 4398046511104 then ((record_sector.f k (t303 ++ [(⟨bt306.1, bt306.2.1, bt306.2.2⟩ : S77)])).bind fun bt312 => (some (bt312.1, bt312.2))) else (none)))) = some (r1, r2) := by first | (rw [hy300]; with_reducible exact H) | (have H2_ := (Option.bind_some _ _).symm.trans H; rw [hy300]; with_reducible exact H2_) | (have H2_ := (Option.bind_some _ _).symm.trans H; with_reducible exact H2_) | with_reducible exact H | (rw [hy300]; exact H) | exact H
    have Ny300 := Aside0.mk hy300
    clear hy300
    replace H := Option.bind_eq_some_iff.mp H
    obtain ⟨t303, A40, H⟩ := H
    replace H : ((record_text.f a0_1).bind fun bt306 => (if t303.length < 4398046511104 then ((record_sector.f k (t303 ++ [(⟨bt306.1, bt306.2.1, bt306.2.2⟩ : S77)])).bind fun bt312 => (some (bt312.1, bt312.2))) else (none))) = some (r1, r2) := H
    have A4 := Aside0.mk A40
    clear A40
    replace H := Option.bind_eq_some_iff.mp H
    obtain ⟨⟨t306, t307, t308⟩, A50, H⟩ := H
    replace H : (if t303.length < 4398046511104 then ((record_sector.f k (t303 ++ [(⟨t306, t307, t308⟩ : S77)])).bind fun bt312 => (some (bt312.1, bt312.2))) else (none)) = some (r1, r2) := H
    have A5 := Aside0.mk A50
    clear A50
    by_cases c6 : t303.length < 4398046511104
    · rw [if_pos c6] at H
      have LMc6 := Aside0.mk c6
      clear c6
      obtain ⟨y309, hy309⟩ : ∃ y_ : List (S77), y_ = (t303 ++ [(⟨t306, t307, t308⟩ : S77)]) := ⟨_, rfl⟩
      replace H : ((record_sector.f k y309).bind fun bt312 => (some (bt312.1, bt312.2))) = some (r1, r2) := by first | (rw [hy309]; with_reducible exact H) | (have H2_ := (Option.bind_some _ _).symm.trans H; rw [hy309]; with_reducible exact H2_) | (have H2_ := (Option.bind_some _ _).symm.trans H; with_reducible exact H2_) | with_reducible exact H | (rw [hy309]; exact H) | exact H
      have Ny309 := Aside0.mk hy309
      clear hy309
      replace H := Option.bind_eq_some_iff.mp H
      obtain ⟨⟨t312, t313⟩, A70, H⟩ := H
      replace H : (some (t312, t313)) = some (r1, r2) := H
      have A7 := Aside0.mk A70
      clear A70
      simp only [Option.some.injEq, Prod.mk.injEq] at H
      obtain ⟨rfl, rfl⟩ := H
      go_enter Tryd.func17, Tryd.ntmps17
      try go_wp2_with (first | ((with_reducible refine gate_dst (N := 1) rfl ?_); refine box_event ?hg (N := 1) ?hd (cs := #[.int .i64 a0_0, .string a0_1]) (t := 27) ?hr ?_; (case hd => rfl); (case hg => rfl); (case hr => first | (go_simp; done) | (go_simp; rfl)); intro gb298 hg w8 hbox hb; have n0_ := Aside0.mk (below_step (by repeat (first | (with_reducible first | exact HB.out | apply below_alloc | apply pw_below_drewN | apply below_drew1) | exact HB.out)) hb); have n1_ := Aside0.mk (hbox); have n2_ := Aside0.mk ((by rw [hg]; exact (below_size (by repeat (first | (with_reducible first | exact HB.out | apply below_alloc | apply pw_below_drewN | apply below_drew1) | exact HB.out))) : w.heap.size ≤ gb298)); have n3_ := Aside0.mk ((by rw [hg]; exact (below_size (by repeat (first | (with_reducible first | exact HB.out | apply below_alloc | apply pw_below_drewN | apply below_drew1) | exact HB.out))) : w.heap.size ≤ gb298)); clear HB; have HB := n0_; have BK298 := n1_; have GW298 := n2_; have GE298 := n3_; clear n0_ n1_ n2_ n3_; clear hb hbox hg; have hcz9_0 : w8.cell? ⟨gb298, 0, none⟩ = some (.int .i64 a0_0) := (blk_cell BK298.out 0).trans rfl; have hcz9_1 : w8.cell? ⟨gb298, 1, none⟩ = some (.string a0_1) := (blk_cell BK298.out 1).trans rfl; have hfz9_0 := blk_frozen BK298.out 0; have hfz9_1 := blk_frozen BK298.out 1) | ((with_reducible refine gate_callee (f := 35) rfl ?_); refine goesL_ (some 5) rfl rfl Tryd.func35 (by kernel_rfl) rfl #[.agg #[.int .i64 a0_0, .string a0_1]] rfl (by (try simp only [List.map_toArray, List.map_cons, List.map_nil]); first | done | rfl | (simp only [List.length_drop, List.length_take]; rfl)) ?_; (with_reducible refine (record_Home_right.calls a0_0 a0_1 true _ A2.out).mono ?_); rintro e w10 ⟨rfl, hb⟩; refine ⟨_, rfl, ?_⟩; have n0_ := Aside0.mk (blk_below (g := gb298) (o := .cells #[.int .i64 a0_0, .string a0_1] 27 (0, 0)) (by (with_reducible repeat (first | refine blk_drewN ?_ _ | refine blk_drew ?_ | refine blk_alloc ?_ _)); exact BK298.out) hb); have n1_ := Aside0.mk (below_step (by repeat (first | (with_reducible first | exact HB.out | apply below_alloc | apply pw_below_drewN | apply below_drew1 | refine below_set ?_ GE298.out) | exact HB.out)) hb); clear BK298; clear HB; have BK298 := n0_; have HB := n1_; clear n0_ n1_; (try clear hb); (try clear hb2); (try clear hk); (try clear hi)))
      have n0_ := Aside0.mk (blk_drew BK298.out)
      have n1_ := Aside0.mk (below_drew1 HB.out)
      clear BK298
      clear HB
      have BK298 := n0_
      have HB := n1_
      clear n0_ n1_
      refine start_ (n := 14) (S := fun w' => w'.cell? ⟨gb298, 0, none⟩ = some (.int .i64 a0_0) ∧ w'.cell? ⟨gb298, 1, none⟩ = some (.string a0_1)) (ds := []) #[false, false, false, false, false, false, false, false, false, false, false, false, false, false] (by kernel_rfl) rfl rfl ⟨(blk_cell BK298.out 0).trans rfl, (blk_cell BK298.out 1).trans rfl⟩ (fun hHeld => ?_); refine with_tabW record_EncodeHome.tab3 record_EncodeHome.bits3 (fun HT_ HW_ => ?_)
      generalize w10.drew = w11 at BK298 HB hHeld ⊢
      refine pure_ (i := 0) (N := some 7) (v := ?_) (a' := ?_) #[true, false, false, false, false, false, false, false, false, false, false, false, false, false] rfl rfl (any_of HT_.out (by kernel_rfl)) (fun _ _ _ h => h) (Or.inl ⟨by rfl, ?_⟩) ?_ ?_
      rotate_left
      · intro w'
        go_simp
        with_reducible rfl
      rotate_left
      · simp only [Act.put, List.setIfInBounds_toArray, List.set_cons_zero, List.set_cons_succ, i64_w, i32_w]
        rfl
      refine pure_ (i := 4) (N := some 11) (v := ?_) (a' := ?_) #[true, false, false, false, true, false, false, false, false, false, false, false, false, false] rfl rfl (any_of HT_.out (by kernel_rfl)) (fun _ _ _ h => h) (Or.inl ⟨by rfl, ?_⟩) ?_ ?_
      rotate_left
      · intro w'
        go_simp
        with_reducible rfl
      rotate_left
      · simp only [Act.put, List.setIfInBounds_toArray, List.set_cons_zero, List.set_cons_succ, i64_w, i32_w]
        rfl
      refine take_ (i := 1) (N := some 8) (v := ?_) (a' := ?_) #[true, true, false, false, true, false, false, false, false, false, false, false, false, false] rfl rfl (take_ofW HT_.out HW_.out (by kernel_rfl)) (fun _ _ _ h => h) (Or.inl ⟨by rfl, ?_⟩) hHeld ?_ ?_
      rotate_left
      · rintro w' ⟨s0, s1⟩
        go_simp
        with_reducible rfl
      rotate_left
      · simp only [Act.put, List.setIfInBounds_toArray, List.set_cons_zero, List.set_cons_succ, i64_w, i32_w]
        rfl
      refine take_ (i := 5) (N := some 12) (v := ?_) (a' := ?_) #[true, true, false, false, true, true, false, false, false, false, false, false, false, false] rfl rfl (take_ofW HT_.out HW_.out (by kernel_rfl)) (fun _ _ _ h => h) (Or.inl ⟨by rfl, ?_⟩) hHeld ?_ ?_
      rotate_left
      · rintro w' ⟨s0, s1⟩
        go_simp
        with_reducible rfl
      rotate_left
      · simp only [Act.put, List.setIfInBounds_toArray, List.set_cons_zero, List.set_cons_succ, i64_w, i32_w]
        rfl
      refine one_ (i := 2) (N := some 9) #[true, true, true, false, true, true, false, false, false, false, false, false, false, false] rfl rfl (one_of HT_.out (by kernel_rfl)) (by decide) (fun K hK => ?_)
      refine Kd.R_lit_step (Kd.int .i64) _ 3 ?hg (N := 9) ?hd (xs := ([3, a0_0] : List Int)) (inner := [.int .i64 3, .int .i64 a0_0]) (ok := fun _ => True) (okp := fun _ => True) ?hr ?hp (fun _ hk => hk) trivial (Below.refl _ _) (Nat.le_refl _) (by simp) ?_; (case hd => rfl); (case hg => rfl); (case hr => first | (go_simp; done) | (go_simp; rfl)); (case hp => exact (Reps.one (show Kd.M (Kd.int .i64) _ _ _ 3 [.int .i64 3] from rfl) (Reps.one (show Kd.M (Kd.int .i64) _ _ _ a0_0 [.int .i64 a0_0] from rfl) (Reps.none _ _))))
      intro v301 w12 ho13 hb hg_ hnew_
      clear hg_ hnew_
      (first | rw [← Ny300.out] at ho13 | (simp only [Int.reduceToNat] at ho13; rw [← Ny300.out] at ho13))
      have n0_ := Aside0.mk (Kd.R_lower ho13 (below_size (by repeat (first | (with_reducible first | exact HB.out | apply below_alloc | apply pw_below_drewN | apply below_drew1 | refine below_set ?_ GE298.out) | exact HB.out))))
      have n1_ := Aside0.mk (blk_below (g := gb298) (o := .cells #[.int .i64 a0_0, .string a0_1] 27 (0, 0)) (by (with_reducible repeat (first | refine blk_drewN ?_ _ | refine blk_drew ?_ | refine blk_alloc ?_ _)); exact BK298.out) hb)
      have n2_ := Aside0.mk (below_step (by repeat (first | (with_reducible first | exact HB.out | apply below_alloc | apply pw_below_drewN | apply below_drew1 | refine below_set ?_ GE298.out) | exact HB.out)) hb)
      clear BK298
      clear HB
      have HO302 := n0_
      have BK298 := n1_
      have HB := n2_
      clear n0_ n1_ n2_
      clear hb ho13
      obtain ⟨Ao14, co14, eo14⟩ := Kd.R_slice HO302.out
      (first | subst eo14 | (injection eo14 with f1_ f2_ f3_; have f4_ := f1_.symm; have f5_ := f3_.symm; clear f1_ f2_ f3_; subst f4_; subst f5_))
      refine hK.out _ _ ⟨(blk_cell BK298.out 0).trans rfl, (blk_cell BK298.out 1).trans rfl⟩ (fun hHeld => ?_)
      clear hK K
      refine norm_ (a' := ?_) ?_ ?_
      rotate_left
      · show Act.put _ (some 9) _ = _
        simp only [Act.put, List.setIfInBounds_toArray, List.set_cons_zero, List.set_cons_succ, i64_w, i32_w]
        rfl
      refine one_ (i := 3) (N := some 10) #[true, true, true, true, true, true, false, false, false, false, false, false, false, false] rfl rfl (one_of HT_.out (by kernel_rfl)) (by decide) (fun K hK => ?_)
      refine goes_ Tryd.func32 (by kernel_rfl) rfl #[.slice Ao14 y300.length co14] (by rfl) rfl rfl (by (try simp only [List.map_toArray, List.map_cons, List.map_nil]); first | done | rfl | (simp only [List.length_drop, List.length_take]; rfl)) ?_
      with_reducible refine (record_numbers.calls k _ _ y300 t303 _ ?side1 ?side2 A4.out).mono ?_
      (case side1 => repeat (first | exact (Kd.R_reads' HO302.out).2.2 | (with_reducible refine Kd.C_alloc ?_ _) | (with_reducible refine Kd.C_drewN ?_ _) | (with_reducible refine Kd.C_drew ?_)))
      (case side2 => exact (Kd.R_reads' HO302.out).2.1)
      rintro e w15 ⟨v304, rfl, ho0, hb⟩
      refine ⟨_, rfl, ?_⟩
      have n0_ := Aside0.mk (Kd.R_below (by (with_reducible repeat (first | apply Kd.R_alloc | apply Kd.R_drewN | apply Kd.R_drew)); exact HO302.out) hb)
      have n1_ := Aside0.mk (Kd.R_lower ho0 (below_size (by repeat (first | (with_reducible first | exact HB.out | apply below_alloc | apply pw_below_drewN | apply below_drew1 | refine below_set ?_ GE298.out) | exact HB.out))))
      have n2_ := Aside0.mk (blk_below (g := gb298) (o := .cells #[.int .i64 a0_0, .string a0_1] 27 (0, 0)) (by (with_reducible repeat (first | refine blk_drewN ?_ _ | refine blk_drew ?_ | refine blk_alloc ?_ _)); exact BK298.out) hb)
      have n3_ := Aside0.mk (below_step (by repeat (first | (with_reducible first | exact HB.out | apply below_alloc | apply pw_below_drewN | apply below_drew1 | refine below_set ?_ GE298.out) | exact HB.out)) hb)
      clear HO302
      clear BK298
      clear HB
      have HO302 := n0_
      have HO305 := n1_
      have BK298 := n2_
      have HB := n3_
      clear n0_ n1_ n2_ n3_
      (try clear hb)
      (try clear hb2)
      (try clear hk)
      (try clear hi)
      (try clear ho0)
      refine hK.out _ _ ⟨(blk_cell BK298.out 0).trans rfl, (blk_cell BK298.out 1).trans rfl⟩ (fun hHeld => ?_)
      clear hK K
      refine norm_ (a' := ?_) ?_ ?_
      rotate_left
      · show Act.put _ (some 10) _ = _
        simp only [Act.put, List.setIfInBounds_toArray, List.set_cons_zero, List.set_cons_succ, i64_w, i32_w]
        rfl
      refine one_ (i := 6) (N := some 13) #[true, true, true, true, true, true, true, false, false, false, false, false, false, false] rfl rfl (one_of HT_.out (by kernel_rfl)) (by decide) (fun K hK => ?_)
      refine goes_ Tryd.func34 (by kernel_rfl) rfl #[.string a0_1] (by rfl) rfl rfl (by (try simp only [List.map_toArray, List.map_cons, List.map_nil]); first | done | rfl | (simp only [List.length_drop, List.length_take]; rfl)) ?_
      with_reducible refine (record_text.calls a0_1 t306 t307 t308 _ A5.out).mono ?_
      rintro e w16 ⟨rfl, hb⟩
      refine ⟨_, rfl, ?_⟩
      have n0_ := Aside0.mk (Kd.R_below (by (with_reducible repeat (first | apply Kd.R_alloc | apply Kd.R_drewN | apply Kd.R_drew)); exact HO302.out) hb)
      have n1_ := Aside0.mk (Kd.R_below (by (with_reducible repeat (first | apply Kd.R_alloc | apply Kd.R_drewN | apply Kd.R_drew)); exact HO305.out) hb)
      have n2_ := Aside0.mk (blk_below (g := gb298) (o := .cells #[.int .i64 a0_0, .string a0_1] 27 (0, 0)) (by (with_reducible repeat (first | refine blk_drewN ?_ _ | refine blk_drew ?_ | refine blk_alloc ?_ _)); exact BK298.out) hb)
      have n3_ := Aside0.mk (below_step (by repeat (first | (with_reducible first | exact HB.out | apply below_alloc | apply pw_below_drewN | apply below_drew1 | refine below_set ?_ GE298.out) | exact HB.out)) hb)
      clear HO302
      clear HO305
      clear BK298
      clear HB
      have HO302 := n0_
      have HO305 := n1_
      have BK298 := n2_
      have HB := n3_
      clear n0_ n1_ n2_ n3_
      (try clear hb)
      (try clear hb2)
      (try clear hk)
      (try clear hi)
      refine hK.out _ _ ⟨(blk_cell BK298.out 0).trans rfl, (blk_cell BK298.out 1).trans rfl⟩ (fun hHeld => ?_)
      clear hK K
      refine norm_ (a' := ?_) ?_ ?_
      rotate_left
      · show Act.put _ (some 13) _ = _
        simp only [Act.put, List.setIfInBounds_toArray, List.set_cons_zero, List.set_cons_succ, i64_w, i32_w]
        rfl
      refine one_ (i := 7) (N := some 14) #[true, true, true, true, true, true, true, true, false, false, false, false, false, false] rfl rfl (one_of HT_.out (by kernel_rfl)) (by decide) (fun K hK => ?_)
      refine value_ (w1 := ?_) (v := ?_) (by rfl) rfl ?_ ?_
      rotate_left 2
      · go_simp
        constructor
        · rfl
        · rfl
      refine hK.out _ _ ⟨(blk_cell (blk_alloc BK298.out _) 0).trans rfl, (blk_cell (blk_alloc BK298.out _) 1).trans rfl⟩ (fun hHeld => ?_)
      clear hK K
      refine norm_ (a' := ?_) ?_ ?_
      rotate_left
      · show Act.put _ (some 14) _ = _
        simp only [Act.put, List.setIfInBounds_toArray, List.set_cons_zero, List.set_cons_succ, i64_w, i32_w]
        rfl
      refine one_ (i := 8) (N := some 15) #[true, true, true, true, true, true, true, true, true, false, false, false, false, false] rfl rfl (one_of HT_.out (by kernel_rfl)) (by decide) (fun K hK => ?_)
      refine Kd.R_append_step k77 (w0 := w) w.heap.size (by rfl) (.tmp 10) (.tmp 14) 74 77 (.agg #[(.int .i64 0), (.int .i64 0), (.string ⟨#[]⟩)]) 32 rfl Tryd.underlying74 info77 rfl (by decide) (by omega) v304 t303 (⟨t306, t307, t308⟩ : S77) [.int .i64 t306, .int .i64 t307, .string t308] (fun _ => True) (fun _ => False) rfl rfl ?aP (fun _ hk => hk.elim) ?aF ?aO ?aB ?aS ?aL ?_
      (case aP => exact k77_mkM _ _ _ (⟨t306, t307, t308⟩ : S77))
      (case aB => exact (by repeat (first | (with_reducible first | exact HB.out | apply below_alloc | apply pw_below_drewN | apply below_drew1 | refine below_set ?_ GE298.out) | exact HB.out)))
      (case aF => exact (fun _ _ => trivial))
      (case aO => exact (by (with_reducible repeat (first | apply Kd.R_alloc | apply Kd.R_drewN | apply Kd.R_drew)); exact HO305.out))
      (case aS => exact (below_size (by repeat (first | (with_reducible first | exact HB.out | apply below_alloc | apply pw_below_drewN | apply below_drew1 | refine below_set ?_ GE298.out) | exact HB.out))))
      (case aL => have := LMc6.out; omega)
      intro v310 w17 ho hb hg hat
      rw [← Ny309.out] at ho
      have n0_ := Aside0.mk (blk_grown (g := gb298) (o := .cells #[.int .i64 a0_0, .string a0_1] 27 (0, 0)) (by (with_reducible repeat (first | refine blk_drewN ?_ _ | refine blk_drew ?_ | refine blk_alloc ?_ _)); exact BK298.out) hg (Kd.R_ne HO305.out BK298.out (by decide)))
      have n1_ := Aside0.mk (Kd.R_over' (by (with_reducible repeat (first | apply Kd.R_alloc | apply Kd.R_drewN | apply Kd.R_drew)); exact HO302.out) (Kd.R_typed (by (with_reducible repeat (first | apply Kd.R_alloc | apply Kd.R_drewN | apply Kd.R_drew)); exact HO305.out)) (by decide) hg)
      have n2_ := Aside0.mk (hb)
      have n3_ := Aside0.mk (ho)
      clear BK298
      clear HO302
      clear HB
      clear HO305
      have BK298 := n0_
      have HO302 := n1_
      have HB := n2_
      have HO311 := n3_
      clear n0_ n1_ n2_ n3_
      clear ho hb hg hat
      obtain ⟨Ao18, co18, eo18⟩ := Kd.R_slice HO311.out
      (first | subst eo18 | (injection eo18 with f1_ f2_ f3_; have f4_ := f1_.symm; have f5_ := f3_.symm; clear f1_ f2_ f3_; subst f4_; subst f5_))
      refine hK.out _ _ ⟨(blk_cell BK298.out 0).trans rfl, (blk_cell BK298.out 1).trans rfl⟩ (fun hHeld => ?_)
      clear hK K
      refine norm_ (a' := ?_) ?_ ?_
      rotate_left
      · show Act.put _ (some 15) _ = _
        simp only [Act.put, List.setIfInBounds_toArray, List.set_cons_zero, List.set_cons_succ, i64_w, i32_w]
        rfl
      refine one_ (i := 9) (N := some 16) #[true, true, true, true, true, true, true, true, true, true, false, false, false, false] rfl rfl (one_of HT_.out (by kernel_rfl)) (by decide) (fun K hK => ?_)
      refine goes_ Tryd.func31 (by kernel_rfl) rfl #[.slice Ao18 y309.length co18] (by rfl) rfl rfl (by (try simp only [List.map_toArray, List.map_cons, List.map_nil]); first | done | rfl | (simp only [List.length_drop, List.length_take]; rfl)) ?_
      with_reducible refine (record_sector.calls k _ _ y309 t312 t313 _ ?side1 ?side2 A7.out).mono ?_
      (case side1 => repeat (first | exact (Kd.R_reads' HO311.out).2.2 | (with_reducible refine Kd.C_alloc ?_ _) | (with_reducible refine Kd.C_drewN ?_ _) | (with_reducible refine Kd.C_drew ?_)))
      (case side2 => exact (Kd.R_reads' HO311.out).2.1)
      rintro e w19 ⟨v314, rfl, ho0, hb⟩
      refine ⟨_, rfl, ?_⟩
      have n0_ := Aside0.mk (Kd.R_below (by (with_reducible repeat (first | apply Kd.R_alloc | apply Kd.R_drewN | apply Kd.R_drew)); exact HO302.out) hb)
      have n1_ := Aside0.mk (Kd.R_below (by (with_reducible repeat (first | apply Kd.R_alloc | apply Kd.R_drewN | apply Kd.R_drew)); exact HO311.out) hb)
      have n2_ := Aside0.mk (Kd.R_lower ho0 (below_size (by repeat (first | (with_reducible first | exact HB.out | apply below_alloc | apply pw_below_drewN | apply below_drew1 | refine below_set ?_ GE298.out) | exact HB.out))))
      have n3_ := Aside0.mk (blk_below (g := gb298) (o := .cells #[.int .i64 a0_0, .string a0_1] 27 (0, 0)) (by (with_reducible repeat (first | refine blk_drewN ?_ _ | refine blk_drew ?_ | refine blk_alloc ?_ _)); exact BK298.out) hb)
      have n4_ := Aside0.mk (below_step (by repeat (first | (with_reducible first | exact HB.out | apply below_alloc | apply pw_below_drewN | apply below_drew1 | refine below_set ?_ GE298.out) | exact HB.out)) hb)
      clear HO302
      clear HO311
      clear BK298
      clear HB
      have HO302 := n0_
      have HO311 := n1_
      have HO315 := n2_
      have BK298 := n3_
      have HB := n4_
      clear n0_ n1_ n2_ n3_ n4_
      (try clear hb)
      (try clear hb2)
      (try clear hk)
      (try clear hi)
      (try clear ho0)
      refine hK.out _ _ ⟨(blk_cell BK298.out 0).trans rfl, (blk_cell BK298.out 1).trans rfl⟩ (fun hHeld => ?_)
      clear hK K
      refine norm_ (a' := ?_) ?_ ?_
      rotate_left
      · show Act.put _ (some 16) _ = _
        simp only [Act.put, List.setIfInBounds_toArray, List.set_cons_zero, List.set_cons_succ, i64_w, i32_w]
        rfl
      refine pure_ (i := 10) (N := some 17) (v := ?_) (a' := ?_) #[true, true, true, true, true, true, true, true, true, true, true, false, false, false] rfl rfl (any_of HT_.out (by kernel_rfl)) (fun _ _ _ h => h) (Or.inl ⟨by rfl, ?_⟩) ?_ ?_
      rotate_left
      · intro w'
        go_simp
        with_reducible rfl
      rotate_left
      · simp only [Act.put, List.setIfInBounds_toArray, List.set_cons_zero, List.set_cons_succ, i64_w, i32_w]
        rfl
      refine pure_ (i := 11) (N := some 18) (v := ?_) (a' := ?_) #[true, true, true, true, true, true, true, true, true, true, true, true, false, false] rfl rfl (any_of HT_.out (by kernel_rfl)) (fun _ _ _ h => h) (Or.inl ⟨by rfl, ?_⟩) ?_ ?_
      rotate_left
      · intro w'
        go_simp
        with_reducible rfl
      rotate_left
      · simp only [Act.put, List.setIfInBounds_toArray, List.set_cons_zero, List.set_cons_succ, i64_w, i32_w]
        rfl
      refine pure_ (i := 12) (N := some 2) (v := ?_) (a' := ?_) #[true, true, true, true, true, true, true, true, true, true, true, true, true, false] rfl rfl (any_of HT_.out (by kernel_rfl)) (fun _ _ _ h => h) (Or.inl ⟨by rfl, ?_⟩) ?_ ?_
      rotate_left
      · intro w'
        go_simp
        with_reducible rfl
      rotate_left
      · simp only [Act.put, List.setIfInBounds_toArray, List.set_cons_zero, List.set_cons_succ, i64_w, i32_w]
        rfl
      refine pure_ (i := 13) (N := some 3) (v := ?_) (a' := ?_) #[true, true, true, true, true, true, true, true, true, true, true, true, true, true] rfl rfl (any_of HT_.out (by kernel_rfl)) (fun _ _ _ h => h) (Or.inl ⟨by rfl, ?_⟩) ?_ ?_
      rotate_left
      · intro w'
        go_simp
        with_reducible rfl
      rotate_left
      · simp only [Act.put, List.setIfInBounds_toArray, List.set_cons_zero, List.set_cons_succ, i64_w, i32_w]
        rfl
      refine done_ (done_of HT_.out (by kernel_rfl)) ?_
      try go_wp2
      go_ret2
      exact ⟨_, by first | rfl | (simp [errW_none, errW_some] <;> rfl) | (simp [*, errW_none, errW_some] <;> rfl), by (with_reducible repeat (first | apply Kd.R_alloc | apply Kd.R_drewN | apply Kd.R_drew)); exact HO315.out, by repeat (first | (with_reducible first | exact HB.out | apply below_alloc | apply pw_below_drewN | apply below_drew1 | refine below_set ?_ GE298.out) | exact HB.out)⟩
    · rw [if_neg c6] at H
      exact absurd H (by simp)
  · replace c3 := Bool.eq_false_iff.mpr c3
    subst c3
    have H1 : (some (([] : List Int), 2)) = some (r1, r2) := by rw [if_neg (show ¬ (false = true) by decide)] at H; exact H
    clear H
    have H := H1
    clear H1
    simp only [Option.some.injEq, Prod.mk.injEq] at H
    obtain ⟨rfl, rfl⟩ := H
    go_enter Tryd.func17, Tryd.ntmps17
    go_wp2_with (first | ((with_reducible refine gate_dst (N := 1) rfl ?_); refine box_event ?hg (N := 1) ?hd (cs := #[.int .i64 a0_0, .string a0_1]) (t := 27) ?hr ?_; (case hd => rfl); (case hg => rfl); (case hr => first | (go_simp; done) | (go_simp; rfl)); intro gb298 hg w20 hbox hb; have n0_ := Aside0.mk (below_step (by repeat (first | (with_reducible first | exact HB.out | apply below_alloc | apply pw_below_drewN | apply below_drew1) | exact HB.out)) hb); have n1_ := Aside0.mk (hbox); have n2_ := Aside0.mk ((by rw [hg]; exact (below_size (by repeat (first | (with_reducible first | exact HB.out | apply below_alloc | apply pw_below_drewN | apply below_drew1) | exact HB.out))) : w.heap.size ≤ gb298)); have n3_ := Aside0.mk ((by rw [hg]; exact (below_size (by repeat (first | (with_reducible first | exact HB.out | apply below_alloc | apply pw_below_drewN | apply below_drew1) | exact HB.out))) : w.heap.size ≤ gb298)); clear HB; have HB := n0_; have BK298 := n1_; have GW298 := n2_; have GE298 := n3_; clear n0_ n1_ n2_ n3_; clear hb hbox hg; have hcz21_0 : w20.cell? ⟨gb298, 0, none⟩ = some (.int .i64 a0_0) := (blk_cell BK298.out 0).trans rfl; have hcz21_1 : w20.cell? ⟨gb298, 1, none⟩ = some (.string a0_1) := (blk_cell BK298.out 1).trans rfl; have hfz21_0 := blk_frozen BK298.out 0; have hfz21_1 := blk_frozen BK298.out 1) | ((with_reducible refine gate_callee (f := 35) rfl ?_); refine goesL_ (some 5) rfl rfl Tryd.func35 (by kernel_rfl) rfl #[.agg #[.int .i64 a0_0, .string a0_1]] rfl (by (try simp only [List.map_toArray, List.map_cons, List.map_nil]); first | done | rfl | (simp only [List.length_drop, List.length_take]; rfl)) ?_; (with_reducible refine (record_Home_right.calls a0_0 a0_1 false _ A2.out).mono ?_); rintro e w22 ⟨rfl, hb⟩; refine ⟨_, rfl, ?_⟩; have n0_ := Aside0.mk (blk_below (g := gb298) (o := .cells #[.int .i64 a0_0, .string a0_1] 27 (0, 0)) (by (with_reducible repeat (first | refine blk_drewN ?_ _ | refine blk_drew ?_ | refine blk_alloc ?_ _)); exact BK298.out) hb); have n1_ := Aside0.mk (below_step (by repeat (first | (with_reducible first | exact HB.out | apply below_alloc | apply pw_below_drewN | apply below_drew1 | refine below_set ?_ GE298.out) | exact HB.out)) hb); clear BK298; clear HB; have BK298 := n0_; have HB := n1_; clear n0_ n1_; (try clear hb); (try clear hb2); (try clear hk); (try clear hi)))
    go_ret2
    exact ⟨_, by first | rfl | (simp [errW_none, errW_some] <;> rfl) | (simp [*, errW_none, errW_some] <;> rfl), by first | exact Kd.R_nil _ _ _ _ _ | exact Kd.N_nil _ _ _ _ _ | exact Kd.V_nil _ _ _ _ _ | exact Kd.Q_nil _ _ _ _ _ | exact Kd.S_nil _ _ _ _ _, by repeat (first | (with_reducible first | exact HB.out | apply below_alloc | apply pw_below_drewN | apply below_drew1 | refine below_set ?_ GE298.out) | exact HB.out)⟩
end
end Go.Proofs.YtmkkeccmjejfnaaDoor.PA
namespace Go.Proofs.YtmkkeccmjejfnaaDoor.PA
section

open Go.RowKit Go.Proofs.YtmkkeccmjejfnaaDoorW.PrintWords Go.Proofs.YtmkkeccmjejfnaaDoorW.PrintLast Go.Proofs.YtmkkeccmjejfnaaDoorW.PrintMore
set_option linter.unusedVariables false
set_option linter.unusedSimpArgs false
section
open Go.ChangeShapes Go.WideShapes Go.Deep
variable {H : Type} {enc : TypeId × Value → H} {P : Program} {w : World} {base : Nat} {spare : Nat → Bool} {held : Bool}
end
theorem toList_data (a : ByteArray) : a.toList = a.data.toList := by
  have key : ∀ (d i : Nat) (r : List UInt8), i + d = a.size → ByteArray.toList.loop a i r = r.reverse ++ a.data.toList.drop i := by
    intro d
    induction d with
    | zero =>
      intro i r h
      unfold ByteArray.toList.loop
      rw [if_neg (by omega), List.drop_eq_nil_of_le (by simp; show a.size ≤ i; omega), List.append_nil]
    | succ d ih =>
      intro i r h
      have hi : i < a.data.toList.length := by simp; show i < a.size; omega
      unfold ByteArray.toList.loop
      rw [if_pos (by omega), ih (i + 1) _ (by omega), List.drop_eq_getElem_cons hi]
      have : a.get! i = a.data.toList[i] := by
        cases a with
        | mk bs =>
          simp at hi
          show bs[i]! = _
          rw [getElem!_pos bs i hi]
          simp
      simp [this]
  have := key a.size 0 [] (by omega)
  simpa [ByteArray.toList] using this
theorem toList_inj' {a b : ByteArray} : a.toList = b.toList ↔ a = b := by
  rw [toList_data, toList_data]
  constructor
  · intro h; exact ByteArray.ext (Array.toList_inj.1 h)
  · rintro rfl; rfl
theorem strOfNums_append (a b : List Int) : strOfNums a ++ strOfNums b = strOfNums (a ++ b) := by
  apply ByteArray.ext
  simp [strOfNums]
theorem strOfNums_bytesOf (s : ByteArray) : strOfNums (bytesOf s) = s := by
  apply ByteArray.ext
  simp only [strOfNums, bytesOf, List.map_map]
  have : ∀ l : List UInt8, l.map ((fun n : Int => UInt8.ofNat n.toNat) ∘ fun b : UInt8 => ((b.toNat : Nat) : Int)) = l := by
    intro l
    conv => rhs; rw [← List.map_id l]
    refine List.map_congr_left (fun b _ => ?_)
    simp
  rw [this]
theorem bytesOf_byteL (s : ByteArray) : byteL (bytesOf s) := by
  intro b hb
  simp only [bytesOf, List.mem_map] at hb
  obtain ⟨x, _, rfl⟩ := hb
  have := x.toNat_lt
  omega
theorem byteL_append {a b : List Int} (ha : byteL a) (hb : byteL b) : byteL (a ++ b) := by
  intro x hx
  rcases List.mem_append.1 hx with h | h
  · exact ha x h
  · exact hb x h
theorem byteL_leB (x : Int) (n : Nat) : byteL (leB x n) := leB_byte x n
theorem byteL_cons {b : Int} {l : List Int} (h : byteL (b :: l)) : 0 ≤ b ∧ b ≤ 255 ∧ byteL l := ⟨(h b (by simp)).1, (h b (by simp)).2, fun x hx => h x (by simp [hx])⟩
theorem byteL_mk {b : Int} {l : List Int} (h0 : 0 ≤ b) (h1 : b ≤ 255) (h : byteL l) : byteL (b :: l) := by
  intro x hx
  rcases List.mem_cons.1 hx with rfl | hx
  · exact ⟨h0, h1⟩
  · exact h x hx
theorem encI_byteL (x : S77) : byteL (encI x) := by
  unfold encI
  split
  · exact byteL_mk (by omega) (by omega) (byteL_leB _ _)
  · exact byteL_mk (by omega) (by omega) (byteL_append (byteL_leB _ _) (bytesOf_byteL _))
theorem encL_byteL (l : List S77) : byteL (encL l) := by
  intro b hb
  simp only [encL, List.mem_flatMap] at hb
  obtain ⟨x, _, hx⟩ := hb
  exact encI_byteL x b hx
theorem encL_append (l m : List S77) : encL (l ++ m) = encL l ++ encL m := by simp [encL]
theorem encL_cons (x : S77) (l : List S77) : encL (x :: l) = encI x ++ encL l := by simp [encL]
theorem checkV_iff (l : List S77) : pack_checkV l = 0 ↔ l.length ≤ 4000 ∧ ∀ x ∈ l, okB x = true ∧ longB x = false := by
  unfold pack_checkV
  constructor
  · intro h
    by_cases h1 : 4000 < (l.length : Int)
    · rw [if_pos h1] at h; cases h
    rw [if_neg h1] at h
    by_cases h2 : l.any longB = true
    · rw [if_pos h2] at h; cases h
    rw [if_neg h2] at h
    by_cases h3 : l.all okB = true
    · refine ⟨by omega, fun x hx => ⟨List.all_eq_true.1 h3 x hx, ?_⟩⟩
      cases hh : longB x
      · rfl
      · exact absurd (List.any_eq_true.2 ⟨x, hx, hh⟩) h2
    · rw [if_neg h3] at h; cases h
  · rintro ⟨h1, h2⟩
    rw [if_neg (by omega), if_neg (by simp only [List.any_eq_true, not_exists, not_and]; intro x hx; simp [(h2 x hx).2]), if_pos (by simp only [List.all_eq_true]; exact fun x hx => (h2 x hx).1)]
theorem encode_some (l : List S77) : pack_Encode.f l = some (if pack_checkV l = 0 then encL l else [], pack_checkV l) := rfl
def decL : Nat → List S77 → List Int → List S77 × Int
  | 0, acc, _ => (acc, 0)
  | n + 1, acc, b =>
    match b with
    | [] => (acc, 0)
    | c :: r =>
      if c = 1 ∧ 8 ≤ r.length then
        (if (acc ++ [(⟨1, wrap64 (getV (r.take 8)), ⟨#[]⟩⟩ : S77)]).length > 4000 then ([], 2) else decL n (acc ++ [(⟨1, wrap64 (getV (r.take 8)), ⟨#[]⟩⟩ : S77)]) (r.drop 8))
      else if c = 2 ∧ 2 ≤ r.length then
        (if getV (r.take 2) > 50000 ∨ getV (r.take 2) > (r.length : Int) - 2 then ([], 2)
         else if (acc ++ [(⟨2, 0, strOfNums ((r.drop 2).take (getV (r.take 2)).toNat)⟩ : S77)]).length > 4000 then ([], 2)
         else decL n (acc ++ [(⟨2, 0, strOfNums ((r.drop 2).take (getV (r.take 2)).toNat)⟩ : S77)]) (r.drop (2 + (getV (r.take 2)).toNat)))
      else ([], 2)
theorem get_val' (l : List Int) (hl : byteL l) (h8 : l.length ≤ 8) (k : Nat) (hk : 9 ≤ k) : pack_get.f k l = some (getV l) := by
  have h := get_tells l hl h8 l.length k 0 (by omega) (by omega)
  simpa [pack_get.f, getV] using h
theorem getV2 (l : List Int) (hl : byteL l) (h : l.length = 2) : 0 ≤ getV l ∧ getV l ≤ 65535 := by
  have := getV_range l hl
  rw [h] at this
  omega
theorem w64_small (x : Int) (h0 : 0 ≤ x) (h1 : x ≤ 9223372036854775807) : wrap64 x = x := by unfold wrap64; omega
theorem decode_tells : ∀ (n : Nat) (b : List Int) (acc : List S77) (k : Nat), byteL b → b.length ≤ n → b.length ≤ 140737488351232 → acc.length ≤ 4000 → 4 * n + 20 ≤ k → pack_Decode.l0 k b acc = some (decL (n + 1) acc b) := by
  intro n
  induction n with
  | zero =>
    intro b acc k hb hn hl ha hk
    obtain rfl : b = [] := List.eq_nil_of_length_eq_zero (by omega)
    obtain ⟨k, rfl⟩ : ∃ m, k = m + 1 := ⟨k - 1, by omega⟩
    simp [pack_Decode.l0, decL]
  | succ n ih =>
    intro b acc k hb hn hl ha hk
    obtain ⟨k, rfl⟩ : ∃ m, k = m + 4 := ⟨k - 4, by omega⟩
    match b, hb, hn, hl with
    | [], _, _, _ => simp [pack_Decode.l0, decL]
    | c :: r, hb, hn, hl =>
      obtain ⟨hc0, hc1, hr⟩ := byteL_cons hb
      have hrl : r.length ≤ n := by simpa using hn
      have hrl2 : r.length ≤ 140737488351231 := by simp only [List.length_cons] at hl; omega
      have hrd : rd (c :: r) 0 = c := by simp [rd]
      have hd1 : (c :: r).drop 1 = r := rfl
      rw [show k + 4 = (k + 3) + 1 by omega]
      simp only [pack_Decode.l0]
      rw [if_pos (by simp only [List.length_cons]; omega), if_pos (by simp only [List.length_cons]; omega), if_pos (by simp only [List.length_cons]; omega), hrd, hd1]
      simp only [Option.bind_some]
      rw [decL]
      by_cases h1 : c = 1 ∧ 8 ≤ r.length
      · rw [if_pos h1, if_pos h1.1, show k + 3 = (k + 2) + 1 by omega]
        simp only [pack_Decode.j1]
        rw [if_pos (by simpa using (by omega : (8 : Int) ≤ r.length)), if_pos (by omega), get_val' _ (byteL_take hr 8) (by simp; omega) _ (by omega)]
        simp only [Option.bind_some]
        rw [if_pos (by omega)]
        by_cases h4 : (acc ++ [(⟨1, wrap64 (getV (r.take 8)), ⟨#[]⟩⟩ : S77)]).length > 4000
        · rw [if_pos (by omega), if_pos h4]
        · rw [if_neg (by omega), if_neg h4]
          exact ih _ _ _ (byteL_drop hr 8) (by simp; omega) (by simp; omega) (by omega) (by omega)
      · rw [if_neg h1]
        have e1 : (if c = 1 then pack_Decode.j1 (k + 3) acc c r (decide ((r.length : Int) ≥ 8)) else pack_Decode.j1 (k + 3) acc c r false) = pack_Decode.j1 (k + 3) acc c r false := by
          by_cases hc : c = 1
          · rw [if_pos hc]
            congr 1
            simp only [decide_eq_false_iff_not]
            have : ¬ 8 ≤ r.length := fun h => h1 ⟨hc, h⟩
            omega
          · rw [if_neg hc]
        rw [e1, show k + 3 = (k + 2) + 1 by omega]
        simp only [pack_Decode.j1]
        rw [if_neg (by simp)]
        by_cases h2 : c = 2 ∧ 2 ≤ r.length
        · have hg := getV2 (r.take 2) (byteL_take hr 2) (by rw [List.length_take]; omega)
          rw [if_pos h2, if_pos h2.1, show k + 2 = (k + 1) + 1 by omega]
          simp only [pack_Decode.j2]
          rw [if_pos (by simpa using (by omega : (2 : Int) ≤ r.length)), if_pos (by omega), get_val' _ (byteL_take hr 2) (by simp; omega) _ (by omega)]
          simp only [Option.bind_some]
          rw [w64_small _ hg.1 (by omega), w64_small ((r.length : Int) - 2) (by omega) (by omega)]
          generalize hgv : getV (r.take 2) = v at *
          by_cases h5 : v > 50000 ∨ v > (r.length : Int) - 2
          · rw [if_pos h5]
            by_cases h6 : v > 50000
            · rw [if_pos h6]; simp [pack_Decode.j3]
            · rw [if_neg h6, show decide (v > (r.length : Int) - 2) = true by simpa using h5.resolve_left h6]; simp [pack_Decode.j3]
          · rw [if_neg h5, if_neg (by omega), show decide (v > (r.length : Int) - 2) = false by simp; omega]
            simp only [pack_Decode.j3]
            rw [if_neg (by simp), w64_small (2 + v) (by omega) (by omega), if_pos (by omega), if_pos (by omega), if_pos (by omega)]
            simp only [Option.bind_some]
            have et : (2 + v).toNat = 2 + v.toNat := by omega
            rw [if_pos (by omega), et, List.drop_take, show 2 + v.toNat - 2 = v.toNat by omega]
            by_cases h4 : (acc ++ [(⟨2, 0, strOfNums ((r.drop 2).take v.toNat)⟩ : S77)]).length > 4000
            · rw [if_pos (by omega), if_pos h4]
            · rw [if_neg (by omega), if_neg h4]
              exact ih _ _ _ (byteL_drop hr _) (by simp; omega) (by simp; omega) (by omega) (by omega)
        · rw [if_neg h2]
          have e2 : (if c = 2 then pack_Decode.j2 (k + 2) acc r (decide ((r.length : Int) ≥ 2)) else pack_Decode.j2 (k + 2) acc r false) = pack_Decode.j2 (k + 2) acc r false := by
            by_cases hc : c = 2
            · rw [if_pos hc]
              congr 1
              simp only [decide_eq_false_iff_not]
              have : ¬ 2 ≤ r.length := fun h => h2 ⟨hc, h⟩
              omega
            · rw [if_neg hc]
          rw [e2]
          simp [pack_Decode.j2]
def decF (b : List Int) : List S77 × Int := decL (b.length + 1) [] b
theorem decode_val (b : List Int) (hb : byteL b) (hl : b.length ≤ 140737488351232) (k : Nat) (hk : 4 * b.length + 20 ≤ k) : pack_Decode.f k b = some (decF b) :=
  decode_tells b.length b [] k hb (Nat.le_refl _) hl (by simp) hk
def wfI (x : S77) : Prop := (Lit.int .i64 x.f1).wf = true
theorem wf_i64 {x : Int} (h : (Lit.int .i64 x).wf = true) : -9223372036854775808 ≤ x ∧ x ≤ 9223372036854775807 := by
  simpa [Lit.wf, IntKind.min, IntKind.max, IntKind.signed, IntKind.bits] using h
theorem i64_u64 (x : Int) (h0 : -9223372036854775808 ≤ x) (h1 : x ≤ 9223372036854775807) : wrap64 (IntKind.u64.wrap x) = x := by
  have : IntKind.u64.wrap x = x % 18446744073709551616 := by simp [IntKind.wrap, IntKind.signed, IntKind.bits]
  rw [this]; unfold wrap64; omega
theorem dec_enc : ∀ (l : List S77) (acc : List S77) (n : Nat), (∀ x ∈ l, okB x = true ∧ longB x = false ∧ wfI x) → acc.length + l.length ≤ 4000 → (encL l).length < n → decL n acc (encL l) = (acc ++ l, 0) := by
  intro l
  induction l with
  | nil =>
    intro acc n _ _ hn
    obtain ⟨n, rfl⟩ : ∃ m, n = m + 1 := ⟨n - 1, by omega⟩
    simp [encL, decL]
  | cons x l ih =>
    intro acc n h ha hn
    obtain ⟨n, rfl⟩ : ∃ m, n = m + 1 := ⟨n - 1, by omega⟩
    obtain ⟨h1, h2, h3⟩ := h x (by simp)
    have hrest := fun y (hy : y ∈ l) => h y (by simp [hy])
    have hw := wf_i64 h3
    have hur := u64_range x.f1
    simp only [List.length_cons] at ha
    rw [encL_cons] at hn ⊢
    by_cases k1 : x.f0 = 1
    · have e : encI x = 1 :: leB (IntKind.u64.wrap x.f1) 8 := by rw [encI, if_pos k1]
      have hx : x = ⟨1, x.f1, ⟨#[]⟩⟩ := by
        have hs : x.f2 = ⟨#[]⟩ := by
          rw [okB_1 k1] at h1
          exact toList_inj'.1 (by simpa using h1)
        obtain ⟨a, b, c⟩ := x
        simp only at k1 hs
        subst k1 hs
        rfl
      rw [e] at hn ⊢
      simp only [List.cons_append]
      rw [decL, if_pos ⟨rfl, by simp [leB_length]⟩]
      rw [List.take_append_of_le_length (by rw [leB_length]; omega), List.take_of_length_le (by rw [leB_length]; omega), getV_leB _ 8 hur.1 (by simpa using hur.2), i64_u64 _ hw.1 hw.2]
      rw [List.drop_append_of_le_length (by rw [leB_length]; omega), List.drop_eq_nil_of_le (by rw [leB_length]; omega), List.nil_append, ← hx]
      rw [if_neg (by simp; omega), ih _ _ hrest (by simp; omega) (by simp [leB_length] at hn; omega)]
      simp
    · have k2 := kind_ok h1 k1
      have e : encI x = 2 :: (leB (x.f2.size : Int) 2 ++ bytesOf x.f2) := by rw [encI, if_neg k1]
      have hz : x.f2.size ≤ 50000 := by
        simp only [longB, k2, Bool.and_eq_false_iff, decide_eq_false_iff_not] at h2
        rcases h2 with h2 | h2
        · cases h2
        · omega
      have hx : x = ⟨2, 0, x.f2⟩ := by
        rw [okB_2 k2] at h1
        obtain ⟨a, b, c⟩ := x
        simp only [beq_iff_eq] at k2 h1
        subst k2 h1
        rfl
      rw [e] at hn ⊢
      simp only [List.cons_append]
      have t2 : (leB (x.f2.size : Int) 2 ++ bytesOf x.f2 ++ encL l).take 2 = leB (x.f2.size : Int) 2 := by
        rw [List.append_assoc, List.take_append_of_le_length (by rw [leB_length]; omega), List.take_of_length_le (by rw [leB_length]; omega)]
      have d2 : (leB (x.f2.size : Int) 2 ++ bytesOf x.f2 ++ encL l).drop 2 = bytesOf x.f2 ++ encL l := by
        rw [List.append_assoc, List.drop_append_of_le_length (by rw [leB_length]; omega), List.drop_eq_nil_of_le (by rw [leB_length]; omega), List.nil_append]
      have gv : getV (leB (x.f2.size : Int) 2) = (x.f2.size : Int) := getV_leB _ 2 (by omega) (by omega)
      rw [decL, if_neg (by simp), if_pos ⟨rfl, by simp only [List.length_append, leB_length]; omega⟩, t2, gv, if_neg (by simp [leB_length, bytesOf_length]; omega), d2, Int.toNat_natCast]
      rw [List.take_append_of_le_length (by rw [bytesOf_length]; omega), List.take_of_length_le (by rw [bytesOf_length]; omega), strOfNums_bytesOf, ← hx]
      have d3 : (leB (x.f2.size : Int) 2 ++ bytesOf x.f2 ++ encL l).drop (2 + x.f2.size) = encL l := by
        rw [← List.drop_drop, d2, List.drop_append_of_le_length (by rw [bytesOf_length]; omega), List.drop_eq_nil_of_le (by rw [bytesOf_length]; omega), List.nil_append]
      rw [if_neg (by simp; omega), d3, ih _ _ hrest (by simp; omega) (by simp [leB_length] at hn; omega)]
      simp
theorem u64_i64 (x : Int) (h0 : 0 ≤ x) (h1 : x < 18446744073709551616) : IntKind.u64.wrap (wrap64 x) = x := by
  have : ∀ y, IntKind.u64.wrap y = y % 18446744073709551616 := fun y => by simp [IntKind.wrap, IntKind.signed, IntKind.bits]
  rw [this]; unfold wrap64; omega
theorem wfI_wrap (v : Int) (a : Int) (s : ByteArray) : wfI ⟨a, wrap64 v, s⟩ := by
  unfold wfI Lit.wf
  simp [IntKind.min, IntKind.max, IntKind.signed, IntKind.bits]
  unfold wrap64
  omega
theorem enc_dec : ∀ (n : Nat) (acc : List S77) (b : List Int), byteL b → b.length < n → acc.length ≤ 4000 →
    decL n acc b = ([], 2) ∨ ∃ m, decL n acc b = (acc ++ m, 0) ∧ encL m = b ∧ (∀ x ∈ m, okB x = true ∧ longB x = false ∧ wfI x) ∧ acc.length + m.length ≤ 4000 := by
  intro n
  induction n with
  | zero => intro acc b _ h; omega
  | succ n ih =>
    intro acc b hb hn ha
    match b, hb, hn with
    | [], _, _ => exact .inr ⟨[], by simp [decL], by simp [encL], by simp, by simpa using ha⟩
    | c :: r, hb, hn =>
      obtain ⟨hc0, hc1, hr⟩ := byteL_cons hb
      have hrl : r.length < n := by simpa using hn
      rw [decL]
      by_cases h1 : c = 1 ∧ 8 ≤ r.length
      · rw [if_pos h1]
        by_cases h4 : (acc ++ [(⟨1, wrap64 (getV (r.take 8)), ⟨#[]⟩⟩ : S77)]).length > 4000
        · rw [if_pos h4]; exact .inl rfl
        · rw [if_neg h4]
          rcases ih (acc ++ [(⟨1, wrap64 (getV (r.take 8)), ⟨#[]⟩⟩ : S77)]) (r.drop 8) (byteL_drop hr 8) (by simp; omega) (by omega) with h | ⟨m, hm, he, hw, hl⟩
          · exact .inl h
          · refine .inr ⟨⟨1, wrap64 (getV (r.take 8)), ⟨#[]⟩⟩ :: m, by rw [hm]; simp, ?_, ?_, by simp at hl ⊢; omega⟩
            · have hlen : (r.take 8).length = 8 := by rw [List.length_take]; omega
              have hg := getV_range (r.take 8) (byteL_take hr 8)
              rw [hlen] at hg
              rw [encL_cons, he, encI, if_pos rfl, u64_i64 _ hg.1 (by simpa using hg.2)]
              have h8 := leB_getV (r.take 8) (byteL_take hr 8)
              rw [hlen] at h8
              rw [h8, h1.1]
              simp
            · intro x hx
              rcases List.mem_cons.1 hx with rfl | hx
              · exact ⟨by simp [okB, toList_data], by simp [longB], wfI_wrap _ _ _⟩
              · exact hw x hx
      · rw [if_neg h1]
        by_cases h2 : c = 2 ∧ 2 ≤ r.length
        · rw [if_pos h2]
          have hlen : (r.take 2).length = 2 := by rw [List.length_take]; omega
          have hg := getV2 (r.take 2) (byteL_take hr 2) hlen
          have h8 := leB_getV (r.take 2) (byteL_take hr 2)
          rw [hlen] at h8
          generalize hgv : getV (r.take 2) = v at *
          by_cases h5 : v > 50000 ∨ v > (r.length : Int) - 2
          · rw [if_pos h5]; exact .inl rfl
          · rw [if_neg h5]
            by_cases h4 : (acc ++ [(⟨2, 0, strOfNums ((r.drop 2).take v.toNat)⟩ : S77)]).length > 4000
            · rw [if_pos h4]; exact .inl rfl
            · rw [if_neg h4]
              rcases ih (acc ++ [(⟨2, 0, strOfNums ((r.drop 2).take v.toNat)⟩ : S77)]) (r.drop (2 + v.toNat)) (byteL_drop hr _) (by simp; omega) (by omega) with h | ⟨m, hm, he, hw, hl⟩
              · exact .inl h
              · have hsz : (strOfNums ((r.drop 2).take v.toNat)).size = v.toNat := by rw [size_strOfNums]; simp; omega
                refine .inr ⟨⟨2, 0, strOfNums ((r.drop 2).take v.toNat)⟩ :: m, by rw [hm]; simp, ?_, ?_, by simp at hl ⊢; omega⟩
                · rw [encL_cons, he, encI, if_neg (by simp)]
                  simp only [hsz]
                  rw [show ((v.toNat : Nat) : Int) = v by omega, h8, bytesOf_strOfNums _ (byteL_take (byteL_drop hr 2) _), h2.1]
                  simp only [List.cons_append]
                  congr 1
                  rw [List.append_assoc, ← List.drop_drop, List.take_append_drop, List.take_append_drop]
                · intro x hx
                  rcases List.mem_cons.1 hx with rfl | hx
                  · refine ⟨by simp [okB], ?_, by show (Lit.int .i64 0).wf = true; decide⟩
                    simp only [longB, hsz, Bool.and_eq_false_iff, decide_eq_false_iff_not]
                    right; omega
                  · exact hw x hx
        · rw [if_neg h2]; exact .inl rfl
theorem decF_enc (l : List S77) (hc : pack_checkV l = 0) (hw : ∀ x ∈ l, wfI x) : decF (encL l) = (l, 0) := by
  obtain ⟨h1, h2⟩ := (checkV_iff l).1 hc
  have := dec_enc l [] ((encL l).length + 1) (fun x hx => ⟨(h2 x hx).1, (h2 x hx).2, hw x hx⟩) (by simpa using h1) (by omega)
  simpa [decF] using this
theorem decF_tells (b : List Int) (hb : byteL b) : decF b = ([], 2) ∨ ∃ m, decF b = (m, 0) ∧ encL m = b ∧ pack_checkV m = 0 ∧ ∀ x ∈ m, wfI x := by
  rcases enc_dec (b.length + 1) [] b hb (by omega) (by simp) with h | ⟨m, h1, h2, h3, h4⟩
  · exact .inl h
  · exact .inr ⟨m, by simpa [decF] using h1, h2, (checkV_iff m).2 ⟨by simpa using h4, fun x hx => ⟨(h3 x hx).1, (h3 x hx).2.1⟩⟩, fun x hx => (h3 x hx).2.2⟩
def sealL (l : List Int) : List Int := l ++ leB (crcV l) 4
theorem sealL_length (l : List Int) : (sealL l).length = l.length + 4 := by simp [sealL, leB_length]
theorem sealL_byteL {l : List Int} (h : byteL l) : byteL (sealL l) := byteL_append h (byteL_leB _ _)
theorem seal_val (l : List Int) (hl : byteL l) (hm : l.length ≤ 140737488351232) : pack_Seal.f (10 * l.length + 20) l = some (sealL l) := by
  have hcr := crcV_range l hl
  have h1 : pack_Crc.f (10 * l.length + 20) l = some (crcV l) := by
    have h := crc_tells l hl (by omega) l.length (10 * l.length + 20) 0 4294967295 (by decide) (by omega) (by omega)
    simpa [pack_Crc.f, crcV] using h
  have h2 : pack_put.f (10 * l.length + 20) l (crcV l) 4 = some (l ++ leB (crcV l) 4) := by
    rw [pack_put.f]
    exact put_tells 4 (by omega) 4 (10 * l.length + 20) (crcV l) l 0 (by omega) (by omega) (by omega) (by omega)
  unfold pack_Seal.f
  rw [bytes_Clone.f, if_pos (by omega), h1]
  simp only [Option.bind_some]
  rw [u64_id _ hcr.1 (by omega), h2]
  rfl
def mirV (x : Nat) : Nat → Nat
  | 0 => 0
  | n + 1 => 2 * mirV x n + (x / 2 ^ n) % 2
theorem mirV_bit (x n i : Nat) : (mirV x n).testBit i = (decide (i < n) && x.testBit (n - 1 - i)) := by
  induction n generalizing i with
  | zero => simp [mirV]
  | succ n ih =>
    rw [mirV]
    cases i with
    | zero =>
      rw [Nat.testBit_zero]
      have : x.testBit n = decide ((x / 2 ^ n) % 2 = 1) := by rw [Nat.testBit_eq_decide_div_mod_eq]
      simp only [Nat.add_sub_cancel, Nat.sub_zero, this]
      rw [show (2 * mirV x n + x / 2 ^ n % 2) % 2 = x / 2 ^ n % 2 by omega]
      simp
    | succ i =>
      rw [Nat.testBit_add_one, show (2 * mirV x n + x / 2 ^ n % 2) / 2 = mirV x n by omega, ih]
      have e : n + 1 - 1 - (i + 1) = n - 1 - i := by omega
      rw [e]
      simp
theorem mirV_lt (x n : Nat) : mirV x n < 2 ^ n := by
  induction n with
  | zero => simp [mirV]
  | succ n ih => rw [mirV, Nat.pow_succ]; omega
theorem mirV_xor (a b n : Nat) : mirV (a ^^^ b) n = mirV a n ^^^ mirV b n := by
  apply Nat.eq_of_testBit_eq
  intro i
  rw [Nat.testBit_xor, mirV_bit, mirV_bit, mirV_bit, Nat.testBit_xor]
  cases decide (i < n) <;> simp
theorem mirV_mirV (x n : Nat) (h : x < 2 ^ n) : mirV (mirV x n) n = x := by
  apply Nat.eq_of_testBit_eq
  intro i
  rw [mirV_bit, mirV_bit]
  by_cases hi : i < n
  · simp only [hi, decide_true, Bool.true_and]
    rw [show n - 1 - (n - 1 - i) = i by omega]
    simp
    omega
  · simp only [hi, decide_false, Bool.false_and]
    symm
    exact Nat.testBit_lt_two_pow (Nat.lt_of_lt_of_le h (Nat.pow_le_pow_right (by decide) (by omega)))
theorem mirV_byte (b : Nat) (h : b < 256) : mirV b 32 = mirV b 8 * 16777216 := by
  apply Nat.eq_of_testBit_eq
  intro i
  rw [show 16777216 = 2 ^ 24 from rfl, Nat.mul_comm, Nat.testBit_two_pow_mul, mirV_bit, mirV_bit]
  by_cases h1 : 24 ≤ i
  · by_cases h2 : i < 32
    · simp only [h1, h2, show i - 24 < 8 by omega, decide_true, Bool.true_and]
      rw [show 8 - 1 - (i - 24) = 32 - 1 - i by omega]
    · simp only [h2, show ¬ i - 24 < 8 by omega, decide_false, Bool.false_and, Bool.and_false]
  · have : b.testBit (32 - 1 - i) = false := Nat.testBit_lt_two_pow (Nat.lt_of_lt_of_le h (by rw [show 256 = 2 ^ 8 from rfl]; exact Nat.pow_le_pow_right (by decide) (by omega)))
    simp [h1, this]
def refBit (r : Nat) : Nat := if r * 2 / 4294967296 = 0 then r * 2 else (r * 2) ^^^ 4374732215
theorem mirV_half (s : Nat) (h : s < 4294967296) : mirV (s / 2) 32 = (mirV s 32 * 2) % 4294967296 := by
  apply Nat.eq_of_testBit_eq
  intro i
  rw [show 4294967296 = 2 ^ 32 from rfl, Nat.testBit_mod_two_pow, mirV_bit]
  by_cases hi : i < 32
  · simp only [hi, decide_true, Bool.true_and]
    cases i with
    | zero =>
      have : (s / 2).testBit 31 = false := Nat.testBit_lt_two_pow (by omega)
      rw [this]
      simp [Nat.testBit_zero]
    | succ i =>
      rw [Nat.testBit_add_one, Nat.mul_div_cancel _ (by decide), mirV_bit, ← Nat.testBit_add_one]
      simp only [show i < 32 by omega, decide_true, Bool.true_and]
      rw [show 32 - 1 - (i + 1) + 1 = 32 - 1 - i by omega]
  · simp [hi]
theorem mirV_odd (s : Nat) : mirV s 32 / 2147483648 = s % 2 := by
  have h := mirV_bit s 32 31
  have hl := mirV_lt s 32
  rw [Nat.testBit_eq_decide_div_mod_eq, show 32 - 1 - 31 = 0 by rfl, Nat.testBit_zero] at h
  have h2 : mirV s 32 / 2 ^ 31 < 2 := by omega
  have h3 : 2 ^ 31 = 2147483648 := rfl
  rw [h3] at h h2
  simp at h
  omega
theorem mir_step (s : Nat) (h : s < 4294967296) : mirV (crcBit s) 32 = refBit (mirV s 32) := by
  have h1 := mirV_half s h
  have h2 := mirV_odd s
  have h3 := mirV_lt s 32
  unfold crcBit refBit
  by_cases ho : s % 2 = 1
  · rw [if_pos ho, if_neg (by omega), mirV_xor, h1, show mirV 3988292384 32 = 79764919 by decide +kernel]
    have e : mirV s 32 * 2 = (mirV s 32 * 2) % 4294967296 ^^^ 4294967296 := by
      have hm : (mirV s 32 * 2) % 4294967296 < 2 ^ 32 := Nat.mod_lt _ (by decide)
      rw [Nat.xor_comm]
      have := Nat.two_pow_add_eq_or_of_lt hm 1
      rw [show 2 ^ 32 * 1 = 4294967296 by rfl] at this
      have hx : 4294967296 ^^^ (mirV s 32 * 2) % 4294967296 = 4294967296 ||| (mirV s 32 * 2) % 4294967296 := by
        apply Nat.eq_of_testBit_eq
        intro i
        rw [Nat.testBit_xor, Nat.testBit_or, show 4294967296 = 2 ^ 32 from rfl, Nat.testBit_mod_two_pow, Nat.testBit_two_pow]
        by_cases hi : i < 32
        · have : ¬ 32 = i := by omega
          simp [hi, this]
        · simp [hi]
      rw [hx, ← this]
      omega
    conv => rhs; rw [e]
    rw [Nat.xor_assoc, show 4294967296 ^^^ 4374732215 = 79764919 by decide +kernel]
  · rw [if_neg ho, if_pos (by omega), h1]
    omega
theorem mirror_tells (x : Nat) (hx : x < 18446744073709551616) (n : Nat) (hn : n ≤ 32) : ∀ (d k i : Nat), i + d = n → d < k → cisternref03_mirror.l0 k (x : Int) (n : Int) ((mirV x i : Nat) : Int) (i : Int) = some ((mirV x n : Nat) : Int) := by
  intro d
  induction d with
  | zero =>
    intro k i hd hk
    obtain ⟨k, rfl⟩ : ∃ m, k = m + 1 := ⟨k - 1, by omega⟩
    obtain rfl : i = n := by omega
    simp only [cisternref03_mirror.l0]
    rw [if_neg (by omega)]
  | succ d ih =>
    intro k i hd hk
    obtain ⟨k, rfl⟩ : ∃ m, k = m + 1 := ⟨k - 1, by omega⟩
    have hml := mirV_lt x i
    have hp : 2 ^ i ≤ 2 ^ 31 := Nat.pow_le_pow_right (by decide) (by omega)
    have hsh : shr .u64 (x : Int) (i : Int) = ((x / 2 ^ i : Nat) : Int) := by
      unfold shr
      rw [Int.toNat_natCast, Nat.min_eq_left (by show i ≤ 64; omega)]
      simp
    have hxi : x / 2 ^ i < 18446744073709551616 := Nat.lt_of_le_of_lt (Nat.div_le_self _ _) hx
    have hand : Go.bits .and .u64 ((x / 2 ^ i : Nat) : Int) 1 = ((x / 2 ^ i % 2 : Nat) : Int) := by
      have h := (bits_nat .u64 64 (by decide) (fun n h0 h1 => u64_id n h0 (by simpa using h1)) (x / 2 ^ i) 1 hxi (by decide)).1
      rw [Nat.and_one_is_mod] at h
      simpa using h
    simp only [cisternref03_mirror.l0]
    rw [if_pos (by omega), if_pos (by omega), hsh, hand, u64_id (((mirV x i : Nat) : Int) * 2) (by omega) (by omega), u64_id _ (by omega) (by omega), show wrap64 ((i : Int) + 1) = ((i + 1 : Nat) : Int) by unfold wrap64; omega]
    have e : ((mirV x i : Nat) : Int) * 2 + ((x / 2 ^ i % 2 : Nat) : Int) = ((mirV x (i + 1) : Nat) : Int) := by
      rw [mirV]; omega
    rw [e]
    exact ih k (i + 1) (by omega) (by omega)
theorem mirror_val (x : Nat) (hx : x < 18446744073709551616) (n k : Nat) (hn : n ≤ 32) (hk : n < k) : cisternref03_mirror.f k (x : Int) (n : Int) = some ((mirV x n : Nat) : Int) :=
  mirror_tells x hx n hn n k 0 (by omega) hk
def refBits : Nat → Nat → Nat
  | 0, r => r
  | n + 1, r => refBits n (refBit r)
theorem refBit_lt {r : Nat} (h : r < 4294967296) : refBit r < 4294967296 := by
  have := mir_step (mirV r 32) (mirV_lt r 32)
  rw [mirV_mirV r 32 h] at this
  rw [← this]
  exact mirV_lt _ 32
theorem refBits_mir (n s : Nat) (h : s < 4294967296) : refBits n (mirV s 32) = mirV (crcBits n s) 32 := by
  induction n generalizing s with
  | zero => rfl
  | succ n ih => rw [refBits, ← mir_step s h, ih _ (crcBit_lt h), crcBits_succ]
theorem refcrc1_tells (s : ByteArray) (i : Nat) : ∀ (d k j : Nat) (r : Nat), r < 4294967296 → j + d = 8 → d < k → ∀ z, cisternref03_Crc.l0 (k - 1 - d) s ((refBits d r : Nat) : Int) (wrap64 ((i : Int) + 1)) = some z → cisternref03_Crc.l1 k s (r : Int) (i : Int) (j : Int) = some z := by
  intro d
  induction d with
  | zero =>
    intro k j r hr hd hk z hz
    obtain ⟨k, rfl⟩ : ∃ m, k = m + 1 := ⟨k - 1, by omega⟩
    simp only [cisternref03_Crc.l1]
    rw [if_neg (by omega)]
    exact hz
  | succ d ih =>
    intro k j r hr hd hk z hz
    obtain ⟨k, rfl⟩ : ∃ m, k = m + 1 := ⟨k - 1, by omega⟩
    have hz2 := ih k (j + 1) (refBit r) (refBit_lt hr) (by omega) (by omega) z (by rw [show k - 1 - d = k + 1 - 1 - (d + 1) by omega]; exact hz)
    simp only [cisternref03_Crc.l1]
    rw [if_pos (by omega), u64_id ((r : Int) * 2) (by omega) (by omega), show wrap64 ((j : Int) + 1) = ((j + 1 : Nat) : Int) by unfold wrap64; omega]
    unfold refBit at hz2
    by_cases h : r * 2 / 4294967296 = 0
    · rw [if_pos h] at hz2
      rw [if_pos (by omega), show (r : Int) * 2 = ((r * 2 : Nat) : Int) by omega]
      exact hz2
    · rw [if_neg h] at hz2
      rw [if_neg (by omega), show (r : Int) * 2 = ((r * 2 : Nat) : Int) by omega, show (4374732215 : Int) = ((4374732215 : Nat) : Int) from rfl, xor_u64 _ _ (by omega) (by omega)]
      exact hz2
theorem refcrc_tells (s : ByteArray) (hm : s.size ≤ 9223372036854775807) : ∀ (d k i : Nat) (x : Nat), x < 4294967296 → i + d = s.size → 10 * d + 40 < k → cisternref03_Crc.l0 k s ((mirV x 32 : Nat) : Int) (i : Int) = some ((crcL x ((bytesOf s).drop i) ^^^ 4294967295 : Nat) : Int) := by
  have hb := bytesOf_byteL s
  have hlen := bytesOf_length s
  intro d
  induction d with
  | zero =>
    intro k i x hx hd hk
    obtain ⟨k, rfl⟩ : ∃ m, k = m + 1 := ⟨k - 1, by omega⟩
    have hxx := Nat.xor_lt_two_pow (n := 32) hx (show 4294967295 < 2 ^ 32 by decide)
    have hl := mirV_lt x 32
    simp only [cisternref03_Crc.l0]
    rw [if_neg (by omega), List.drop_eq_nil_of_le (by omega), crcL_nil, show (4294967295 : Int) = ((4294967295 : Nat) : Int) from rfl, xor_u64 _ _ (by omega) (by decide)]
    have e : mirV x 32 ^^^ 4294967295 = mirV (x ^^^ 4294967295) 32 := by rw [mirV_xor, show mirV 4294967295 32 = 4294967295 by decide +kernel]
    have := mirror_val (mirV (x ^^^ 4294967295) 32) (by have := mirV_lt (x ^^^ 4294967295) 32; omega) 32 k (by omega) (by omega)
    rw [e, show (32 : Int) = ((32 : Nat) : Int) from rfl, this, mirV_mirV _ 32 hxx]
    simp only [Option.bind_some]
    congr 1
    unfold wrap64
    omega
  | succ d ih =>
    intro k i x hx hd hk
    obtain ⟨k, rfl⟩ : ∃ m, k = m + 1 := ⟨k - 1, by omega⟩
    have hi : i < (bytesOf s).length := by omega
    obtain ⟨e, b0, b1⟩ := rd_nat (bytesOf s) hb i hi
    have hbt : bt s (i : Int) = (((bytesOf s)[i].toNat : Nat) : Int) := by rw [← rd_bytesOf, e]; omega
    generalize hv : (bytesOf s)[i].toNat = v at hbt
    have hv2 : v < 256 := by omega
    have hmb := mirV_lt v 8
    simp only [cisternref03_Crc.l0]
    rw [if_pos (by omega), if_pos (by omega), hbt, u64_id _ (by omega) (by omega), show (8 : Int) = ((8 : Nat) : Int) from rfl, mirror_val v (by omega) 8 k (by omega) (by omega)]
    simp only [Option.bind_some]
    have hl := mirV_lt x 32
    have hxv : x ^^^ v < 4294967296 := Nat.xor_lt_two_pow (n := 32) hx (by omega)
    rw [u64_id (((mirV v 8 : Nat) : Int) * 16777216) (by omega) (by omega), show ((mirV v 8 : Nat) : Int) * 16777216 = ((mirV v 8 * 16777216 : Nat) : Int) by omega, ← mirV_byte v hv2, xor_u64 _ _ (by omega) (by have := mirV_lt v 32; omega), ← mirV_xor]
    refine refcrc1_tells s i 8 k 0 _ (mirV_lt _ 32) rfl (by omega) _ ?_
    rw [refBits_mir 8 _ hxv, show wrap64 ((i : Int) + 1) = ((i + 1 : Nat) : Int) by unfold wrap64; omega]
    rw [ih (k - 1 - 8) (i + 1) _ (crcBits_lt hxv) (by omega) (by omega)]
    rw [List.drop_eq_getElem_cons hi, crcL_cons, ← hv]
    rfl
theorem refcrc_val (s : ByteArray) (hm : s.size ≤ 9223372036854775807) (k : Nat) (hk : 10 * s.size + 50 ≤ k) : cisternref03_Crc.f k s = some (crcV (bytesOf s)) := by
  have h := refcrc_tells s hm s.size k 0 4294967295 (by decide) (by omega) (by omega)
  rw [show mirV 4294967295 32 = 4294967295 by decide +kernel] at h
  simpa [cisternref03_Crc.f, crcV] using h
theorem refseal_val (s : ByteArray) (hm : s.size ≤ 140737488351232) (k : Nat) (hk : 10 * s.size + 50 ≤ k) : cisternref03_Seal.f k s = some (strOfNums (sealL (bytesOf s))) := by
  have hcr := crcV_range (bytesOf s) (bytesOf_byteL s)
  unfold cisternref03_Seal.f
  rw [refcrc_val s (by omega) k hk]
  simp only [Option.bind_some]
  rw [u64_id _ hcr.1 (by omega), cisternref03_little.f, show (4 : Int) = ((4 : Nat) : Int) from rfl, little_tells 4 (by omega) 4 k _ [] 0 hcr.1 (by omega) (by omega) (by omega) (by omega) (by simp)]
  simp only [Option.bind_some, List.nil_append]
  rw [if_pos (by rw [size_strOfNums]; simp [leB_length]; omega), sealL]
  have h1 := strOfNums_append (bytesOf s) (leB (crcV (bytesOf s)) 4)
  rw [strOfNums_bytesOf] at h1
  rw [h1]
theorem sealL_take (l : List Int) : (sealL l).take l.length = l := by simp [sealL]
theorem sealL_drop (l : List Int) : (sealL l).drop l.length = leB (crcV l) 4 := by simp [sealL]
theorem openL_seal (l : List Int) (hl : byteL l) : openL (sealL l) = (l, 0) := by
  have hcr := crcV_range l hl
  unfold openL
  rw [sealL_length, if_neg (by omega), show l.length + 4 - 4 = l.length by omega, sealL_take, sealL_drop, getV_leB _ 4 hcr.1 (by omega), if_pos rfl]
theorem someB_zeros (n : Nat) : someB (List.replicate n 0) = false := by
  unfold someB
  simp
theorem frameL_length (l : List Int) (n : Nat) (h : 2 + l.length ≤ n) : (frameL l n).length = n := by simp [frameL]; omega
theorem frameL_byteL (l : List Int) (n : Nat) (h : 2 + l.length ≤ n) (hn : n ≤ 60000) (hl : byteL l) : byteL (frameL l n) := by
  refine byteL_mk (by omega) (by omega) (byteL_mk (by omega) (by omega) (byteL_append hl (fun b hb => ?_)))
  rw [List.eq_of_mem_replicate hb]
  omega
theorem unframe_frame (l : List Int) (n : Nat) (h : 2 + l.length ≤ n) (hn : n ≤ 60000) : unframeL (frameL l n) = (l, 0) := by
  have hl := frameL_length l n h
  unfold unframeL
  rw [hl, if_neg (by omega)]
  have h2 : (frameL l n).take 2 = [(l.length : Int) % 256, (l.length : Int) / 256] := rfl
  have hv : getV [(l.length : Int) % 256, (l.length : Int) / 256] = (l.length : Int) := by
    simp only [getV]
    omega
  have hd : (frameL l n).drop (2 + l.length) = List.replicate (n - 2 - l.length) 0 := by
    rw [Nat.add_comm]
    simp [frameL]
  have hd2 : ((frameL l n).drop 2).take l.length = l := by simp [frameL]
  rw [h2, hv, Int.toNat_natCast, hd, someB_zeros, if_neg (by simp; omega), hd2]
def OwnN (w : World) (b : Nat) (v : Value) (n : Nat) : Prop := ∃ ys : List Int, ys.length = n ∧ (Kd.int .u8).R 5 w b (fun _ => True) v ys
def KeptV (w w' : World) (v : Value) : Prop := w.heap.size ≤ w'.heap.size ∧ ∀ k, k < w.heap.size → some k ≠ v.ownBlock → w'.heap[k]? = w.heap[k]?
theorem KeptV.refl (w : World) (v : Value) : KeptV w w v := ⟨Nat.le_refl _, fun _ _ _ => rfl⟩
theorem OwnN.of {w : World} {b : Nat} {v : Value} {ys : List Int} (h : (Kd.int .u8).R 5 w b (fun _ => True) v ys) : ∃ A c, v = .slice A ys.length c ∧ OwnN w b (.slice A ys.length c) ys.length := by
  obtain ⟨A, c, rfl⟩ := Kd.R_slice h
  exact ⟨A, c, rfl, ys, rfl, h⟩
theorem OwnN.below {w w1 : World} {b : Nat} {v : Value} {n : Nat} (h : OwnN w b v n) (hb : Below w.heap.size w w1) : OwnN w1 b v n := by
  obtain ⟨ys, hl, hR⟩ := h
  exact ⟨ys, hl, Kd.R_below hR hb⟩
end
end Go.Proofs.YtmkkeccmjejfnaaDoor.PA
namespace Go.Proofs.YtmkkeccmjejfnaaDoor.PA
section

open Go.RowKit Go.Proofs.YtmkkeccmjejfnaaDoorW.PrintWords Go.Proofs.YtmkkeccmjejfnaaDoorW.PrintLast Go.Proofs.YtmkkeccmjejfnaaDoorW.PrintMore
set_option linter.unusedVariables false
set_option linter.unusedSimpArgs false
theorem toK {α : Type} {g : Nat → Option α} (h : ∀ k, LeO (g k) (g (k + 1))) {k k' : Nat} (hk : k ≤ k') {r : α} (hr : g k = some r) : g k' = some r := at_rounds h hk hr
def numI (ns : List Int) : List S77 := ns.map (fun n => ⟨1, n, ⟨#[]⟩⟩)
def textI : Option ByteArray → List S77
  | none => []
  | some t => [⟨2, 0, t⟩]
def recI (ns : List Int) (t : Option ByteArray) : List S77 := numI ns ++ textI t
def wf64 (x : Int) : Prop := -9223372036854775808 ≤ x ∧ x ≤ 9223372036854775807
theorem wf64_iff {x : Int} : (Lit.int .i64 x).wf = true ↔ wf64 x := by
  simp [Lit.wf, IntKind.min, IntKind.max, IntKind.signed, IntKind.bits, wf64]
theorem size_nil : (⟨#[]⟩ : ByteArray).size = 0 := rfl
def tsz (t : Option ByteArray) : Nat := (t.getD ⟨#[]⟩).size
theorem recI_check (ns : List Int) (t : Option ByteArray) (hn : ns.length ≤ 100) (ht : tsz t ≤ 160) : pack_checkV (recI ns t) = 0 := by
  refine (checkV_iff _).2 ⟨?_, fun x hx => ?_⟩
  · cases t <;> simp [recI, numI, textI] <;> omega
  · rcases List.mem_append.1 hx with hx | hx
    · obtain ⟨n, _, rfl⟩ := List.mem_map.1 hx
      exact ⟨by simp [okB, toList_data], by simp [longB]⟩
    · cases t with
      | none => simp [textI] at hx
      | some t =>
        rcases List.mem_singleton.1 hx with rfl
        refine ⟨by simp [okB], ?_⟩
        simp only [tsz, Option.getD_some] at ht
        simp [longB]
        omega
theorem recI_wf (ns : List Int) (t : Option ByteArray) (h : ∀ n ∈ ns, wf64 n) : ∀ x ∈ recI ns t, wfI x := by
  intro x hx
  rcases List.mem_append.1 hx with hx | hx
  · obtain ⟨n, hn, rfl⟩ := List.mem_map.1 hx
    exact wf64_iff.2 (h n hn)
  · cases t with
    | none => simp [textI] at hx
    | some t =>
      rcases List.mem_singleton.1 hx with rfl
      exact (by decide : (Lit.int .i64 0).wf = true)
theorem encI_num (n : Int) : (encI (⟨1, n, ⟨#[]⟩⟩ : S77)).length = 9 := by simp [encI, leB_length]
theorem recI_len (ns : List Int) (t : Option ByteArray) : (encL (recI ns t)).length ≤ 9 * ns.length + 3 + tsz t := by
  have h1 : (encL (numI ns)).length = 9 * ns.length := by
    induction ns with
    | nil => rfl
    | cons n ns ih =>
      rw [show numI (n :: ns) = ⟨1, n, ⟨#[]⟩⟩ :: numI ns from rfl, encL_cons, List.length_append, ih, encI_num, List.length_cons]
      omega
  rw [recI, encL_append, List.length_append, h1]
  cases t with
  | none => simp [textI, encL]; omega
  | some t => simp [textI, encL, encI, leB_length, bytesOf_length, tsz]; omega
def secL (l : List S77) : List Int := frameL (sealL (encL l)) 256
theorem secL_byteL (l : List S77) (h : (encL l).length ≤ 250) : byteL (secL l) := frameL_byteL _ _ (by rw [sealL_length]; omega) (by omega) (sealL_byteL (encL_byteL l))
theorem secL_length (l : List S77) (h : (encL l).length ≤ 250) : (secL l).length = 256 := frameL_length _ _ (by rw [sealL_length]; omega)
theorem sealK (l : List Int) (hl : byteL l) (hm : l.length ≤ 140737488351232) (k : Nat) (hk : 10 * l.length + 20 ≤ k) : pack_Seal.f k l = some (sealL l) := toK (pack_Seal.mono l) hk (seal_val l hl hm)
theorem sector_val (l : List S77) (hc : pack_checkV l = 0) (h : (encL l).length ≤ 250) (k : Nat) (hk : 3000 ≤ k) : record_sector.f k l = some (secL l, 0) := by
  have e1 : pack_Encode.f l = some (encL l, 0) := by rw [encode_some, if_pos hc, hc]
  have e2 := sealK (encL l) (encL_byteL l) (by omega) k (by omega)
  have e3 : pack_Frame.f (sealL (encL l)) 256 = some (frameL (sealL (encL l)) 256, 0) := by
    unfold pack_Frame.f frameV
    rw [sealL_length, if_pos (by omega), if_neg (by omega), if_neg (by omega)]
    rfl
  unfold record_sector.f
  rw [e1, Option.bind_some]
  rw [if_pos rfl, e2, Option.bind_some, e3]
  rfl
theorem wsuc (i : Nat) (h : i ≤ 9223372036854775806) : wrap64 ((i : Int) + 1) = ((i + 1 : Nat) : Int) := by unfold wrap64; omega
theorem rd_get (l : List Int) (i : Nat) (h : i < l.length) : rd l (i : Int) = l[i] := by
  unfold rd; rw [Int.toNat_natCast, List.getD_eq_getElem?_getD, List.getElem?_eq_getElem h, Option.getD_some]
theorem numbers_tells (ns : List Int) (hl : ns.length ≤ 1000) : ∀ (d k i : Nat), i + d = ns.length → d < k → record_numbers.l0 k (numI (ns.take i)) ns (ns.length : Int) (i : Int) = some (numI ns) := by
  intro d
  induction d with
  | zero =>
    intro k i hi hk
    obtain ⟨k, rfl⟩ : ∃ m, k = m + 1 := ⟨k - 1, by omega⟩
    simp only [record_numbers.l0]
    rw [if_neg (by omega), List.take_of_length_le (by omega)]
  | succ d ih =>
    intro k i hi hk
    obtain ⟨k, rfl⟩ : ∃ m, k = m + 1 := ⟨k - 1, by omega⟩
    have hil : i < ns.length := by omega
    simp only [record_numbers.l0]
    rw [if_pos (by omega), if_pos (by omega), if_pos (by omega), if_pos (by simp [numI]; omega), wsuc i (by omega), rd_get ns i hil]
    have e : numI (ns.take i) ++ [⟨1, ns[i], ⟨#[]⟩⟩] = numI (ns.take (i + 1)) := by
      rw [List.take_succ_eq_append_getElem hil]
      simp only [numI, List.map_append, List.map_cons, List.map_nil]
    rw [e]
    exact ih k (i + 1) (by omega) (by omega)
theorem numbers_val (ns : List Int) (hl : ns.length ≤ 1000) (k : Nat) (hk : ns.length < k) : record_numbers.f k ns = some (numI ns) := numbers_tells ns hl ns.length k 0 (by omega) hk
def natB (ns : List Int) : Bool := ns.all (fun n => decide (0 ≤ n))
theorem natural_tells (ns : List Int) (hl : ns.length ≤ 1000) : ∀ (d k i : Nat), i + d = ns.length → d < k → record_natural.l0 k ns (ns.length : Int) (i : Int) = some (natB (ns.drop i)) := by
  intro d
  induction d with
  | zero =>
    intro k i hi hk
    obtain ⟨k, rfl⟩ : ∃ m, k = m + 1 := ⟨k - 1, by omega⟩
    simp only [record_natural.l0]
    rw [if_neg (by omega), List.drop_eq_nil_of_le (by omega)]
    rfl
  | succ d ih =>
    intro k i hi hk
    obtain ⟨k, rfl⟩ : ∃ m, k = m + 1 := ⟨k - 1, by omega⟩
    have hil : i < ns.length := by omega
    have e : natB (ns.drop i) = (decide (0 ≤ ns[i]) && natB (ns.drop (i + 1))) := by rw [List.drop_eq_getElem_cons hil]; rfl
    simp only [record_natural.l0]
    rw [if_pos (by omega), if_pos (by omega), if_pos (by omega), rd_get ns i hil]
    by_cases h : ns[i] < 0
    · rw [if_pos h, e, decide_eq_false (by omega)]
      rfl
    · rw [if_neg h, wsuc i (by omega), ih k (i + 1) (by omega) (by omega), e, decide_eq_true (by omega), Bool.true_and]
theorem natural_val (ns : List Int) (hl : ns.length ≤ 1000) (k : Nat) (hk : ns.length < k) : record_natural.f k ns = some (natB ns) := natural_tells ns hl ns.length k 0 (by omega) hk
def logB (ns : List Int) (t : ByteArray) : Bool :=
  match ns with
  | [n0, _, _, _, _, _, n6] => n0 == 1 || (n0 == 2 && (n6 == 0 && t.toList == ([] : List UInt8)))
  | _ => false
theorem superR_val (a b c : Int) (k : Nat) (hk : 10 ≤ k) : record_Super_right.f k a b c = some (natB [a, b, c]) := by
  unfold record_Super_right.f
  rw [natural_val _ (by simp) k (by simp; omega)]
  rfl
theorem logR_val (n0 n1 n2 n3 n4 n5 n6 : Int) (t : ByteArray) (k : Nat) (hk : 20 ≤ k) : record_Log_right.f k n0 n1 n2 n3 n4 n5 n6 t = some (natB [n1, n2, n3, n4, n5, n6] && (decide (t.size ≤ 160) && logB [n0, n1, n2, n3, n4, n5, n6] t)) := by
  obtain ⟨k, rfl⟩ : ∃ m, k = m + 1 := ⟨k - 1, by omega⟩
  unfold record_Log_right.f
  rw [natural_val _ (by simp) _ (by simp; omega), Option.bind_some]
  cases hn : natB [n1, n2, n3, n4, n5, n6]
  · rw [if_neg (by decide)]
    simp [record_Log_right.j0]
  · rw [if_pos rfl, Bool.true_and]
    simp only [record_Log_right.j0]
    by_cases h1 : 160 < t.size
    · rw [decide_eq_true (show (t.size : Int) > 160 by omega), if_pos rfl, decide_eq_false (by omega)]
      rfl
    · rw [decide_eq_false (show ¬ (t.size : Int) > 160 by omega), if_neg (by decide), decide_eq_true (by omega), Bool.true_and]
      by_cases h2 : n0 = 2
      · rw [if_pos h2]
        by_cases h3 : n6 = 0
        · rw [if_pos h3]
          simp [logB, h2, h3]
        · rw [if_neg h3]
          simp [logB, h2, h3]
      · rw [if_neg h2]
        simp [logB, h2]
theorem homeR_val (p : Int) (t : ByteArray) : record_Home_right.f p t = some (decide (0 ≤ p) && decide (t.size ≤ 160)) := by
  unfold record_Home_right.f
  by_cases h : 0 ≤ p
  · rw [if_pos h, decide_eq_true h, Bool.true_and]
    congr 1
    exact decide_eq_decide.2 (by omega)
  · rw [if_neg h, decide_eq_false h]
    rfl
/-- What must be of a record of a kind. -/
def rightB (kind : Int) (ns : List Int) (t : ByteArray) : Bool :=
  natB ns && (decide (t.size ≤ 160) && (if kind = 1 then decide (ns.length = 3) && t.toList == ([] : List UInt8) else if kind = 2 then logB ns t else decide (ns.length = 1)))
def txt (kind : Int) (t : ByteArray) : Option ByteArray := if kind = 1 then none else some t
def encV (kind : Int) (ns : List Int) (t : ByteArray) : List Int × Int := if rightB kind ns t = true then (secL (recI (kind :: ns) (txt kind t)), 0) else ([], 2)
theorem encodeSuper_val (a b c : Int) (k : Nat) (hk : 3000 ≤ k) : record_EncodeSuper.f k a b c = some (encV 1 [a, b, c] ⟨#[]⟩) := by
  have hr : rightB 1 [a, b, c] ⟨#[]⟩ = natB [a, b, c] := by simp [rightB, toList_data, size_nil]
  unfold record_EncodeSuper.f encV
  rw [superR_val a b c k (by omega), Option.bind_some, hr]
  cases hn : natB [a, b, c]
  · rfl
  · rw [if_pos rfl, if_pos rfl, numbers_val _ (by simp) k (by simp; omega), Option.bind_some]
    have e : numI [1, a, b, c] = recI (1 :: [a, b, c]) (txt 1 ⟨#[]⟩) := by simp [recI, txt, textI]
    have hl := recI_len (1 :: [a, b, c]) (txt 1 ⟨#[]⟩)
    rw [e, sector_val _ (recI_check _ _ (by simp) (by simp [txt, tsz, size_nil])) (by simp [txt, tsz, size_nil] at hl ⊢; omega) k hk]
    rfl
theorem encodeLog_val (n0 n1 n2 n3 n4 n5 n6 : Int) (t : ByteArray) (k : Nat) (hk : 3000 ≤ k) : record_EncodeLog.f k n0 n1 n2 n3 n4 n5 n6 t = some (encV 2 [n0, n1, n2, n3, n4, n5, n6] t) := by
  have hr : rightB 2 [n0, n1, n2, n3, n4, n5, n6] t = (natB [n1, n2, n3, n4, n5, n6] && (decide (t.size ≤ 160) && logB [n0, n1, n2, n3, n4, n5, n6] t)) := by
    unfold rightB
    rw [if_neg (by decide), if_pos rfl]
    cases hl : logB [n0, n1, n2, n3, n4, n5, n6] t
    · simp
    · have h0 : 0 ≤ n0 := by
        simp only [logB, Bool.or_eq_true, Bool.and_eq_true, beq_iff_eq] at hl
        rcases hl with h | h
        · omega
        · omega
      have : natB [n0, n1, n2, n3, n4, n5, n6] = natB [n1, n2, n3, n4, n5, n6] := by
        simp [natB, h0]
      rw [this]
  unfold record_EncodeLog.f encV
  rw [logR_val _ _ _ _ _ _ _ _ k (by omega), Option.bind_some, ← hr]
  cases hn : rightB 2 [n0, n1, n2, n3, n4, n5, n6] t
  · rfl
  · have hs : t.size ≤ 160 := by
      simp only [rightB, Bool.and_eq_true, decide_eq_true_eq] at hn
      exact hn.2.1
    rw [if_pos rfl, if_pos rfl, numbers_val _ (by simp) k (by simp; omega), Option.bind_some]
    simp only [record_text.f, Option.bind_some]
    have e : numI [2, n0, n1, n2, n3, n4, n5, n6] ++ [⟨2, 0, t⟩] = recI (2 :: [n0, n1, n2, n3, n4, n5, n6]) (txt 2 t) := by simp [recI, txt, textI]
    have hl := recI_len (2 :: [n0, n1, n2, n3, n4, n5, n6]) (txt 2 t)
    have hts : tsz (txt 2 t) = t.size := by simp [txt, tsz]
    rw [hts] at hl
    rw [if_pos (by simp [numI]), e, sector_val _ (recI_check _ _ (by simp) (by omega)) (by simp at hl ⊢; omega) k hk]
    rfl
theorem encodeHome_val (p : Int) (t : ByteArray) (k : Nat) (hk : 3000 ≤ k) : record_EncodeHome.f k p t = some (encV 3 [p] t) := by
  have hr : rightB 3 [p] t = (decide (0 ≤ p) && decide (t.size ≤ 160)) := by simp [rightB, natB]
  unfold record_EncodeHome.f encV
  rw [homeR_val, Option.bind_some, ← hr]
  cases hn : rightB 3 [p] t
  · rfl
  · have hs : t.size ≤ 160 := by
      simp only [rightB, Bool.and_eq_true, decide_eq_true_eq] at hn
      exact hn.2.1
    rw [if_pos rfl, if_pos rfl, numbers_val _ (by simp) k (by simp; omega), Option.bind_some]
    simp only [record_text.f, Option.bind_some]
    have e : numI [3, p] ++ [⟨2, 0, t⟩] = recI (3 :: [p]) (txt 3 t) := by simp [recI, txt, textI]
    have hl := recI_len (3 :: [p]) (txt 3 t)
    have hts : tsz (txt 3 t) = t.size := by simp [txt, tsz]
    rw [hts] at hl
    rw [if_pos (by simp [numI]), e, sector_val _ (recI_check _ _ (by simp) (by omega)) (by simp at hl ⊢; omega) k hk]
    rfl
end
end Go.Proofs.YtmkkeccmjejfnaaDoor.PA
namespace Go.Proofs.YtmkkeccmjejfnaaDoor.PA
section

open Go.RowKit Go.Proofs.YtmkkeccmjejfnaaDoorW.PrintWords Go.Proofs.YtmkkeccmjejfnaaDoorW.PrintLast Go.Proofs.YtmkkeccmjejfnaaDoorW.PrintMore
set_option linter.unusedVariables false
set_option linter.unusedSimpArgs false
def unsealV (u : List Int) : List S77 × Int := if (openL u).2 = 0 then decF (openL u).1 else ([], (openL u).2)
theorem openL_byteL {u : List Int} (h : byteL u) : byteL (openL u).1 := by
  unfold openL
  split
  · intro b hb; cases hb
  · split
    · exact byteL_take h _
    · intro b hb; cases hb
theorem openL_len (u : List Int) : (openL u).1.length ≤ u.length := by
  unfold openL
  split
  · simp
  · split
    · rw [List.length_take]; omega
    · simp
theorem unseal_val (u : List Int) (hb : byteL u) (hl : u.length ≤ 140737488351232) (k : Nat) (hk : 4 * u.length + 100 ≤ k) : record_unseal.f k u = some (unsealV u) := by
  have e1 : pack_Open.f u = some (openL u) := by rw [pack_Open.f, if_pos ⟨byteB_iff.2 hb, by omega⟩]
  have hlen := openL_len u
  unfold record_unseal.f unsealV
  rw [e1, Option.bind_some]
  by_cases h : (openL u).2 = 0
  · rw [if_pos h, if_pos h, decode_val _ (openL_byteL hb) (by omega) k (by omega)]
    rfl
  · rw [if_neg h, if_neg h]
theorem unframeL_byteL {b : List Int} (h : byteL b) : byteL (unframeL b).1 := by
  unfold unframeL
  split
  · intro b hb; cases hb
  · split
    · intro b hb; cases hb
    · exact byteL_take (byteL_drop h _) _
theorem unframeL_len (b : List Int) : (unframeL b).1.length ≤ 60000 := by
  unfold unframeL
  split
  · simp
  · split
    · simp
    · rw [List.length_take, List.length_drop]; omega
def openV (b : List Int) (kind : Int) (m : Nat) (tx : Bool) : List Int × ByteArray × Int :=
  if (unframeL b).2 = 0 then (if (unsealV (unframeL b).1).2 = 0 then itemsV b.length (unsealV (unframeL b).1).1 kind m tx else ([], ⟨#[]⟩, (unsealV (unframeL b).1).2)) else ([], ⟨#[]⟩, 2)
theorem open_val (b : List Int) (hb : byteL b) (hl : b.length ≤ 140737488351232) (kind : Int) (m : Nat) (hm : m ≤ 100) (tx : Bool) (k : Nat) (hk : 300000 ≤ k) : record_open.f k b kind (m : Int) tx = some (openV b kind m tx) := by
  have e1 : pack_Unframe.f b = some (unframeL b) := by unfold pack_Unframe.f; rw [if_pos ⟨byteB_iff.2 hb, by omega⟩]
  have hlen := unframeL_len b
  unfold record_open.f openV
  rw [if_pos (by omega), e1, Option.bind_some, Int.toNat_natCast]
  by_cases h : (unframeL b).2 = 0
  · rw [if_pos h, if_pos h, unseal_val _ (unframeL_byteL hb) (by omega) k (by omega), Option.bind_some]
    split <;> rfl
  · rw [if_neg h, if_neg h]
theorem recI_items (kind : Int) (ns : List Int) (t : Option ByteArray) : itemsV 256 (recI (kind :: ns) t) kind ns.length t.isSome = (ns, t.getD ⟨#[]⟩, 0) := by
  have hl : (recI (kind :: ns) t).length = 1 + ns.length + (if t.isSome = true then 1 else 0) := by
    cases t <;> simp [recI, numI, textI] <;> omega
  have hh : headB (rd_T77 (recI (kind :: ns) t) 0) kind = true := by
    have : rd_T77 (recI (kind :: ns) t) 0 = ⟨1, kind, ⟨#[]⟩⟩ := rfl
    rw [this]
    simp [headB, toList_data]
  have hmid : ((recI (kind :: ns) t).drop 1).take ns.length = numI ns := by
    have : (recI (kind :: ns) t).drop 1 = numI ns ++ textI t := rfl
    rw [this, List.take_append_of_le_length (by simp [numI]), List.take_of_length_le (by simp [numI])]
  have hall : (numI ns).all (fun x => x.f0 == 1) = true := by simp [numI]
  have hmap : (numI ns).map (·.f1) = ns := by simp [numI, Function.comp_def]
  unfold itemsV
  rw [if_neg (by rw [hl, hh]; simp), hmid, hall, hmap, if_neg (by decide)]
  cases t with
  | none => rfl
  | some t =>
    have hlast : rd_T77 (recI (kind :: ns) (some t)) ((ns.length : Int) + 1) = ⟨2, 0, t⟩ := by
      unfold rd_T77
      rw [show ((ns.length : Int) + 1).toNat = ns.length + 1 by omega, List.getD_eq_getElem?_getD]
      have : (recI (kind :: ns) (some t))[ns.length + 1]? = some ⟨2, 0, t⟩ := by
        rw [recI, List.getElem?_append_right (by simp [numI])]
        simp [numI, textI]
      rw [this]
      rfl
    rw [if_neg (by simp), hlast]
    rfl
theorem small_enc (kind : Int) (ns : List Int) (t : Option ByteArray) (hn : ns.length ≤ 7) (ht : tsz t ≤ 160) : (encL (recI (kind :: ns) t)).length ≤ 250 := by
  have := recI_len (kind :: ns) t
  simp at this
  omega
theorem unseal_enc (kind : Int) (ns : List Int) (t : Option ByteArray) (hn : ns.length ≤ 7) (ht : tsz t ≤ 160) (hw : ∀ n ∈ kind :: ns, wf64 n) :
    (unframeL (secL (recI (kind :: ns) t))) = (sealL (encL (recI (kind :: ns) t)), 0) ∧ unsealV (sealL (encL (recI (kind :: ns) t))) = (recI (kind :: ns) t, 0) := by
  have hs := small_enc kind ns t hn ht
  refine ⟨unframe_frame _ _ (by rw [sealL_length]; omega) (by omega), ?_⟩
  unfold unsealV
  rw [openL_seal _ (encL_byteL _), if_pos rfl]
  exact decF_enc _ (recI_check _ _ (by simp; omega) ht) (recI_wf _ _ hw)
theorem open_enc (kind : Int) (ns : List Int) (t : Option ByteArray) (hn : ns.length ≤ 7) (ht : tsz t ≤ 160) (hw : ∀ n ∈ kind :: ns, wf64 n) :
    openV (secL (recI (kind :: ns) t)) kind ns.length t.isSome = (ns, t.getD ⟨#[]⟩, 0) := by
  obtain ⟨h1, h2⟩ := unseal_enc kind ns t hn ht hw
  unfold openV
  rw [h1, if_pos rfl]
  simp only [h2]
  rw [if_pos trivial, secL_length _ (small_enc kind ns t hn ht)]
  exact recI_items kind ns t
theorem seal_open {u c : List Int} (hb : byteL u) (h : openL u = (c, 0)) : u = sealL c := by
  unfold openL at h
  split at h
  · simp at h
  · rename_i h4
    split at h
    · rename_i hg
      simp only [Prod.mk.injEq, and_true] at h
      have := leB_getV (u.drop (u.length - 4)) (byteL_drop hb _)
      rw [List.length_drop, show u.length - (u.length - 4) = 4 by omega] at this
      rw [← h, sealL, ← hg, this, List.take_append_drop]
    · simp at h
theorem someB_rep {l : List Int} (h : ¬ someB l = true) : l = List.replicate l.length 0 := by
  refine List.eq_replicate_iff.2 ⟨rfl, fun b hb => ?_⟩
  simp only [someB, List.any_eq_true, bne_iff_ne, not_exists, not_and, Decidable.not_not] at h
  exact h b hb
theorem frame_unframe {b u : List Int} (hb : byteL b) (h : unframeL b = (u, 0)) : b = frameL u b.length := by
  unfold unframeL at h
  split at h
  · simp at h
  · rename_i h1
    split at h
    · simp at h
    · rename_i h2
      have hl : 2 ≤ b.length ∧ b.length ≤ 60000 := by omega
      have l2 : (b.take 2).length = 2 := by rw [List.length_take]; omega
      have hg := getV2 _ (byteL_take hb 2) l2
      obtain ⟨n, hn⟩ : ∃ n : Nat, getV (b.take 2) = (n : Int) := ⟨(getV (b.take 2)).toNat, by omega⟩
      rw [hn, Int.toNat_natCast] at h h2
      simp only [Prod.mk.injEq, and_true] at h
      have hnl : 2 + n ≤ b.length := by
        rcases Nat.lt_or_ge b.length (2 + n) with h3 | h3
        · exact absurd (.inl (by omega)) h2
        · exact h3
      have hz : ¬ someB (b.drop (2 + n)) = true := fun h3 => h2 (.inr h3)
      have hul : u.length = n := by rw [← h, List.length_take, List.length_drop]; omega
      match b, l2, hl with
      | x :: y :: r, _, hl =>
        have hx := (byteL_cons hb)
        have hy := (byteL_cons hx.2.2)
        have hv : getV [x, y] = x + 256 * y := by simp [getV]
        have hn' : x + 256 * y = (n : Int) := by rw [← hv]; exact hn
        have e1 : (u.length : Int) % 256 = x := by rw [hul]; omega
        have e2 : (u.length : Int) / 256 = y := by rw [hul]; omega
        have e3 : r = u ++ r.drop n := by rw [← h]; exact (List.take_append_drop n r).symm
        have e4 : (x :: y :: r).drop (2 + n) = r.drop n := by rw [Nat.add_comm]; rfl
        rw [e4] at hz
        have e5 := someB_rep hz
        have e6 : (r.drop n).length = (x :: y :: r).length - 2 - u.length := by rw [List.length_drop, hul]; simp
        unfold frameL
        rw [e1, e2, ← e6, ← e5, ← e3]
theorem num_item {x : S77} (h : okB x = true) (h1 : x.f0 = 1) : x = ⟨1, x.f1, ⟨#[]⟩⟩ := by
  have h2 : x.f2 = ⟨#[]⟩ := by
    have : x.f2.toList = [] := by simpa [okB, h1] using h
    rw [show (⟨#[]⟩ : ByteArray) = ⟨#[]⟩ from rfl]
    exact toList_inj'.1 (by rw [this]; simp [toList_data])
  calc x = ⟨x.f0, x.f1, x.f2⟩ := rfl
    _ = _ := by rw [h1, h2]
theorem text_item {x : S77} (h : okB x = true) (h1 : x.f0 = 2) : x = ⟨2, 0, x.f2⟩ := by
  have h2 : x.f1 = 0 := by simpa [okB, h1] using h
  calc x = ⟨x.f0, x.f1, x.f2⟩ := rfl
    _ = _ := by rw [h1, h2]
theorem mid_num (l : List S77) (hok : ∀ x ∈ l, okB x = true) (h : l.all (fun x => x.f0 == 1) = true) : l = numI (l.map (·.f1)) := by
  induction l with
  | nil => rfl
  | cons x l ih =>
    simp only [List.all_cons, Bool.and_eq_true, beq_iff_eq] at h
    have hx := num_item (hok x (by simp)) h.1
    have hl := ih (fun y hy => hok y (by simp [hy])) h.2
    calc x :: l = ⟨1, x.f1, ⟨#[]⟩⟩ :: numI (l.map (·.f1)) := by rw [← hl, ← hx]
      _ = _ := rfl
theorem items_tells {n : Nat} {l : List S77} {kind : Int} {m : Nat} {tx : Bool} {ns : List Int} {t : ByteArray} (hok : ∀ x ∈ l, okB x = true) (h : itemsV n l kind m tx = (ns, t, 0)) :
    n = 256 ∧ l = recI (kind :: ns) (if tx = true then some t else none) ∧ ns.length = m ∧ (tx = false → t = ⟨#[]⟩) := by
  unfold itemsV at h
  by_cases h1 : n ≠ 256 ∨ l.length ≠ 1 + m + (if tx = true then 1 else 0) ∨ headB (rd_T77 l 0) kind = false
  · rw [if_pos h1] at h
    simp at h
  · rw [if_neg h1] at h
    by_cases h2 : ((l.drop 1).take m).all (fun x => x.f0 == 1) = false
    · rw [if_pos h2] at h
      simp at h
    · rw [if_neg h2] at h
      have g1 : n = 256 := by omega
      have g2 : l.length = 1 + m + (if tx = true then 1 else 0) := by omega
      have g3 : headB (rd_T77 l 0) kind = true := by
        cases hh : headB (rd_T77 l 0) kind
        · exact absurd (.inr (.inr hh)) h1
        · rfl
      have g4 : ((l.drop 1).take m).all (fun x => x.f0 == 1) = true := by
        cases hh : ((l.drop 1).take m).all (fun x => x.f0 == 1)
        · exact absurd hh h2
        · rfl
      match l, g2, g3, g4, hok, h with
      | [], g2, _, _, _, _ => exfalso; simp at g2; omega
      | x :: r, g2, g3, g4, hok, h =>
        have hx0 : rd_T77 (x :: r) 0 = x := rfl
        rw [hx0] at g3
        simp only [headB, Bool.and_eq_true, beq_iff_eq] at g3
        have hx : x = ⟨1, kind, ⟨#[]⟩⟩ := by
          have := num_item (hok x (by simp)) g3.1
          rw [g3.2.1] at this
          exact this
        have hrl : r.length = m + (if tx = true then 1 else 0) := by simp at g2; omega
        have hd : (x :: r).drop 1 = r := rfl
        rw [hd] at g4 h
        have hmid := mid_num (r.take m) (fun y hy => hok y (by simp [List.mem_of_mem_take hy])) g4
        refine ⟨g1, ?_⟩
        cases tx with
        | false =>
          rw [if_pos rfl] at h
          simp only [Prod.mk.injEq, and_true] at h
          obtain ⟨h3, h4⟩ := h
          have hrm : r.take m = r := List.take_of_length_le (by simp at hrl; omega)
          refine ⟨?_, by rw [← h3, List.length_map, hrm]; simpa using hrl, fun _ => h4.symm⟩
          rw [← h3]
          show x :: r = ⟨1, kind, ⟨#[]⟩⟩ :: (numI ((r.take m).map (·.f1)) ++ [])
          rw [← hmid, hrm, List.append_nil, ← hx]
        | true =>
          rw [if_neg (by decide)] at h
          split at h
          · rename_i h5
            simp only [Prod.mk.injEq, and_true] at h
            obtain ⟨h3, h4⟩ := h
            have hml : m < r.length := by simp at hrl; omega
            have hlast : rd_T77 (x :: r) ((m : Int) + 1) = r[m] := by
              unfold rd_T77
              rw [show ((m : Int) + 1).toNat = m + 1 by omega, List.getD_eq_getElem?_getD, List.getElem?_cons_succ, List.getElem?_eq_getElem hml]
              rfl
            rw [hlast] at h4 h5
            have hy := text_item (hok r[m] (by simp)) h5
            rw [h4] at hy
            have hr : r = r.take m ++ [r[m]] := by
              rw [← List.take_succ_eq_append_getElem hml, List.take_of_length_le (by simp at hrl; omega)]
            refine ⟨?_, by rw [← h3, List.length_map, List.length_take]; omega, fun h => by cases h⟩
            rw [← h3]
            show x :: r = ⟨1, kind, ⟨#[]⟩⟩ :: (numI ((r.take m).map (·.f1)) ++ [⟨2, 0, t⟩])
            rw [← hmid, ← hx, ← hy, ← hr]
          · simp at h
theorem open_tells {b : List Int} (hb : byteL b) {kind : Int} {m : Nat} {tx : Bool} {ns : List Int} {t : ByteArray} (h : openV b kind m tx = (ns, t, 0)) :
    b = secL (recI (kind :: ns) (if tx = true then some t else none)) ∧ unframeL b = (sealL (encL (recI (kind :: ns) (if tx = true then some t else none))), 0) ∧ unsealV (unframeL b).1 = (recI (kind :: ns) (if tx = true then some t else none), 0) ∧ ns.length = m ∧ (tx = false → t = ⟨#[]⟩) ∧ ∀ n ∈ kind :: ns, wf64 n := by
  unfold openV at h
  split at h
  · rename_i h1
    split at h
    · rename_i h2
      obtain ⟨u, hu⟩ : ∃ u, u = (unframeL b).1 := ⟨_, rfl⟩
      have hu2 : unframeL b = (u, 0) := by rw [hu, ← h1]
      rw [← hu] at h h2 ⊢
      have hub : byteL u := by rw [hu]; exact unframeL_byteL hb
      have h3 : (openL u).2 = 0 := by
        unfold unsealV at h2
        split at h2
        · assumption
        · exact h2
      have hc : openL u = ((openL u).1, 0) := by rw [← h3]
      have hs := seal_open hub hc
      have hv : unsealV u = decF (openL u).1 := by unfold unsealV; rw [if_pos h3]
      rcases decF_tells _ (openL_byteL hub) with h4 | ⟨l, h4, h5, h6, h7⟩
      · rw [hv, h4] at h2
        cases h2
      · rw [hv, h4] at h
        obtain ⟨_, hok⟩ := (checkV_iff l).1 h6
        obtain ⟨g1, g2, g3, g4⟩ := items_tells (fun x hx => (hok x hx).1) h
        refine ⟨?_, ?_, by rw [hv, h4, g2], g3, g4, fun n hn => ?_⟩
        · have hf := frame_unframe hb hu2
          rw [hf, g1, hs, ← h5, g2]
          rfl
        · rw [hu2, hs, ← h5, g2]
        · have : (⟨1, n, ⟨#[]⟩⟩ : S77) ∈ l := by
            rw [g2, recI]
            refine List.mem_append_left _ ?_
            exact List.mem_map.2 ⟨n, hn, rfl⟩
          exact wf64_iff.1 (h7 _ this)
    · simp only [Prod.mk.injEq] at h
      rename_i h2
      exact absurd h.2.2 h2
  · simp at h
end
end Go.Proofs.YtmkkeccmjejfnaaDoor.PA
namespace Go.Proofs.YtmkkeccmjejfnaaDoor.PA
section

open Go.RowKit Go.Proofs.YtmkkeccmjejfnaaDoorW.PrintWords Go.Proofs.YtmkkeccmjejfnaaDoorW.PrintLast Go.Proofs.YtmkkeccmjejfnaaDoorW.PrintMore
set_option linter.unusedVariables false
set_option linter.unusedSimpArgs false
def cnt (kind : Int) : Nat := if kind = 1 then 3 else if kind = 2 then 7 else 1
def docV (b : List Int) (kind : Int) : Int × List Int × ByteArray × Int :=
  if (openV b kind (cnt kind) (decide (kind ≠ 1))).2.2 = 0 then
    (if rightB kind (openV b kind (cnt kind) (decide (kind ≠ 1))).1 (openV b kind (cnt kind) (decide (kind ≠ 1))).2.1 = true then (kind, (openV b kind (cnt kind) (decide (kind ≠ 1))).1, (openV b kind (cnt kind) (decide (kind ≠ 1))).2.1, 0) else (0, [], ⟨#[]⟩, 2))
  else (0, [], ⟨#[]⟩, (openV b kind (cnt kind) (decide (kind ≠ 1))).2.2)
theorem rightB_len {kind : Int} {ns : List Int} {t : ByteArray} (h : rightB kind ns t = true) : ns.length = cnt kind ∧ t.size ≤ 160 := by
  unfold rightB at h
  simp only [Bool.and_eq_true, decide_eq_true_eq] at h
  refine ⟨?_, h.2.1⟩
  have h2 := h.2.2
  unfold cnt
  by_cases k1 : kind = 1
  · rw [if_pos k1] at h2 ⊢
    simp only [Bool.and_eq_true, decide_eq_true_eq] at h2
    exact h2.1
  · rw [if_neg k1] at h2 ⊢
    by_cases k2 : kind = 2
    · rw [if_pos k2] at h2 ⊢
      unfold logB at h2
      split at h2
      · rfl
      · cases h2
    · rw [if_neg k2] at h2 ⊢
      simpa using h2
theorem rightB_one {ns : List Int} {t : ByteArray} (h : rightB 1 ns t = true) : t = ⟨#[]⟩ := by
  unfold rightB at h
  simp only [Bool.and_eq_true, decide_eq_true_eq, if_true, beq_iff_eq] at h
  exact toList_inj'.1 (by rw [h.2.2.2]; simp [toList_data])
theorem txt_some (kind : Int) (t : ByteArray) : (txt kind t).isSome = decide (kind ≠ 1) := by
  unfold txt
  by_cases k : kind = 1 <;> simp [k]
theorem txt_get {kind : Int} {ns : List Int} {t : ByteArray} (h : rightB kind ns t = true) : (txt kind t).getD ⟨#[]⟩ = t ∧ tsz (txt kind t) ≤ 160 := by
  have hs := (rightB_len h).2
  unfold txt
  by_cases k : kind = 1
  · subst k
    rw [if_pos rfl]
    exact ⟨(rightB_one h).symm, by simp [tsz, size_nil]⟩
  · rw [if_neg k]
    exact ⟨rfl, by simpa [tsz] using hs⟩
theorem cnt_le (kind : Int) : cnt kind ≤ 7 := by
  unfold cnt
  split
  · omega
  · split <;> omega
/-- What is encoded is decoded. -/
theorem doc_enc (kind : Int) (ns : List Int) (t : ByteArray) (h : rightB kind ns t = true) (hw : ∀ n ∈ kind :: ns, wf64 n) : docV (secL (recI (kind :: ns) (txt kind t))) kind = (kind, ns, t, 0) := by
  obtain ⟨hl, hs⟩ := rightB_len h
  obtain ⟨hg, ht⟩ := txt_get h
  have ho := open_enc kind ns (txt kind t) (by rw [hl]; exact cnt_le kind) ht hw
  rw [hl, txt_some, hg] at ho
  unfold docV
  rw [ho]
  simp only [h, if_true]
theorem docV_form (b : List Int) (kind : Int) : (∃ ns t, docV b kind = (kind, ns, t, 0) ∧ rightB kind ns t = true ∧ openV b kind (cnt kind) (decide (kind ≠ 1)) = (ns, t, 0)) ∨ ∃ e, e ≠ 0 ∧ docV b kind = (0, [], ⟨#[]⟩, e) ∧ ((openV b kind (cnt kind) (decide (kind ≠ 1))).2.2 = e ∨ ((openV b kind (cnt kind) (decide (kind ≠ 1))).2.2 = 0 ∧ e = 2 ∧ rightB kind (openV b kind (cnt kind) (decide (kind ≠ 1))).1 (openV b kind (cnt kind) (decide (kind ≠ 1))).2.1 = false)) := by
  unfold docV
  by_cases h1 : (openV b kind (cnt kind) (decide (kind ≠ 1))).2.2 = 0
  · rw [if_pos h1]
    by_cases h2 : rightB kind (openV b kind (cnt kind) (decide (kind ≠ 1))).1 (openV b kind (cnt kind) (decide (kind ≠ 1))).2.1 = true
    · rw [if_pos h2]
      exact .inl ⟨_, _, rfl, h2, by rw [← h1]⟩
    · rw [if_neg h2]
      exact .inr ⟨2, by decide, rfl, .inr ⟨h1, rfl, by simpa using h2⟩⟩
  · rw [if_neg h1]
    exact .inr ⟨_, h1, rfl, .inl rfl⟩
theorem super_tells (b : List Int) (hb : byteL b) (hl : b.length ≤ 140737488351232) (k : Nat) (hk : 300000 ≤ k) :
    (∃ x y z, docV b 1 = (1, [x, y, z], ⟨#[]⟩, 0) ∧ record_DecodeSuper.f k b = some (x, y, z, 0)) ∨ (∃ e, e ≠ 0 ∧ docV b 1 = (0, [], ⟨#[]⟩, e) ∧ record_DecodeSuper.f k b = some (0, 0, 0, e)) := by
  have ho : record_open.f k b 1 3 false = some (openV b 1 (cnt 1) (decide ((1 : Int) ≠ 1))) := open_val b hb hl 1 3 (by omega) false k hk
  unfold record_DecodeSuper.f
  rw [ho, Option.bind_some]
  rcases docV_form b 1 with ⟨ns, t, h1, h2, h3⟩ | ⟨e, he, h1, h2⟩
  · have hn := (rightB_len h2).1
    have ht := rightB_one h2
    subst ht
    match ns, hn with
    | [x, y, z], _ =>
      refine .inl ⟨x, y, z, h1, ?_⟩
      rw [h3]
      have hr : natB [x, y, z] = true := by
        unfold rightB at h2
        simp only [Bool.and_eq_true] at h2
        exact h2.1
      simp only [if_true, List.length_cons, List.length_nil]
      rw [if_pos (by decide), if_pos (by decide), if_pos (by decide), superR_val _ _ _ k (by omega), Option.bind_some]
      have e1 : rd [x, y, z] 0 = x := rfl
      have e2 : rd [x, y, z] 1 = y := rfl
      have e3 : rd [x, y, z] 2 = z := rfl
      rw [e1, e2, e3, hr, if_pos rfl]
  · refine .inr ⟨e, he, h1, ?_⟩
    rcases h2 with h2 | ⟨h2, h3, h4⟩
    · rw [h2, if_neg he]
    · obtain ⟨ns, t, h5⟩ : ∃ ns t, openV b 1 (cnt 1) (decide ((1 : Int) ≠ 1)) = (ns, t, 0) := ⟨_, _, by rw [← h2]⟩
      obtain ⟨_, _, _, g4, g5, _⟩ := open_tells hb h5
      have ht := g5 (by decide)
      subst ht
      rw [h5] at h4 ⊢
      match ns, g4 with
      | [x, y, z], _ =>
        have hr : natB [x, y, z] = false := by
          cases hh : natB [x, y, z]
          · rfl
          · simp [rightB, hh, toList_data, size_nil] at h4
        simp only [if_true, List.length_cons, List.length_nil]
        rw [if_pos (by decide), if_pos (by decide), if_pos (by decide), superR_val _ _ _ k (by omega), Option.bind_some]
        have e1 : rd [x, y, z] 0 = x := rfl
        have e2 : rd [x, y, z] 1 = y := rfl
        have e3 : rd [x, y, z] 2 = z := rfl
        rw [e1, e2, e3, hr, if_neg (by decide), h3]
theorem known_val (k : Nat) (hk : 300000 ≤ k) : cisternlaw07_known.f k = some true := by
  have hr : rightB 1 [3, 2, 7] ⟨#[]⟩ = true := by simp [rightB, natB, toList_data, size_nil]
  have hw : ∀ n ∈ (1 : Int) :: [3, 2, 7], wf64 n := by intro n hn; simp at hn; unfold wf64; omega
  have he := encodeSuper_val 3 2 7 k (by omega)
  have hv : encV 1 [3, 2, 7] ⟨#[]⟩ = (secL (recI (1 :: [3, 2, 7]) (txt 1 ⟨#[]⟩)), 0) := by unfold encV; rw [if_pos hr]
  obtain ⟨b, hbe⟩ : ∃ b, b = secL (recI (1 :: [3, 2, 7]) (txt 1 ⟨#[]⟩)) := ⟨_, rfl⟩
  have hsm := small_enc 1 [3, 2, 7] (txt 1 ⟨#[]⟩) (by simp) (txt_get hr).2
  have hb : byteL b := by rw [hbe]; exact secL_byteL _ hsm
  have hl : b.length = 256 := by rw [hbe]; exact secL_length _ hsm
  have hd : docV b 1 = (1, [3, 2, 7], ⟨#[]⟩, 0) := by rw [hbe]; exact doc_enc 1 _ _ hr hw
  rw [hv, ← hbe] at he
  unfold cisternlaw07_known.f
  rw [he, Option.bind_some]
  rcases super_tells b hb (by omega) k hk with ⟨x, y, z, h1, h2⟩ | ⟨e, h0, h1, _⟩
  · rw [hd] at h1
    simp only [Prod.mk.injEq, List.cons.injEq, and_true, true_and] at h1
    obtain ⟨rfl, rfl, rfl⟩ := h1
    rw [h2, Option.bind_some, if_pos rfl, if_pos rfl, if_pos (by rw [hl]; rfl)]
    rfl
  · rw [hd] at h1
    simp at h1
end
end Go.Proofs.YtmkkeccmjejfnaaDoor.PA
namespace Go.Proofs.YtmkkeccmjejfnaaDoor.PA
section

open Go.RowKit Go.Proofs.YtmkkeccmjejfnaaDoorW.PrintWords Go.Proofs.YtmkkeccmjejfnaaDoorW.PrintLast Go.Proofs.YtmkkeccmjejfnaaDoorW.PrintMore
set_option linter.unusedVariables false
set_option linter.unusedSimpArgs false
theorem refright_tells (kind : Int) (ns : List Int) (t : ByteArray) (h0 : 1 ≤ kind) (h3 : kind ≤ 3) (hlen : ns.length = cnt kind) (hs : t.size ≤ 160) : ∀ (d k i : Nat), i + d = ns.length → d < k →
    cisternref07_Right.l0 k (i : Int) kind ns t = some (natB (ns.drop i) && (if kind = 1 then t.toList == ([] : List UInt8) else if kind = 2 then logB ns t else true)) := by
  have hc := cnt_le kind
  intro d
  induction d with
  | zero =>
    intro k i hi hk
    obtain ⟨k, rfl⟩ : ∃ m, k = m + 1 := ⟨k - 1, by omega⟩
    simp only [cisternref07_Right.l0]
    rw [if_neg (by omega), List.drop_eq_nil_of_le (by omega), show natB [] = true from rfl, Bool.true_and]
    by_cases k1 : kind = 1
    · rw [if_pos k1, if_pos k1]
    · rw [if_neg k1, if_neg k1]
      by_cases k2 : kind = 2
      · rw [if_pos k2, if_pos k2]
        have hl7 : ns.length = 7 := by rw [hlen, k2]; rfl
        match ns, hl7 with
        | [n0, n1, n2, n3, n4, n5, n6], _ =>
          have e0 : rd [n0, n1, n2, n3, n4, n5, n6] 0 = n0 := rfl
          have e6 : rd [n0, n1, n2, n3, n4, n5, n6] 6 = n6 := rfl
          rw [e0, e6, if_pos (by simp)]
          by_cases g1 : n0 = 1
          · rw [if_pos g1]
            simp [logB, g1]
          · rw [if_neg g1]
            by_cases g2 : n0 = 2
            · rw [if_pos g2, if_pos (by simp)]
              by_cases g3 : n6 = 0
              · rw [if_pos g3]
                simp [logB, g2, g3]
              · rw [if_neg g3]
                simp [logB, g2, g3]
            · rw [if_neg g2]
              simp [logB, g1, g2]
      · rw [if_neg k2, if_neg k2]
  | succ d ih =>
    intro k i hi hk
    obtain ⟨k, rfl⟩ : ∃ m, k = m + 1 := ⟨k - 1, by omega⟩
    have hil : i < ns.length := by omega
    have e : natB (ns.drop i) = (decide (0 ≤ ns[i]) && natB (ns.drop (i + 1))) := by rw [List.drop_eq_getElem_cons hil]; rfl
    simp only [cisternref07_Right.l0]
    rw [if_pos (by omega), if_pos (by omega), rd_get ns i hil]
    by_cases h : ns[i] < 0
    · rw [if_pos h, e, decide_eq_false (by omega)]
      simp
    · rw [if_neg h, wsuc i (by omega), ih k (i + 1) (by omega) (by omega), e, decide_eq_true (by omega), Bool.true_and]
def refRightB (kind : Int) (ns : List Int) (t : ByteArray) : Bool := decide (1 ≤ kind ∧ kind ≤ 3) && rightB kind ns t
theorem count_val (kind : Int) (h0 : 1 ≤ kind) (h3 : kind ≤ 3) : cisternref07_count.f kind = some (cnt kind : Int) := by
  have : kind = 1 ∨ kind = 2 ∨ kind = 3 := by omega
  rcases this with rfl | rfl | rfl <;> rfl
theorem refright_val (kind : Int) (ns : List Int) (t : ByteArray) (k : Nat) (hk : 20 ≤ k) : cisternref07_Right.f k kind ns t = some (refRightB kind ns t) := by
  obtain ⟨k, rfl⟩ : ∃ m, k = m + 1 := ⟨k - 1, by omega⟩
  unfold cisternref07_Right.f refRightB
  by_cases h0 : kind < 1
  · rw [if_pos h0, decide_eq_false (by omega)]
    simp [cisternref07_Right.j0]
  · rw [if_neg h0]
    by_cases h3 : kind > 3
    · rw [if_pos h3, decide_eq_false (by omega)]
      simp [cisternref07_Right.j0]
    · rw [if_neg h3, count_val kind (by omega) (by omega), Option.bind_some, show decide (1 ≤ kind ∧ kind ≤ 3) = true from decide_eq_true ⟨by omega, by omega⟩, Bool.true_and]
      by_cases hl : ns.length = cnt kind
      · rw [if_pos (by omega)]
        simp only [cisternref07_Right.j0]
        by_cases hs : 160 < t.size
        · rw [decide_eq_true (show (t.size : Int) > 160 by omega), if_pos rfl]
          simp [rightB, show ¬ t.size ≤ 160 by omega]
        · rw [decide_eq_false (show ¬ (t.size : Int) > 160 by omega), if_neg (by decide), show (0 : Int) = ((0 : Nat) : Int) from rfl, refright_tells kind ns t (by omega) (by omega) hl (by omega) ns.length k 0 (by omega) (by have := cnt_le kind; omega)]
          rw [List.drop_zero]
          unfold rightB
          rw [decide_eq_true (show t.size ≤ 160 by omega), Bool.true_and]
          congr 2
          by_cases k1 : kind = 1
          · rw [if_pos k1, if_pos k1, decide_eq_true (by rw [hl, k1]; rfl), Bool.true_and]
          · rw [if_neg k1, if_neg k1]
            by_cases k2 : kind = 2
            · rw [if_pos k2, if_pos k2]
            · rw [if_neg k2, if_neg k2]
              symm
              exact decide_eq_true (by rw [hl]; unfold cnt; rw [if_neg k1, if_neg k2])
      · rw [if_neg (by omega)]
        simp only [cisternref07_Right.j0]
        rw [if_pos trivial]
        cases hh : rightB kind ns t
        · rfl
        · exact absurd (rightB_len hh).1 hl
theorem refencode_sec (l : List S77) (hc : pack_checkV l = 0) (h : (encL l).length ≤ 250) (k : Nat) (hk : 5000 ≤ k) :
    ((cisternref03_Encode.f l).bind fun t247 => ((cisternref03_Seal.f k t247).bind fun t248 => ((cisternref03_DocFrame.f t248 256).bind fun bt249 => (some bt249.1)))) = some (strOfNums (secL l)) := by
  have hb := encL_byteL l
  have e0 : cisternref03_Encode.f l = some (strOfNums (encL l)) := by unfold cisternref03_Encode.f; rw [if_pos (check_ok hc).1]
  rw [e0, Option.bind_some, refseal_val _ (by rw [size_strOfNums]; omega) k (by rw [size_strOfNums]; omega), bytesOf_strOfNums _ hb, Option.bind_some]
  have e3 : cisternref03_DocFrame.f (strOfNums (sealL (encL l))) 256 = some (strOfNums (secL l), 0) := by
    unfold cisternref03_DocFrame.f frameV
    rw [bytesOf_strOfNums _ (sealL_byteL hb), size_strOfNums, sealL_length, if_pos (by omega), if_neg (by omega), if_neg (by omega)]
    rfl
  rw [e3]
  rfl
theorem refenc_tells (kind : Int) (ns : List Int) (t : ByteArray) (hn : ns.length ≤ 7) (hs : tsz (txt kind t) ≤ 160) : ∀ (d k i : Nat), i + d = ns.length → d + 5000 < k →
    cisternref07_Encode.l0 k (numI (kind :: ns.take i)) (i : Int) kind ns t = some (strOfNums (secL (recI (kind :: ns) (txt kind t)))) := by
  have hsm := small_enc kind ns (txt kind t) hn hs
  have hck := recI_check (kind :: ns) (txt kind t) (by simp; omega) hs
  intro d
  induction d with
  | zero =>
    intro k i hi hk
    obtain ⟨k, rfl⟩ : ∃ m, k = m + 1 := ⟨k - 1, by omega⟩
    simp only [cisternref07_Encode.l0]
    rw [if_neg (by omega), List.take_of_length_le (by omega)]
    simp only [cisternref07_texted.f]
    rw [Option.bind_some]
    by_cases k1 : kind = 1
    · rw [if_neg (by simp [k1])]
      have e : numI (kind :: ns) = recI (kind :: ns) (txt kind t) := by simp [recI, txt, k1, textI]
      rw [e]
      exact refencode_sec _ hck hsm k (by omega)
    · rw [if_pos (by simp [k1]), if_pos (by simp [numI]; omega)]
      have e : numI (kind :: ns) ++ [⟨2, 0, t⟩] = recI (kind :: ns) (txt kind t) := by simp [recI, txt, k1, textI]
      rw [e]
      exact refencode_sec _ hck hsm k (by omega)
  | succ d ih =>
    intro k i hi hk
    obtain ⟨k, rfl⟩ : ∃ m, k = m + 1 := ⟨k - 1, by omega⟩
    have hil : i < ns.length := by omega
    simp only [cisternref07_Encode.l0]
    rw [if_pos (by omega), if_pos (by omega), if_pos (by simp [numI]; omega), wsuc i (by omega), rd_get ns i hil]
    have e : numI (kind :: ns.take i) ++ [⟨1, ns[i], ⟨#[]⟩⟩] = numI (kind :: ns.take (i + 1)) := by
      rw [List.take_succ_eq_append_getElem hil]
      simp only [numI, List.map_append, List.map_cons, List.map_nil, List.cons_append]
    rw [e]
    exact ih k (i + 1) (by omega) (by omega)
theorem refenc_val (kind : Int) (ns : List Int) (t : ByteArray) (h : rightB kind ns t = true) (k : Nat) (hk : 6000 ≤ k) : cisternref07_Encode.f k kind ns t = some (strOfNums (secL (recI (kind :: ns) (txt kind t)))) := by
  have hl := (rightB_len h).1
  have hc := cnt_le kind
  exact refenc_tells kind ns t (by omega) (txt_get h).2 ns.length k 0 (by omega) (by omega)
theorem docencode_val (kind : Int) (ns : List Int) (t : ByteArray) (h0 : 1 ≤ kind) (h3 : kind ≤ 3) (k : Nat) (hk : 6000 ≤ k) : cisternref07_DocEncode.f k kind ns t = some (strOfNums (encV kind ns t).1, (encV kind ns t).2) := by
  unfold cisternref07_DocEncode.f encV
  rw [refright_val kind ns t k (by omega), Option.bind_some]
  have : refRightB kind ns t = rightB kind ns t := by unfold refRightB; rw [decide_eq_true ⟨h0, h3⟩, Bool.true_and]
  rw [this]
  cases hr : rightB kind ns t
  · rfl
  · rw [if_pos rfl, refenc_val kind ns t hr k hk]
    rfl
end
end Go.Proofs.YtmkkeccmjejfnaaDoor.PA
namespace Go.Proofs.YtmkkeccmjejfnaaDoor.PA
section

open Go.RowKit Go.Proofs.YtmkkeccmjejfnaaDoorW.PrintWords Go.Proofs.YtmkkeccmjejfnaaDoorW.PrintLast Go.Proofs.YtmkkeccmjejfnaaDoorW.PrintMore
set_option linter.unusedVariables false
set_option linter.unusedSimpArgs false
theorem alloc3 (w : World) (o0 o1 o2 : Obj) : (((w.alloc o0).alloc o1).alloc o2).heap[w.heap.size]? = some o0 ∧ (((w.alloc o0).alloc o1).alloc o2).heap[w.heap.size + 1]? = some o1 ∧ (((w.alloc o0).alloc o1).alloc o2).heap[w.heap.size + 2]? = some o2 ∧ Below w.heap.size w (((w.alloc o0).alloc o1).alloc o2) := by
  have h0 := heap_alloc_new w o0
  have h1 := heap_alloc_new (w.alloc o0) o1
  have h2 := heap_alloc_new ((w.alloc o0).alloc o1) o2
  have s1 : (w.alloc o0).heap.size = w.heap.size + 1 := by simp
  have s2 : ((w.alloc o0).alloc o1).heap.size = w.heap.size + 2 := by simp
  have b1 := below_alloc (Below.refl (w.alloc o0).heap.size (w.alloc o0)) o1
  have b2 := below_alloc (Below.refl ((w.alloc o0).alloc o1).heap.size ((w.alloc o0).alloc o1)) o2
  refine ⟨?_, ?_, ?_, below_alloc (below_alloc (below_alloc (Below.refl _ _) _) _) _⟩
  · rw [b2.block _ (by omega), b1.block _ (by omega), h0]
  · rw [b2.block _ (by omega), ← s1, h1]
  · rw [← s2, h2]
theorem boxc3 {W : World} {g : Nat} {t : TypeId} {c0 c1 c2 : Value} (h : W.heap[g]? = some (.cells #[c0, c1, c2] t (0, 0))) : W.cell? ⟨g, 0, none⟩ = some c0 ∧ W.cell? ⟨g, 1, none⟩ = some c1 ∧ W.cell? ⟨g, 2, none⟩ = some c2 := ⟨(blk_cell h 0).trans rfl, (blk_cell h 1).trans rfl, (blk_cell h 2).trans rfl⟩
theorem boxc8 {W : World} {g : Nat} {t : TypeId} {c0 c1 c2 c3 c4 c5 c6 c7 : Value} (h : W.heap[g]? = some (.cells #[c0, c1, c2, c3, c4, c5, c6, c7] t (0, 0))) : W.cell? ⟨g, 0, none⟩ = some c0 ∧ W.cell? ⟨g, 1, none⟩ = some c1 ∧ W.cell? ⟨g, 2, none⟩ = some c2 ∧ W.cell? ⟨g, 3, none⟩ = some c3 ∧ W.cell? ⟨g, 4, none⟩ = some c4 ∧ W.cell? ⟨g, 5, none⟩ = some c5 ∧ W.cell? ⟨g, 6, none⟩ = some c6 ∧ W.cell? ⟨g, 7, none⟩ = some c7 := ⟨(blk_cell h 0).trans rfl, (blk_cell h 1).trans rfl, (blk_cell h 2).trans rfl, (blk_cell h 3).trans rfl, (blk_cell h 4).trans rfl, (blk_cell h 5).trans rfl, (blk_cell h 6).trans rfl, (blk_cell h 7).trans rfl⟩
theorem boxc2 {W : World} {g : Nat} {t : TypeId} {c0 c1 : Value} (h : W.heap[g]? = some (.cells #[c0, c1] t (0, 0))) : W.cell? ⟨g, 0, none⟩ = some c0 ∧ W.cell? ⟨g, 1, none⟩ = some c1 := ⟨(blk_cell h 0).trans rfl, (blk_cell h 1).trans rfl⟩
theorem encV_some (kind : Int) (ns : List Int) (t : ByteArray) : ∃ x y, encV kind ns t = (x, y) := ⟨_, _, rfl⟩
set_option maxHeartbeats 2000000 in
set_option maxRecDepth 100000 in
theorem cisternlaw07_RecordEncodes.walk (s0 s1 s2 g0 g1 g2 g3 g4 g5 g6 : Int) (gt : ByteArray) (p0 : Int) (pt : ByteArray) (w : World)
    (_w0 : ((Lit.int .i64 s0).wf = true) ∧ ((Lit.int .i64 s1).wf = true) ∧ ((Lit.int .i64 s2).wf = true)) (_w1 : ((Lit.int .i64 g0).wf = true) ∧ ((Lit.int .i64 g1).wf = true) ∧ ((Lit.int .i64 g2).wf = true) ∧ ((Lit.int .i64 g3).wf = true) ∧ ((Lit.int .i64 g4).wf = true) ∧ ((Lit.int .i64 g5).wf = true) ∧ ((Lit.int .i64 g6).wf = true) ∧ (gt.size ≤ maxLen)) (_w2 : ((Lit.int .i64 p0).wf = true) ∧ (pt.size ≤ maxLen)) :
    Calls Tryd.prog 3 #[.agg #[.int .i64 s0, .int .i64 s1, .int .i64 s2], .agg #[.int .i64 g0, .int .i64 g1, .int .i64 g2, .int .i64 g3, .int .i64 g4, .int .i64 g5, .int .i64 g6, .string gt], .agg #[.int .i64 p0, .string pt]] w fun e w' => e = .returned (.bool true) ∧ Below w.heap.size w w' := by
  clear _w0 _w1 _w2
  go_enter Tryd.func3, Tryd.ntmps3
  go_wp2_with fail
  refine (cisternlaw07_known.calls 300000 true _ (known_val _ (Nat.le_refl _))).mono ?_
  rintro e wa ⟨rfl, hB⟩
  obtain ⟨a0, a1, a2, ab⟩ := alloc3 w (.cells #[.int .i64 s0, .int .i64 s1, .int .i64 s2] 23) (.cells #[.int .i64 g0, .int .i64 g1, .int .i64 g2, .int .i64 g3, .int .i64 g4, .int .i64 g5, .int .i64 g6, .string gt] 25) (.cells #[.int .i64 p0, .string pt] 27)
  have X0 := Aside0.mk ((hB.block w.heap.size (by simp <;> omega)).trans a0)
  have X1 := Aside0.mk ((hB.block (w.heap.size + 1) (by simp <;> omega)).trans a1)
  have X2 := Aside0.mk ((hB.block (w.heap.size + 2) (by simp <;> omega)).trans a2)
  have HZ := Aside0.mk (show w.heap.size + 3 ≤ wa.heap.size by have := hB.size; simp at this; omega)
  have BA := Aside0.mk (ab.trans (hB.mono (by simp <;> omega)))
  clear hB a0 a1 a2 ab
  obtain ⟨x0, y0, hv0⟩ := encV_some 1 [s0, s1, s2] ⟨#[]⟩
  have D0 : Aside0 (cisternref07_DocEncode.f 10000 1 [s0, s1, s2] ⟨#[]⟩ = some (strOfNums x0, y0)) := ⟨by rw [docencode_val 1 [s0, s1, s2] ⟨#[]⟩ (by omega) (by omega) 10000 (by omega), hv0]⟩
  have E0 : Aside0 (record_EncodeSuper.f 10000 s0 s1 s2 = some (x0, y0)) := ⟨by rw [encodeSuper_val s0 s1 s2 10000 (by omega), hv0]⟩
  clear hv0
  obtain ⟨k0, k1, k2⟩ := boxc3 X0.out
  go_wp2_with fail
  refine (cisternlaw07_superRec.calls s0 s1 s2 _ _ _ wa rfl).mono ?_
  rintro e wr0 ⟨v, rfl, hR, hB⟩
  obtain ⟨Ar, cr, rfl, hcr, hCr⟩ := Kd.R_reads hR
  have CR := Aside0.mk hCr
  have CL := Aside0.mk hcr
  have BR0 := Aside0.mk (BA.out.trans (hB.mono BA.out.size))
  have T0 := Aside0.mk hB.size
  have U0 := Aside0.mk hB
  clear hR hB hcr hCr k0 k1 k2
  go_wp2_with fail
  refine (cisternref07_DocEncode.calls 10000 1 Ar cr [s0, s1, s2] ⟨#[]⟩ (strOfNums x0) y0 wr0 CR.out CL.out D0.out).mono ?_
  rintro e wd0 ⟨rfl, hB⟩
  have BD0 := Aside0.mk (BR0.out.trans (hB.mono BR0.out.size))
  have V0 := Aside0.mk (U0.out.trans (hB.mono T0.out))
  clear hB
  have XX := Aside0.mk ((V0.out.block (w.heap.size) (by have := HZ.out; omega)).trans X0.out)
  obtain ⟨k0, k1, k2⟩ := boxc3 XX.out
  go_wp2_with fail
  refine (record_EncodeSuper.calls 10000 s0 s1 s2 x0 y0 wd0 E0.out).mono ?_
  rintro e we0 ⟨v, rfl, hR, hB⟩
  obtain ⟨Ae, ce, rfl, hce, hCe⟩ := Kd.R_reads hR
  have cv0 := fun c => Kd.C_string (c := c) (P := Tryd.prog) Tryd.underlying36 Tryd.underlying5 Tryd.underlying9 hCe
  have BE0 := Aside0.mk (BD0.out.trans (hB.mono BD0.out.size))
  have YY := Aside0.mk (V0.out.trans (hB.mono V0.out.size))
  have HZ0 := Aside0.mk (Nat.le_trans HZ.out YY.out.size)
  clear hR hB hce hCe k0 k1 k2
  replace X1 := Aside0.mk ((YY.out.block (w.heap.size + 1) (by have := HZ.out; omega)).trans X1.out)
  replace X2 := Aside0.mk ((YY.out.block (w.heap.size + 2) (by have := HZ.out; omega)).trans X2.out)
  replace HZ := HZ0
  clear CR CL XX YY
  obtain ⟨x1, y1, hv1⟩ := encV_some 2 [g0, g1, g2, g3, g4, g5, g6] gt
  have D1 : Aside0 (cisternref07_DocEncode.f 10000 2 [g0, g1, g2, g3, g4, g5, g6] gt = some (strOfNums x1, y1)) := ⟨by rw [docencode_val 2 [g0, g1, g2, g3, g4, g5, g6] gt (by omega) (by omega) 10000 (by omega), hv1]⟩
  have E1 : Aside0 (record_EncodeLog.f 10000 g0 g1 g2 g3 g4 g5 g6 gt = some (x1, y1)) := ⟨by rw [encodeLog_val g0 g1 g2 g3 g4 g5 g6 gt 10000 (by omega), hv1]⟩
  clear hv1
  obtain ⟨k0, k1, k2, k3, k4, k5, k6, k7⟩ := boxc8 X1.out
  go_wp2_with fail
  refine (cisternlaw07_logRec.calls g0 g1 g2 g3 g4 g5 g6 gt _ _ _ we0 rfl).mono ?_
  rintro e wr1 ⟨v, rfl, hR, hB⟩
  obtain ⟨Ar, cr, rfl, hcr, hCr⟩ := Kd.R_reads hR
  have CR := Aside0.mk hCr
  have CL := Aside0.mk hcr
  have BR1 := Aside0.mk (BE0.out.trans (hB.mono BE0.out.size))
  have T1 := Aside0.mk hB.size
  have U1 := Aside0.mk hB
  clear hR hB hcr hCr k0 k1 k2 k3 k4 k5 k6 k7
  go_wp2_with fail
  refine (cisternref07_DocEncode.calls 10000 2 Ar cr [g0, g1, g2, g3, g4, g5, g6] gt (strOfNums x1) y1 wr1 CR.out CL.out D1.out).mono ?_
  rintro e wd1 ⟨rfl, hB⟩
  have BD1 := Aside0.mk (BR1.out.trans (hB.mono BR1.out.size))
  have V1 := Aside0.mk (U1.out.trans (hB.mono T1.out))
  clear hB
  have XX := Aside0.mk ((V1.out.block (w.heap.size + 1) (by have := HZ.out; omega)).trans X1.out)
  obtain ⟨k0, k1, k2, k3, k4, k5, k6, k7⟩ := boxc8 XX.out
  go_wp2_with fail
  refine (record_EncodeLog.calls 10000 g0 g1 g2 g3 g4 g5 g6 gt x1 y1 wd1 E1.out).mono ?_
  rintro e we1 ⟨v, rfl, hR, hB⟩
  obtain ⟨Ae, ce, rfl, hce, hCe⟩ := Kd.R_reads hR
  have cv1 := fun c => Kd.C_string (c := c) (P := Tryd.prog) Tryd.underlying36 Tryd.underlying5 Tryd.underlying9 hCe
  have BE1 := Aside0.mk (BD1.out.trans (hB.mono BD1.out.size))
  have YY := Aside0.mk (V1.out.trans (hB.mono V1.out.size))
  have HZ1 := Aside0.mk (Nat.le_trans HZ.out YY.out.size)
  clear hR hB hce hCe k0 k1 k2 k3 k4 k5 k6 k7
  replace X2 := Aside0.mk ((YY.out.block (w.heap.size + 2) (by have := HZ.out; omega)).trans X2.out)
  replace HZ := HZ1
  clear CR CL XX YY
  obtain ⟨x2, y2, hv2⟩ := encV_some 3 [p0] pt
  have D2 : Aside0 (cisternref07_DocEncode.f 10000 3 [p0] pt = some (strOfNums x2, y2)) := ⟨by rw [docencode_val 3 [p0] pt (by omega) (by omega) 10000 (by omega), hv2]⟩
  have E2 : Aside0 (record_EncodeHome.f 10000 p0 pt = some (x2, y2)) := ⟨by rw [encodeHome_val p0 pt 10000 (by omega), hv2]⟩
  clear hv2
  obtain ⟨k0, k1⟩ := boxc2 X2.out
  go_wp2_with fail
  refine (cisternlaw07_homeRec.calls p0 pt _ _ _ we1 rfl).mono ?_
  rintro e wr2 ⟨v, rfl, hR, hB⟩
  obtain ⟨Ar, cr, rfl, hcr, hCr⟩ := Kd.R_reads hR
  have CR := Aside0.mk hCr
  have CL := Aside0.mk hcr
  have BR2 := Aside0.mk (BE1.out.trans (hB.mono BE1.out.size))
  have T2 := Aside0.mk hB.size
  have U2 := Aside0.mk hB
  clear hR hB hcr hCr k0 k1
  go_wp2_with fail
  refine (cisternref07_DocEncode.calls 10000 3 Ar cr [p0] pt (strOfNums x2) y2 wr2 CR.out CL.out D2.out).mono ?_
  rintro e wd2 ⟨rfl, hB⟩
  have BD2 := Aside0.mk (BR2.out.trans (hB.mono BR2.out.size))
  have V2 := Aside0.mk (U2.out.trans (hB.mono T2.out))
  clear hB
  have XX := Aside0.mk ((V2.out.block (w.heap.size + 2) (by have := HZ.out; omega)).trans X2.out)
  obtain ⟨k0, k1⟩ := boxc2 XX.out
  go_wp2_with fail
  refine (record_EncodeHome.calls 10000 p0 pt x2 y2 wd2 E2.out).mono ?_
  rintro e we2 ⟨v, rfl, hR, hB⟩
  obtain ⟨Ae, ce, rfl, hce, hCe⟩ := Kd.R_reads hR
  have cv2 := fun c => Kd.C_string (c := c) (P := Tryd.prog) Tryd.underlying36 Tryd.underlying5 Tryd.underlying9 hCe
  have BE2 := Aside0.mk (BD2.out.trans (hB.mono BD2.out.size))
  have YY := Aside0.mk (V2.out.trans (hB.mono V2.out.size))
  have HZ2 := Aside0.mk (Nat.le_trans HZ.out YY.out.size)
  clear hR hB hce hCe k0 k1
  replace HZ := HZ2
  clear CR CL XX YY
  go_wp2_with fail
  go_ret
  exact ⟨by simp, BE2.out⟩
end
end Go.Proofs.YtmkkeccmjejfnaaDoor.PA
