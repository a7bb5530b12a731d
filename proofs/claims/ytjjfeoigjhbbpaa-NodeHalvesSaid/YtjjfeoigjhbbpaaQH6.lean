/- Texts of this claim: contracts of the functions that the statement reaches, and plain laws of what they compute. -/
import Derived.Test.YtjjfeoigjhbbpaaQH5
set_option linter.unusedVariables false
set_option linter.unusedSimpArgs false
namespace Go.Proofs.Ytjjfeoigjhbbpaa.PA
section

open Go.RowKit Go.Proofs.YtjjfeoigjhbbpaaW.PrintWords Go.Proofs.YtjjfeoigjhbbpaaW.PrintLast Go.Proofs.YtjjfeoigjhbbpaaW.PrintMore
attribute [local go_sem] pr_leq pr_geq pr_gtr max2_int min2_int max_two min_two max_three min_three max_four min_four
set_option linter.unusedVariables false
set_option linter.unusedSimpArgs false
set_option maxHeartbeats 4000000 in
set_option maxRecDepth 100000 in
theorem dsplit_bad (a : Bool) (A1 : Option Addr) (c1 : Nat) (l1 : List S48) (A2 : Option Addr) (c2 : Nat) (l2 : List ByteArray) (A3 : Option Addr) (c3 : Nat) (l3 : List Int) (w : World) (hr1 : Kd.C k48 w A1 l1.length l1) (hc1 : l1.length ≤ c1) (hr2 : Kd.C Kd.string w A2 l2.length l2) (hc2 : l2.length ≤ c2) (hr3 : Kd.C (Kd.int .i64) w A3 l3.length l3) (hc3 : l3.length ≤ c3) (hf : ¬ (leafV a l1 l2 l3 || innerV a l1 l2 l3) = true) :
    Calls Try.prog 17 #[.agg #[.bool a, .slice A1 l1.length c1, .slice A2 l2.length c2, .slice A3 l3.length c3]] w fun e w' => ∃ v1_ v2_ v3_ u1_ u2_ u3_ : Value, e = .returned (.tuple #[.agg #[.bool false, v1_, v2_, v3_], .string ⟨#[]⟩, .agg #[.bool false, u1_, u2_, u3_], .int .i64 2]) ∧ Kd.R k48 48 w' w.heap.size (fun _ => True) v1_ ([] : List S48) ∧ Kd.R Kd.string 9 w' w.heap.size (fun _ => True) v2_ ([] : List ByteArray) ∧ Kd.R (Kd.int .i64) 3 w' w.heap.size (fun _ => True) v3_ ([] : List Int) ∧ Kd.R k48 48 w' w.heap.size (fun _ => True) u1_ ([] : List S48) ∧ Kd.R Kd.string 9 w' w.heap.size (fun _ => True) u2_ ([] : List ByteArray) ∧ Kd.R (Kd.int .i64) 3 w' w.heap.size (fun _ => True) u3_ ([] : List Int) ∧ Below w.heap.size w w' := by
  have CK := Aside0.mk (fun W hw => cisternref11_Right.calls a A1 c1 l1 A2 c2 l2 A3 c3 l3 false W (Kd.C_below hr1 hw) hc1 (Kd.C_below hr2 hw) hc2 (Kd.C_below hr3 hw) hc3 (by rw [right_val, Bool.eq_false_iff.2 hf]))
  have HR1 := Aside0.mk hr1
  have HR2 := Aside0.mk hr2
  have HR3 := Aside0.mk hr3
  clear hr1 hr2 hr3
  clear hf
  have BB0 := Below.refl w.heap.size w
  obtain ⟨wp0, hwp0⟩ : ∃ x, x = w.alloc (.cells #[.bool a, .slice A1 l1.length c1, .slice A2 l2.length c2, .slice A3 l3.length c3] 26) := ⟨_, rfl⟩
  have t_n := heap_alloc_new w (.cells #[.bool a, .slice A1 l1.length c1, .slice A2 l2.length c2, .slice A3 l3.length c3] 26)
  rw [← hwp0] at t_n
  have BB1 : Below w.heap.size w wp0 := by rw [hwp0]; exact below_alloc BB0 _
  have sz0 : wp0.heap.size = w.heap.size + 1 := by rw [hwp0]; simp
  obtain ⟨wp1, hwp1⟩ : ∃ x, x = wp0.alloc (.cells #[.bool false, .slice none 0 0, .slice none 0 0, .slice none 0 0] 26) := ⟨_, rfl⟩
  have t_r := heap_alloc_new wp0 (.cells #[.bool false, .slice none 0 0, .slice none 0 0, .slice none 0 0] 26)
  rw [← hwp1] at t_r
  rw [sz0] at t_r
  have BB2 : Below w.heap.size w wp1 := by rw [hwp1]; exact below_alloc BB1 _
  have sz1 : wp1.heap.size = w.heap.size + 2 := by rw [hwp1]; simp [sz0]
  replace t_n := (show wp1.heap[_]? = wp0.heap[_]? by rw [hwp1]; exact Lib.alloc_old wp0 (.cells #[.bool false, .slice none 0 0, .slice none 0 0, .slice none 0 0] 26) _ (blk_lt t_n)).trans t_n
  obtain ⟨wp2, hwp2⟩ : ∃ x, x = wp1.alloc (.cells #[.bool false, .slice none 0 0, .slice none 0 0, .slice none 0 0] 26) := ⟨_, rfl⟩
  have t_q := heap_alloc_new wp1 (.cells #[.bool false, .slice none 0 0, .slice none 0 0, .slice none 0 0] 26)
  rw [← hwp2] at t_q
  rw [sz1] at t_q
  have BB3 : Below w.heap.size w wp2 := by rw [hwp2]; exact below_alloc BB2 _
  have sz2 : wp2.heap.size = w.heap.size + 3 := by rw [hwp2]; simp [sz1]
  replace t_n := (show wp2.heap[_]? = wp1.heap[_]? by rw [hwp2]; exact Lib.alloc_old wp1 (.cells #[.bool false, .slice none 0 0, .slice none 0 0, .slice none 0 0] 26) _ (blk_lt t_n)).trans t_n
  replace t_r := (show wp2.heap[_]? = wp1.heap[_]? by rw [hwp2]; exact Lib.alloc_old wp1 (.cells #[.bool false, .slice none 0 0, .slice none 0 0, .slice none 0 0] 26) _ (blk_lt t_r)).trans t_r
  have HW0 : Aside0 (wp2 = (((w.alloc (.cells #[.bool a, .slice A1 l1.length c1, .slice A2 l2.length c2, .slice A3 l3.length c3] 26)).alloc (.cells #[.bool false, .slice none 0 0, .slice none 0 0, .slice none 0 0] 26)).alloc (.cells #[.bool false, .slice none 0 0, .slice none 0 0, .slice none 0 0] 26))) := ⟨by rw [hwp2, hwp1, hwp0]⟩
  have T_n := Aside0.mk t_n
  have T_r := Aside0.mk t_r
  have T_q := Aside0.mk t_q
  have BB := Aside0.mk BB3
  have SZ0 := Aside0.mk sz2
  clear t_n t_r t_q BB0 BB1 BB2 BB3 sz0 sz1 sz2 hwp0 hwp1 hwp2
  go_enter Try.func17, Try.ntmps17
  have c_n0 := bc T_n 0 rfl; have c_n1 := bc T_n 1 rfl; have c_n2 := bc T_n 2 rfl; have c_n3 := bc T_n 3 rfl
  go_wp2_with fail
  rw [← HW0.out]
  refine (CK.out _ BB.out).mono ?_
  rintro e w1 ⟨rfl, hB⟩
  replace T_n := bm hB T_n; replace T_r := bm hB T_r; replace T_q := bm hB T_q; replace BB := xm hB BB
  clear hB
  clear c_n0 c_n1 c_n2 c_n3
  have c_r0 := bc T_r 0 rfl; have f_r0 := bf T_r 0; have c_r1 := bc T_r 1 rfl; have f_r1 := bf T_r 1; have c_r2 := bc T_r 2 rfl; have f_r2 := bf T_r 2; have c_r3 := bc T_r 3 rfl; have f_r3 := bf T_r 3
  have c_q0 := bc T_q 0 rfl; have f_q0 := bf T_q 0; have c_q1 := bc T_q 1 rfl; have f_q1 := bf T_q 1; have c_q2 := bc T_q 2 rfl; have f_q2 := bf T_q 2; have c_q3 := bc T_q 3 rfl; have f_q3 := bf T_q 3
  go_wp2_with fail
  clear c_r0 f_r0 c_r1 f_r1 c_r2 f_r2 c_r3 f_r3 c_q0 f_q0 c_q1 f_q1 c_q2 f_q2 c_q3 f_q3
  have hg := nd_grown4 w1 (w.heap.size + 1) (.bool false) (.slice none 0 0) (.slice none 0 0) (.slice none 0 0)
  have tn := nd_put4 w1 (w.heap.size + 1) 26 _ _ _ _ (.bool false) (.slice none 0 0) (.slice none 0 0) (.slice none 0 0) T_r.out
  obtain ⟨w2, hw2⟩ : ∃ x, x = ((((w1.setCell ⟨(w.heap.size + 1), 0, none⟩ (.bool false)).setCell ⟨(w.heap.size + 1), 1, none⟩ (.slice none 0 0)).setCell ⟨(w.heap.size + 1), 2, none⟩ (.slice none 0 0)).setCell ⟨(w.heap.size + 1), 3, none⟩ (.slice none 0 0)) := ⟨_, rfl⟩
  rw [← hw2] at hg tn
  rw [← hw2]
  clear hw2
  replace T_n := bg hg T_n (by omega)
  replace T_q := bg hg T_q (by omega)
  replace BB := Aside0.mk (nd_grown_below hg BB.out BB.out.size (by omega))
  replace T_r := Aside0.mk tn
  clear tn hg
  have hg := nd_grown4 w2 (w.heap.size + 2) (.bool false) (.slice none 0 0) (.slice none 0 0) (.slice none 0 0)
  have tn := nd_put4 w2 (w.heap.size + 2) 26 _ _ _ _ (.bool false) (.slice none 0 0) (.slice none 0 0) (.slice none 0 0) T_q.out
  obtain ⟨w3, hw3⟩ : ∃ x, x = ((((w2.setCell ⟨(w.heap.size + 2), 0, none⟩ (.bool false)).setCell ⟨(w.heap.size + 2), 1, none⟩ (.slice none 0 0)).setCell ⟨(w.heap.size + 2), 2, none⟩ (.slice none 0 0)).setCell ⟨(w.heap.size + 2), 3, none⟩ (.slice none 0 0)) := ⟨_, rfl⟩
  rw [← hw3] at hg tn
  rw [← hw3]
  clear hw3
  replace T_n := bg hg T_n (by omega)
  replace T_r := bg hg T_r (by omega)
  replace BB := Aside0.mk (nd_grown_below hg BB.out BB.out.size (by omega))
  replace T_q := Aside0.mk tn
  clear tn hg
  refine bodyPost_ret (results_ctct rfl _ _ (w.heap.size + 1) (w.heap.size + 2) 26 26 #[.bool false, .slice none 0 0, .slice none 0 0, .slice none 0 0] #[.bool false, .slice none 0 0, .slice none 0 0, .slice none 0 0] (0, 0) (0, 0) _ _ rfl T_r.out Try.underlying26 rfl (by kernel_rfl) rfl T_q.out Try.underlying26 rfl (by kernel_rfl)) rfl ?_
  exact ⟨_, _, _, _, _, _, rfl, Kd.R_nil _ _ _ _ _, Kd.R_nil _ _ _ _ _, Kd.R_nil _ _ _ _ _, Kd.R_nil _ _ _ _ _, Kd.R_nil _ _ _ _ _, Kd.R_nil _ _ _ _ _, BB.out⟩
set_option maxHeartbeats 4000000 in
set_option maxRecDepth 100000 in
theorem dsplit_few_false (A1 : Option Addr) (c1 : Nat) (l1 : List S48) (A2 : Option Addr) (c2 : Nat) (l2 : List ByteArray) (A3 : Option Addr) (c3 : Nat) (l3 : List Int) (w : World) (hr1 : Kd.C k48 w A1 l1.length l1) (hc1 : l1.length ≤ c1) (hr2 : Kd.C Kd.string w A2 l2.length l2) (hc2 : l2.length ≤ c2) (hr3 : Kd.C (Kd.int .i64) w A3 l3.length l3) (hc3 : l3.length ≤ c3) (hf : (leafV false l1 l2 l3 || innerV false l1 l2 l3) = true) (hm : l3.length < 4) :
    Calls Try.prog 17 #[.agg #[.bool false, .slice A1 l1.length c1, .slice A2 l2.length c2, .slice A3 l3.length c3]] w fun e w' => ∃ v1_ v2_ v3_ u1_ u2_ u3_ : Value, e = .returned (.tuple #[.agg #[.bool false, v1_, v2_, v3_], .string ⟨#[]⟩, .agg #[.bool false, u1_, u2_, u3_], .int .i64 7]) ∧ Kd.R k48 48 w' w.heap.size (fun _ => True) v1_ ([] : List S48) ∧ Kd.R Kd.string 9 w' w.heap.size (fun _ => True) v2_ ([] : List ByteArray) ∧ Kd.R (Kd.int .i64) 3 w' w.heap.size (fun _ => True) v3_ ([] : List Int) ∧ Kd.R k48 48 w' w.heap.size (fun _ => True) u1_ ([] : List S48) ∧ Kd.R Kd.string 9 w' w.heap.size (fun _ => True) u2_ ([] : List ByteArray) ∧ Kd.R (Kd.int .i64) 3 w' w.heap.size (fun _ => True) u3_ ([] : List Int) ∧ Below w.heap.size w w' := by
  have CK := Aside0.mk (fun W hw => cisternref11_Right.calls false A1 c1 l1 A2 c2 l2 A3 c3 l3 true W (Kd.C_below hr1 hw) hc1 (Kd.C_below hr2 hw) hc2 (Kd.C_below hr3 hw) hc3 (by rw [right_val, hf]))
  have HR1 := Aside0.mk hr1
  have HR2 := Aside0.mk hr2
  have HR3 := Aside0.mk hr3
  clear hr1 hr2 hr3
  clear hf
  have d2 : decide ((l3.length : Int) < 4) = true := decide_eq_true (by omega)
  clear hm
  have BB0 := Below.refl w.heap.size w
  obtain ⟨wp0, hwp0⟩ : ∃ x, x = w.alloc (.cells #[.bool false, .slice A1 l1.length c1, .slice A2 l2.length c2, .slice A3 l3.length c3] 26) := ⟨_, rfl⟩
  have t_n := heap_alloc_new w (.cells #[.bool false, .slice A1 l1.length c1, .slice A2 l2.length c2, .slice A3 l3.length c3] 26)
  rw [← hwp0] at t_n
  have BB1 : Below w.heap.size w wp0 := by rw [hwp0]; exact below_alloc BB0 _
  have sz0 : wp0.heap.size = w.heap.size + 1 := by rw [hwp0]; simp
  obtain ⟨wp1, hwp1⟩ : ∃ x, x = wp0.alloc (.cells #[.bool false, .slice none 0 0, .slice none 0 0, .slice none 0 0] 26) := ⟨_, rfl⟩
  have t_r := heap_alloc_new wp0 (.cells #[.bool false, .slice none 0 0, .slice none 0 0, .slice none 0 0] 26)
  rw [← hwp1] at t_r
  rw [sz0] at t_r
  have BB2 : Below w.heap.size w wp1 := by rw [hwp1]; exact below_alloc BB1 _
  have sz1 : wp1.heap.size = w.heap.size + 2 := by rw [hwp1]; simp [sz0]
  replace t_n := (show wp1.heap[_]? = wp0.heap[_]? by rw [hwp1]; exact Lib.alloc_old wp0 (.cells #[.bool false, .slice none 0 0, .slice none 0 0, .slice none 0 0] 26) _ (blk_lt t_n)).trans t_n
  obtain ⟨wp2, hwp2⟩ : ∃ x, x = wp1.alloc (.cells #[.bool false, .slice none 0 0, .slice none 0 0, .slice none 0 0] 26) := ⟨_, rfl⟩
  have t_q := heap_alloc_new wp1 (.cells #[.bool false, .slice none 0 0, .slice none 0 0, .slice none 0 0] 26)
  rw [← hwp2] at t_q
  rw [sz1] at t_q
  have BB3 : Below w.heap.size w wp2 := by rw [hwp2]; exact below_alloc BB2 _
  have sz2 : wp2.heap.size = w.heap.size + 3 := by rw [hwp2]; simp [sz1]
  replace t_n := (show wp2.heap[_]? = wp1.heap[_]? by rw [hwp2]; exact Lib.alloc_old wp1 (.cells #[.bool false, .slice none 0 0, .slice none 0 0, .slice none 0 0] 26) _ (blk_lt t_n)).trans t_n
  replace t_r := (show wp2.heap[_]? = wp1.heap[_]? by rw [hwp2]; exact Lib.alloc_old wp1 (.cells #[.bool false, .slice none 0 0, .slice none 0 0, .slice none 0 0] 26) _ (blk_lt t_r)).trans t_r
  have HW0 : Aside0 (wp2 = (((w.alloc (.cells #[.bool false, .slice A1 l1.length c1, .slice A2 l2.length c2, .slice A3 l3.length c3] 26)).alloc (.cells #[.bool false, .slice none 0 0, .slice none 0 0, .slice none 0 0] 26)).alloc (.cells #[.bool false, .slice none 0 0, .slice none 0 0, .slice none 0 0] 26))) := ⟨by rw [hwp2, hwp1, hwp0]⟩
  have T_n := Aside0.mk t_n
  have T_r := Aside0.mk t_r
  have T_q := Aside0.mk t_q
  have BB := Aside0.mk BB3
  have SZ0 := Aside0.mk sz2
  clear t_n t_r t_q BB0 BB1 BB2 BB3 sz0 sz1 sz2 hwp0 hwp1 hwp2
  go_enter Try.func17, Try.ntmps17
  have c_n0 := bc T_n 0 rfl; have c_n1 := bc T_n 1 rfl; have c_n2 := bc T_n 2 rfl; have c_n3 := bc T_n 3 rfl
  go_wp2_with fail
  rw [← HW0.out]
  refine (CK.out _ BB.out).mono ?_
  rintro e w4 ⟨rfl, hB⟩
  replace T_n := bm hB T_n; replace T_r := bm hB T_r; replace T_q := bm hB T_q; replace BB := xm hB BB
  clear hB
  clear c_n0 c_n1 c_n2 c_n3
  have c_n0 := bc T_n 0 rfl; have c_n1 := bc T_n 1 rfl; have c_n2 := bc T_n 2 rfl; have c_n3 := bc T_n 3 rfl
  have c_r0 := bc T_r 0 rfl; have f_r0 := bf T_r 0; have c_r1 := bc T_r 1 rfl; have f_r1 := bf T_r 1; have c_r2 := bc T_r 2 rfl; have f_r2 := bf T_r 2; have c_r3 := bc T_r 3 rfl; have f_r3 := bf T_r 3
  have c_q0 := bc T_q 0 rfl; have f_q0 := bf T_q 0; have c_q1 := bc T_q 1 rfl; have f_q1 := bf T_q 1; have c_q2 := bc T_q 2 rfl; have f_q2 := bf T_q 2; have c_q3 := bc T_q 3 rfl; have f_q3 := bf T_q 3
  go_wp2_with fail
  clear c_r0 f_r0 c_r1 f_r1 c_r2 f_r2 c_r3 f_r3 c_q0 f_q0 c_q1 f_q1 c_q2 f_q2 c_q3 f_q3
  have hg := nd_grown4 w4 (w.heap.size + 1) (.bool false) (.slice none 0 0) (.slice none 0 0) (.slice none 0 0)
  have tn := nd_put4 w4 (w.heap.size + 1) 26 _ _ _ _ (.bool false) (.slice none 0 0) (.slice none 0 0) (.slice none 0 0) T_r.out
  obtain ⟨w5, hw5⟩ : ∃ x, x = ((((w4.setCell ⟨(w.heap.size + 1), 0, none⟩ (.bool false)).setCell ⟨(w.heap.size + 1), 1, none⟩ (.slice none 0 0)).setCell ⟨(w.heap.size + 1), 2, none⟩ (.slice none 0 0)).setCell ⟨(w.heap.size + 1), 3, none⟩ (.slice none 0 0)) := ⟨_, rfl⟩
  rw [← hw5] at hg tn
  rw [← hw5]
  clear hw5
  replace T_n := bg hg T_n (by omega)
  replace T_q := bg hg T_q (by omega)
  replace BB := Aside0.mk (nd_grown_below hg BB.out BB.out.size (by omega))
  replace T_r := Aside0.mk tn
  clear tn hg
  have hg := nd_grown4 w5 (w.heap.size + 2) (.bool false) (.slice none 0 0) (.slice none 0 0) (.slice none 0 0)
  have tn := nd_put4 w5 (w.heap.size + 2) 26 _ _ _ _ (.bool false) (.slice none 0 0) (.slice none 0 0) (.slice none 0 0) T_q.out
  obtain ⟨w6, hw6⟩ : ∃ x, x = ((((w5.setCell ⟨(w.heap.size + 2), 0, none⟩ (.bool false)).setCell ⟨(w.heap.size + 2), 1, none⟩ (.slice none 0 0)).setCell ⟨(w.heap.size + 2), 2, none⟩ (.slice none 0 0)).setCell ⟨(w.heap.size + 2), 3, none⟩ (.slice none 0 0)) := ⟨_, rfl⟩
  rw [← hw6] at hg tn
  rw [← hw6]
  clear hw6
  replace T_n := bg hg T_n (by omega)
  replace T_r := bg hg T_r (by omega)
  replace BB := Aside0.mk (nd_grown_below hg BB.out BB.out.size (by omega))
  replace T_q := Aside0.mk tn
  clear tn hg
  refine bodyPost_ret (results_ctct rfl _ _ (w.heap.size + 1) (w.heap.size + 2) 26 26 #[.bool false, .slice none 0 0, .slice none 0 0, .slice none 0 0] #[.bool false, .slice none 0 0, .slice none 0 0, .slice none 0 0] (0, 0) (0, 0) _ _ rfl T_r.out Try.underlying26 rfl (by kernel_rfl) rfl T_q.out Try.underlying26 rfl (by kernel_rfl)) rfl ?_
  exact ⟨_, _, _, _, _, _, rfl, Kd.R_nil _ _ _ _ _, Kd.R_nil _ _ _ _ _, Kd.R_nil _ _ _ _ _, Kd.R_nil _ _ _ _ _, Kd.R_nil _ _ _ _ _, Kd.R_nil _ _ _ _ _, BB.out⟩
set_option maxHeartbeats 4000000 in
set_option maxRecDepth 100000 in
theorem dsplit_few_true (A1 : Option Addr) (c1 : Nat) (l1 : List S48) (A2 : Option Addr) (c2 : Nat) (l2 : List ByteArray) (A3 : Option Addr) (c3 : Nat) (l3 : List Int) (w : World) (hr1 : Kd.C k48 w A1 l1.length l1) (hc1 : l1.length ≤ c1) (hr2 : Kd.C Kd.string w A2 l2.length l2) (hc2 : l2.length ≤ c2) (hr3 : Kd.C (Kd.int .i64) w A3 l3.length l3) (hc3 : l3.length ≤ c3) (hf : (leafV true l1 l2 l3 || innerV true l1 l2 l3) = true) (hm : l1.length < 2) :
    Calls Try.prog 17 #[.agg #[.bool true, .slice A1 l1.length c1, .slice A2 l2.length c2, .slice A3 l3.length c3]] w fun e w' => ∃ v1_ v2_ v3_ u1_ u2_ u3_ : Value, e = .returned (.tuple #[.agg #[.bool false, v1_, v2_, v3_], .string ⟨#[]⟩, .agg #[.bool false, u1_, u2_, u3_], .int .i64 7]) ∧ Kd.R k48 48 w' w.heap.size (fun _ => True) v1_ ([] : List S48) ∧ Kd.R Kd.string 9 w' w.heap.size (fun _ => True) v2_ ([] : List ByteArray) ∧ Kd.R (Kd.int .i64) 3 w' w.heap.size (fun _ => True) v3_ ([] : List Int) ∧ Kd.R k48 48 w' w.heap.size (fun _ => True) u1_ ([] : List S48) ∧ Kd.R Kd.string 9 w' w.heap.size (fun _ => True) u2_ ([] : List ByteArray) ∧ Kd.R (Kd.int .i64) 3 w' w.heap.size (fun _ => True) u3_ ([] : List Int) ∧ Below w.heap.size w w' := by
  have CK := Aside0.mk (fun W hw => cisternref11_Right.calls true A1 c1 l1 A2 c2 l2 A3 c3 l3 true W (Kd.C_below hr1 hw) hc1 (Kd.C_below hr2 hw) hc2 (Kd.C_below hr3 hw) hc3 (by rw [right_val, hf]))
  have HR1 := Aside0.mk hr1
  have HR2 := Aside0.mk hr2
  have HR3 := Aside0.mk hr3
  clear hr1 hr2 hr3
  clear hf
  have d2 : decide ((l1.length : Int) < 2) = true := decide_eq_true (by omega)
  clear hm
  have BB0 := Below.refl w.heap.size w
  obtain ⟨wp0, hwp0⟩ : ∃ x, x = w.alloc (.cells #[.bool true, .slice A1 l1.length c1, .slice A2 l2.length c2, .slice A3 l3.length c3] 26) := ⟨_, rfl⟩
  have t_n := heap_alloc_new w (.cells #[.bool true, .slice A1 l1.length c1, .slice A2 l2.length c2, .slice A3 l3.length c3] 26)
  rw [← hwp0] at t_n
  have BB1 : Below w.heap.size w wp0 := by rw [hwp0]; exact below_alloc BB0 _
  have sz0 : wp0.heap.size = w.heap.size + 1 := by rw [hwp0]; simp
  obtain ⟨wp1, hwp1⟩ : ∃ x, x = wp0.alloc (.cells #[.bool false, .slice none 0 0, .slice none 0 0, .slice none 0 0] 26) := ⟨_, rfl⟩
  have t_r := heap_alloc_new wp0 (.cells #[.bool false, .slice none 0 0, .slice none 0 0, .slice none 0 0] 26)
  rw [← hwp1] at t_r
  rw [sz0] at t_r
  have BB2 : Below w.heap.size w wp1 := by rw [hwp1]; exact below_alloc BB1 _
  have sz1 : wp1.heap.size = w.heap.size + 2 := by rw [hwp1]; simp [sz0]
  replace t_n := (show wp1.heap[_]? = wp0.heap[_]? by rw [hwp1]; exact Lib.alloc_old wp0 (.cells #[.bool false, .slice none 0 0, .slice none 0 0, .slice none 0 0] 26) _ (blk_lt t_n)).trans t_n
  obtain ⟨wp2, hwp2⟩ : ∃ x, x = wp1.alloc (.cells #[.bool false, .slice none 0 0, .slice none 0 0, .slice none 0 0] 26) := ⟨_, rfl⟩
  have t_q := heap_alloc_new wp1 (.cells #[.bool false, .slice none 0 0, .slice none 0 0, .slice none 0 0] 26)
  rw [← hwp2] at t_q
  rw [sz1] at t_q
  have BB3 : Below w.heap.size w wp2 := by rw [hwp2]; exact below_alloc BB2 _
  have sz2 : wp2.heap.size = w.heap.size + 3 := by rw [hwp2]; simp [sz1]
  replace t_n := (show wp2.heap[_]? = wp1.heap[_]? by rw [hwp2]; exact Lib.alloc_old wp1 (.cells #[.bool false, .slice none 0 0, .slice none 0 0, .slice none 0 0] 26) _ (blk_lt t_n)).trans t_n
  replace t_r := (show wp2.heap[_]? = wp1.heap[_]? by rw [hwp2]; exact Lib.alloc_old wp1 (.cells #[.bool false, .slice none 0 0, .slice none 0 0, .slice none 0 0] 26) _ (blk_lt t_r)).trans t_r
  have HW0 : Aside0 (wp2 = (((w.alloc (.cells #[.bool true, .slice A1 l1.length c1, .slice A2 l2.length c2, .slice A3 l3.length c3] 26)).alloc (.cells #[.bool false, .slice none 0 0, .slice none 0 0, .slice none 0 0] 26)).alloc (.cells #[.bool false, .slice none 0 0, .slice none 0 0, .slice none 0 0] 26))) := ⟨by rw [hwp2, hwp1, hwp0]⟩
  have T_n := Aside0.mk t_n
  have T_r := Aside0.mk t_r
  have T_q := Aside0.mk t_q
  have BB := Aside0.mk BB3
  have SZ0 := Aside0.mk sz2
  clear t_n t_r t_q BB0 BB1 BB2 BB3 sz0 sz1 sz2 hwp0 hwp1 hwp2
  go_enter Try.func17, Try.ntmps17
  have c_n0 := bc T_n 0 rfl; have c_n1 := bc T_n 1 rfl; have c_n2 := bc T_n 2 rfl; have c_n3 := bc T_n 3 rfl
  go_wp2_with fail
  rw [← HW0.out]
  refine (CK.out _ BB.out).mono ?_
  rintro e w7 ⟨rfl, hB⟩
  replace T_n := bm hB T_n; replace T_r := bm hB T_r; replace T_q := bm hB T_q; replace BB := xm hB BB
  clear hB
  clear c_n0 c_n1 c_n2 c_n3
  have c_n0 := bc T_n 0 rfl; have c_n1 := bc T_n 1 rfl; have c_n2 := bc T_n 2 rfl; have c_n3 := bc T_n 3 rfl
  have c_r0 := bc T_r 0 rfl; have f_r0 := bf T_r 0; have c_r1 := bc T_r 1 rfl; have f_r1 := bf T_r 1; have c_r2 := bc T_r 2 rfl; have f_r2 := bf T_r 2; have c_r3 := bc T_r 3 rfl; have f_r3 := bf T_r 3
  have c_q0 := bc T_q 0 rfl; have f_q0 := bf T_q 0; have c_q1 := bc T_q 1 rfl; have f_q1 := bf T_q 1; have c_q2 := bc T_q 2 rfl; have f_q2 := bf T_q 2; have c_q3 := bc T_q 3 rfl; have f_q3 := bf T_q 3
  go_wp2_with fail
  clear c_r0 f_r0 c_r1 f_r1 c_r2 f_r2 c_r3 f_r3 c_q0 f_q0 c_q1 f_q1 c_q2 f_q2 c_q3 f_q3
  have hg := nd_grown4 w7 (w.heap.size + 1) (.bool false) (.slice none 0 0) (.slice none 0 0) (.slice none 0 0)
  have tn := nd_put4 w7 (w.heap.size + 1) 26 _ _ _ _ (.bool false) (.slice none 0 0) (.slice none 0 0) (.slice none 0 0) T_r.out
  obtain ⟨w8, hw8⟩ : ∃ x, x = ((((w7.setCell ⟨(w.heap.size + 1), 0, none⟩ (.bool false)).setCell ⟨(w.heap.size + 1), 1, none⟩ (.slice none 0 0)).setCell ⟨(w.heap.size + 1), 2, none⟩ (.slice none 0 0)).setCell ⟨(w.heap.size + 1), 3, none⟩ (.slice none 0 0)) := ⟨_, rfl⟩
  rw [← hw8] at hg tn
  rw [← hw8]
  clear hw8
  replace T_n := bg hg T_n (by omega)
  replace T_q := bg hg T_q (by omega)
  replace BB := Aside0.mk (nd_grown_below hg BB.out BB.out.size (by omega))
  replace T_r := Aside0.mk tn
  clear tn hg
  have hg := nd_grown4 w8 (w.heap.size + 2) (.bool false) (.slice none 0 0) (.slice none 0 0) (.slice none 0 0)
  have tn := nd_put4 w8 (w.heap.size + 2) 26 _ _ _ _ (.bool false) (.slice none 0 0) (.slice none 0 0) (.slice none 0 0) T_q.out
  obtain ⟨w9, hw9⟩ : ∃ x, x = ((((w8.setCell ⟨(w.heap.size + 2), 0, none⟩ (.bool false)).setCell ⟨(w.heap.size + 2), 1, none⟩ (.slice none 0 0)).setCell ⟨(w.heap.size + 2), 2, none⟩ (.slice none 0 0)).setCell ⟨(w.heap.size + 2), 3, none⟩ (.slice none 0 0)) := ⟨_, rfl⟩
  rw [← hw9] at hg tn
  rw [← hw9]
  clear hw9
  replace T_n := bg hg T_n (by omega)
  replace T_r := bg hg T_r (by omega)
  replace BB := Aside0.mk (nd_grown_below hg BB.out BB.out.size (by omega))
  replace T_q := Aside0.mk tn
  clear tn hg
  refine bodyPost_ret (results_ctct rfl _ _ (w.heap.size + 1) (w.heap.size + 2) 26 26 #[.bool false, .slice none 0 0, .slice none 0 0, .slice none 0 0] #[.bool false, .slice none 0 0, .slice none 0 0, .slice none 0 0] (0, 0) (0, 0) _ _ rfl T_r.out Try.underlying26 rfl (by kernel_rfl) rfl T_q.out Try.underlying26 rfl (by kernel_rfl)) rfl ?_
  exact ⟨_, _, _, _, _, _, rfl, Kd.R_nil _ _ _ _ _, Kd.R_nil _ _ _ _ _, Kd.R_nil _ _ _ _ _, Kd.R_nil _ _ _ _ _, Kd.R_nil _ _ _ _ _, Kd.R_nil _ _ _ _ _, BB.out⟩
set_option maxHeartbeats 4000000 in
set_option maxRecDepth 100000 in
theorem dsplit_inner (A1 : Option Addr) (c1 : Nat) (l1 : List S48) (A2 : Option Addr) (c2 : Nat) (l2 : List ByteArray) (A3 : Option Addr) (c3 : Nat) (l3 : List Int) (w : World) (hr1 : Kd.C k48 w A1 l1.length l1) (hc1 : l1.length ≤ c1) (hr2 : Kd.C Kd.string w A2 l2.length l2) (hc2 : l2.length ≤ c2) (hr3 : Kd.C (Kd.int .i64) w A3 l3.length l3) (hc3 : l3.length ≤ c3) (hf : (leafV false l1 l2 l3 || innerV false l1 l2 l3) = true) (h4 : 4 ≤ l3.length) :
    Calls Try.prog 17 #[.agg #[.bool false, .slice A1 l1.length c1, .slice A2 l2.length c2, .slice A3 l3.length c3]] w fun e w' => ∃ v1_ v2_ v3_ u1_ u2_ u3_ : Value, e = .returned (.tuple #[.agg #[.bool false, v1_, v2_, v3_], .string (l2.getD (l3.length / 2 - 1) ⟨#[]⟩), .agg #[.bool false, u1_, u2_, u3_], .int .i64 0]) ∧ Kd.R k48 48 w' w.heap.size (fun _ => True) v1_ ([] : List S48) ∧ Kd.R Kd.string 9 w' w.heap.size (fun _ => True) v2_ (l2.take (l3.length / 2 - 1)) ∧ Kd.R (Kd.int .i64) 3 w' w.heap.size (fun _ => True) v3_ (l3.take (l3.length / 2)) ∧ Kd.R k48 48 w' w.heap.size (fun _ => True) u1_ ([] : List S48) ∧ Kd.R Kd.string 9 w' w.heap.size (fun _ => True) u2_ (l2.drop (l3.length / 2)) ∧ Kd.R (Kd.int .i64) 3 w' w.heap.size (fun _ => True) u3_ (l3.drop (l3.length / 2)) ∧ Below w.heap.size w w' := by
  have CK := Aside0.mk (fun W hw => cisternref11_Right.calls false A1 c1 l1 A2 c2 l2 A3 c3 l3 true W (Kd.C_below hr1 hw) hc1 (Kd.C_below hr2 hw) hc2 (Kd.C_below hr3 hw) hc3 (by rw [right_val, hf]))
  have HR1 := Aside0.mk hr1
  have HR2 := Aside0.mk hr2
  have HR3 := Aside0.mk hr3
  clear hr1 hr2 hr3
  have d2 : decide ((l3.length : Int) < 4) = false := decide_eq_false (by omega)
  have hin := innerV_true (by simpa [leafV] using hf : innerV false l1 l2 l3 = true)
  have hl255 := hin.2.2.2.1
  have hlk1 : l2.length + 1 ≤ l3.length := Nat.le_of_eq hin.2.2.2.2.1
  have hlk2 : l3.length ≤ l2.length + 1 := Nat.le_of_eq hin.2.2.2.2.1.symm
  clear hf hin
  obtain ⟨i, hi⟩ : ∃ i, l3.length / 2 = i := ⟨_, rfl⟩
  have hq : (l3.length : Int) / 2 = (i : Int) := by omega
  obtain ⟨j, hj⟩ : ∃ j, i - 1 = j := ⟨_, rfl⟩
  have hj1 : (i : Int) - 1 = (j : Int) := by omega
  have hi1 : i < l3.length := by omega
  have hi2 : j < i := by omega
  have hwj : IntKind.i64.wrap (j : Int) = (j : Int) := by rw [IntKind.wrap_i64]; omega
  have hi3 : i ≤ c3 := by omega
  have hj3 : j ≤ c2 := by omega
  have hi4 : i ≤ c2 := by omega
  have hi5 : i ≤ l3.length := by omega
  have hi6 : i ≤ l2.length := by omega
  rw [hi, hj]
  clear hi hj
  obtain ⟨K1, hK1⟩ : ∃ x, l2.take j = x := ⟨_, rfl⟩
  obtain ⟨D1, hD1⟩ : ∃ x, l3.take i = x := ⟨_, rfl⟩
  obtain ⟨K2, hK2⟩ : ∃ x, l2.drop i = x := ⟨_, rfl⟩
  obtain ⟨D2, hD2⟩ : ∃ x, l3.drop i = x := ⟨_, rfl⟩
  rw [hK1, hD1, hK2, hD2]
  have LK1 : Aside0 (K1.length = j) := ⟨by rw [← hK1, List.length_take]; omega⟩
  have LD1 : Aside0 (D1.length = i) := ⟨by rw [← hD1, List.length_take]; omega⟩
  have LK2 : Aside0 (K2.length = l2.length - i) := ⟨by rw [← hK2, List.length_drop]⟩
  have LD2 : Aside0 (D2.length = l3.length - i) := ⟨by rw [← hD2, List.length_drop]⟩
  have CK1 : Aside0 (Kd.C Kd.string w A2 j K1) := ⟨by have := Kd.C_take (m := j) HR2.out (by omega); rw [hK1, LK1.out] at this; exact this⟩
  have CD1 : Aside0 (Kd.C (Kd.int .i64) w A3 i D1) := ⟨by have := Kd.C_take (m := i) HR3.out (by omega); rw [hD1, LD1.out] at this; exact this⟩
  have CK2 : Aside0 (Kd.C Kd.string w (if c2 = i then A2 else A2.map (·.add i)) K2.length K2) := ⟨by rw [← hK2]; have := Kd.C_drop (m := i) HR2.out (by omega) hc2; rwa [show i * Kd.string.sz = i from Nat.mul_one i] at this⟩
  have CD2 : Aside0 (Kd.C (Kd.int .i64) w (if c3 = i then A3 else A3.map (·.add i)) D2.length D2) := ⟨by rw [← hD2]; have := Kd.C_drop (m := i) HR3.out (by omega) hc3; rwa [show i * (Kd.int .i64).sz = i from Nat.mul_one i] at this⟩
  clear hK1 hD1 hK2 hD2
  rw [LK2.out] at CK2
  rw [LD2.out] at CD2
  have EL : Aside0 (∃ ad, A2 = some ad ∧ ∀ W, Below w.heap.size w W → W.cell? (ad.add j) = some (.string (l2.getD j ⟨#[]⟩))) := ⟨by
    obtain ⟨ad, c, e, _, hK, hc0⟩ := Kd.C_get HR2.out ⟨#[]⟩ (j : Int) (by omega) (by omega)
    have hc : ∀ j' u, c[j']? = some u → w.cell? (ad.add ((j : Int).toNat * 1 + j')) = some u := hc0
    obtain rfl : c = [.string _] := hK
    have hq := hc 0 _ rfl
    rw [Nat.mul_one, Nat.add_zero, Int.toNat_natCast] at hq
    exact ⟨ad, e, fun W hb => nd_cell hb hq⟩⟩
  obtain ⟨kx, hkx⟩ : ∃ x, l2.getD j ⟨#[]⟩ = x := ⟨_, rfl⟩
  rw [hkx] at EL ⊢
  clear hkx
  have BB0 := Below.refl w.heap.size w
  obtain ⟨wp0, hwp0⟩ : ∃ x, x = w.alloc (.cells #[.bool false, .slice A1 l1.length c1, .slice A2 l2.length c2, .slice A3 l3.length c3] 26) := ⟨_, rfl⟩
  have t_n := heap_alloc_new w (.cells #[.bool false, .slice A1 l1.length c1, .slice A2 l2.length c2, .slice A3 l3.length c3] 26)
  rw [← hwp0] at t_n
  have BB1 : Below w.heap.size w wp0 := by rw [hwp0]; exact below_alloc BB0 _
  have sz0 : wp0.heap.size = w.heap.size + 1 := by rw [hwp0]; simp
  obtain ⟨wp1, hwp1⟩ : ∃ x, x = wp0.alloc (.cells #[.bool false, .slice none 0 0, .slice none 0 0, .slice none 0 0] 26) := ⟨_, rfl⟩
  have t_r := heap_alloc_new wp0 (.cells #[.bool false, .slice none 0 0, .slice none 0 0, .slice none 0 0] 26)
  rw [← hwp1] at t_r
  rw [sz0] at t_r
  have BB2 : Below w.heap.size w wp1 := by rw [hwp1]; exact below_alloc BB1 _
  have sz1 : wp1.heap.size = w.heap.size + 2 := by rw [hwp1]; simp [sz0]
  replace t_n := (show wp1.heap[_]? = wp0.heap[_]? by rw [hwp1]; exact Lib.alloc_old wp0 (.cells #[.bool false, .slice none 0 0, .slice none 0 0, .slice none 0 0] 26) _ (blk_lt t_n)).trans t_n
  obtain ⟨wp2, hwp2⟩ : ∃ x, x = wp1.alloc (.cells #[.bool false, .slice none 0 0, .slice none 0 0, .slice none 0 0] 26) := ⟨_, rfl⟩
  have t_q := heap_alloc_new wp1 (.cells #[.bool false, .slice none 0 0, .slice none 0 0, .slice none 0 0] 26)
  rw [← hwp2] at t_q
  rw [sz1] at t_q
  have BB3 : Below w.heap.size w wp2 := by rw [hwp2]; exact below_alloc BB2 _
  have sz2 : wp2.heap.size = w.heap.size + 3 := by rw [hwp2]; simp [sz1]
  replace t_n := (show wp2.heap[_]? = wp1.heap[_]? by rw [hwp2]; exact Lib.alloc_old wp1 (.cells #[.bool false, .slice none 0 0, .slice none 0 0, .slice none 0 0] 26) _ (blk_lt t_n)).trans t_n
  replace t_r := (show wp2.heap[_]? = wp1.heap[_]? by rw [hwp2]; exact Lib.alloc_old wp1 (.cells #[.bool false, .slice none 0 0, .slice none 0 0, .slice none 0 0] 26) _ (blk_lt t_r)).trans t_r
  have HW0 : Aside0 (wp2 = (((w.alloc (.cells #[.bool false, .slice A1 l1.length c1, .slice A2 l2.length c2, .slice A3 l3.length c3] 26)).alloc (.cells #[.bool false, .slice none 0 0, .slice none 0 0, .slice none 0 0] 26)).alloc (.cells #[.bool false, .slice none 0 0, .slice none 0 0, .slice none 0 0] 26))) := ⟨by rw [hwp2, hwp1, hwp0]⟩
  have T_n := Aside0.mk t_n
  have T_r := Aside0.mk t_r
  have T_q := Aside0.mk t_q
  have BB := Aside0.mk BB3
  have SZ0 := Aside0.mk sz2
  clear t_n t_r t_q BB0 BB1 BB2 BB3 sz0 sz1 sz2 hwp0 hwp1 hwp2
  go_enter Try.func17, Try.ntmps17
  have c_n0 := bc T_n 0 rfl; have c_n1 := bc T_n 1 rfl; have c_n2 := bc T_n 2 rfl; have c_n3 := bc T_n 3 rfl
  go_wp2_with fail
  rw [← HW0.out]
  refine (CK.out _ BB.out).mono ?_
  rintro e w10 ⟨rfl, hB⟩
  replace T_n := bm hB T_n; replace T_r := bm hB T_r; replace T_q := bm hB T_q; replace BB := xm hB BB
  clear hB
  clear c_n0 c_n1 c_n2 c_n3
  have c_n0 := bc T_n 0 rfl; have c_n1 := bc T_n 1 rfl; have c_n2 := bc T_n 2 rfl; have c_n3 := bc T_n 3 rfl
  go_upto_region 7 with fail
  clear c_n0 c_n1 c_n2 c_n3
  have hB : Below w10.heap.size w10 w10.drew := below_drew1 (Below.refl _ _)
  have MK0 : ∀ W, Below w10.drew.heap.size w10.drew W → Below w.heap.size w W ∧ W.cell? ⟨w.heap.size, 0, none⟩ = some (.bool false) ∧ W.cell? ⟨w.heap.size, 1, none⟩ = some (.slice A1 l1.length c1) ∧ W.cell? ⟨w.heap.size, 2, none⟩ = some (.slice A2 l2.length c2) ∧ W.cell? ⟨w.heap.size, 3, none⟩ = some (.slice A3 l3.length c3) := fun W hb => ⟨(xm hb (xm hB BB)).out, nd_cell hb (bc (bm hB T_n) 0 rfl), nd_cell hb (bc (bm hB T_n) 1 rfl), nd_cell hb (bc (bm hB T_n) 2 rfl), nd_cell hb (bc (bm hB T_n) 3 rfl)⟩
  refine wp_region_held_drew (S := fun W => Below w.heap.size w W ∧ W.cell? ⟨w.heap.size, 0, none⟩ = some (.bool false) ∧ W.cell? ⟨w.heap.size, 1, none⟩ = some (.slice A1 l1.length c1) ∧ W.cell? ⟨w.heap.size, 2, none⟩ = some (.slice A2 l2.length c2) ∧ W.cell? ⟨w.heap.size, 3, none⟩ = some (.slice A3 l3.length c3)) (by kernel_rfl) (MK0 _ (Below.refl _ _)) (fun hHeld => ?_)
  clear hHeld
  have MK := Aside0.mk MK0
  clear MK0
  obtain ⟨w11, hw11⟩ : ∃ x, x = w10.drew := ⟨_, rfl⟩
  rw [← hw11] at hB MK ⊢
  clear hw11
  replace T_n := bm hB T_n; replace T_r := bm hB T_r; replace T_q := bm hB T_q; replace BB := xm hB BB
  clear hB
  have SB := Aside0.mk (Below.refl w11.heap.size w11)
  have hHeld := MK.out _ SB.out
  refine nd_take 1 hHeld ?_
  refine nd_take 2 hHeld ?_
  refine nd_take 3 hHeld ?_
  refine nd_take 4 hHeld ?_
  refine nd_take 7 hHeld ?_
  refine nd_take 8 hHeld ?_
  refine nd_take 9 hHeld ?_
  refine nd_take 10 hHeld ?_
  refine nd_take 11 hHeld ?_
  clear hHeld
  refine wpAnyH_dag (fun A0 qf ql qa W => (qf = 7 ∧ ql = #[false, true, true, true, true, false, false, true, true, true, true, true, false, false, false, false] ∧ qa = A0 ∧ Aside0 (Below w11.heap.size w11 W))
   ∨ (∃ (gx0 : Nat), qf = 6 ∧ ql = #[true, true, true, true, true, false, false, true, true, true, true, true, false, false, false, false] ∧ qa = (A0.put (some 45) (.slice (some ⟨gx0, 0, none⟩) 0 0)) ∧ Aside0 (Below w11.heap.size w11 W) ∧ Aside0 (Kd.R (Kd.int .i64) 3 W w11.heap.size (fun _ => True) (.slice (some ⟨gx0, 0, none⟩) 0 0) ([] : List Int)))
   ∨ (∃ (gx6 : Nat), qf = 6 ∧ ql = #[false, true, true, true, true, false, true, true, true, true, true, true, false, false, false, false] ∧ qa = (A0.put (some 51) (.slice (some ⟨gx6, 0, none⟩) 0 0)) ∧ Aside0 (Below w11.heap.size w11 W) ∧ Aside0 (Kd.R Kd.string 9 W w11.heap.size (fun _ => True) (.slice (some ⟨gx6, 0, none⟩) 0 0) ([] : List ByteArray)))
   ∨ (∃ (gx14 : Nat), qf = 6 ∧ ql = #[false, true, true, true, true, false, false, true, true, true, true, true, false, false, true, false] ∧ qa = (A0.put (some 7) (.pointer (some ⟨gx14, 0, none⟩))) ∧ Aside0 (Below w11.heap.size w11 W) ∧ Aside0 (W.heap[gx14]? = some (.cells #[.bool false, .slice none 0 0, .slice none 0 0, .slice none 0 0] 26 (0, 0))) ∧ Aside0 (w11.heap.size ≤ gx14))
   ∨ (∃ (gx0 : Nat) (Ax5_ : Option Addr) (cx5_ : Nat), qf = 5 ∧ ql = #[true, true, true, true, true, true, false, true, true, true, true, true, false, false, false, false] ∧ qa = ((A0.put (some 45) (.slice (some ⟨gx0, 0, none⟩) 0 0)).put (some 50) (.slice Ax5_ D1.length cx5_)) ∧ Aside0 (Below w11.heap.size w11 W) ∧ Aside0 (Kd.R (Kd.int .i64) 3 W w11.heap.size (fun _ => True) (.slice Ax5_ D1.length cx5_) D1))
   ∨ (∃ (gx0 : Nat) (gx6 : Nat), qf = 5 ∧ ql = #[true, true, true, true, true, false, true, true, true, true, true, true, false, false, false, false] ∧ qa = ((A0.put (some 45) (.slice (some ⟨gx0, 0, none⟩) 0 0)).put (some 51) (.slice (some ⟨gx6, 0, none⟩) 0 0)) ∧ Aside0 (Below w11.heap.size w11 W) ∧ Aside0 (Kd.R (Kd.int .i64) 3 W w11.heap.size (fun _ => True) (.slice (some ⟨gx0, 0, none⟩) 0 0) ([] : List Int)) ∧ Aside0 (Kd.R Kd.string 9 W w11.heap.size (fun _ => True) (.slice (some ⟨gx6, 0, none⟩) 0 0) ([] : List ByteArray)))
   ∨ (∃ (gx0 : Nat) (gx14 : Nat), qf = 5 ∧ ql = #[true, true, true, true, true, false, false, true, true, true, true, true, false, false, true, false] ∧ qa = ((A0.put (some 45) (.slice (some ⟨gx0, 0, none⟩) 0 0)).put (some 7) (.pointer (some ⟨gx14, 0, none⟩))) ∧ Aside0 (Below w11.heap.size w11 W) ∧ Aside0 (W.heap[gx14]? = some (.cells #[.bool false, .slice none 0 0, .slice none 0 0, .slice none 0 0] 26 (0, 0))) ∧ Aside0 (w11.heap.size ≤ gx14) ∧ Aside0 (Kd.R (Kd.int .i64) 3 W w11.heap.size (fun _ => True) (.slice (some ⟨gx0, 0, none⟩) 0 0) ([] : List Int)))
   ∨ (∃ (gx6 : Nat) (gx14 : Nat), qf = 5 ∧ ql = #[false, true, true, true, true, false, true, true, true, true, true, true, false, false, true, false] ∧ qa = ((A0.put (some 51) (.slice (some ⟨gx6, 0, none⟩) 0 0)).put (some 7) (.pointer (some ⟨gx14, 0, none⟩))) ∧ Aside0 (Below w11.heap.size w11 W) ∧ Aside0 (W.heap[gx14]? = some (.cells #[.bool false, .slice none 0 0, .slice none 0 0, .slice none 0 0] 26 (0, 0))) ∧ Aside0 (w11.heap.size ≤ gx14) ∧ Aside0 (Kd.R Kd.string 9 W w11.heap.size (fun _ => True) (.slice (some ⟨gx6, 0, none⟩) 0 0) ([] : List ByteArray)))
   ∨ (∃ (gx0 : Nat) (Ax5_ : Option Addr) (cx5_ : Nat) (gx6 : Nat), qf = 4 ∧ ql = #[true, true, true, true, true, true, true, true, true, true, true, true, false, false, false, false] ∧ qa = (((A0.put (some 45) (.slice (some ⟨gx0, 0, none⟩) 0 0)).put (some 50) (.slice Ax5_ D1.length cx5_)).put (some 51) (.slice (some ⟨gx6, 0, none⟩) 0 0)) ∧ Aside0 (Below w11.heap.size w11 W) ∧ Aside0 (Kd.R (Kd.int .i64) 3 W w11.heap.size (fun _ => True) (.slice Ax5_ D1.length cx5_) D1) ∧ Aside0 (Kd.R Kd.string 9 W w11.heap.size (fun _ => True) (.slice (some ⟨gx6, 0, none⟩) 0 0) ([] : List ByteArray)))
   ∨ (∃ (gx0 : Nat) (Ax5_ : Option Addr) (cx5_ : Nat) (gx14 : Nat), qf = 4 ∧ ql = #[true, true, true, true, true, true, false, true, true, true, true, true, false, false, true, false] ∧ qa = (((A0.put (some 45) (.slice (some ⟨gx0, 0, none⟩) 0 0)).put (some 50) (.slice Ax5_ D1.length cx5_)).put (some 7) (.pointer (some ⟨gx14, 0, none⟩))) ∧ Aside0 (Below w11.heap.size w11 W) ∧ Aside0 (W.heap[gx14]? = some (.cells #[.bool false, .slice none 0 0, .slice none 0 0, .slice none 0 0] 26 (0, 0))) ∧ Aside0 (w11.heap.size ≤ gx14) ∧ Aside0 (Kd.R (Kd.int .i64) 3 W w11.heap.size (fun _ => True) (.slice Ax5_ D1.length cx5_) D1))
   ∨ (∃ (gx0 : Nat) (gx6 : Nat) (gx14 : Nat), qf = 4 ∧ ql = #[true, true, true, true, true, false, true, true, true, true, true, true, false, false, true, false] ∧ qa = (((A0.put (some 45) (.slice (some ⟨gx0, 0, none⟩) 0 0)).put (some 51) (.slice (some ⟨gx6, 0, none⟩) 0 0)).put (some 7) (.pointer (some ⟨gx14, 0, none⟩))) ∧ Aside0 (Below w11.heap.size w11 W) ∧ Aside0 (W.heap[gx14]? = some (.cells #[.bool false, .slice none 0 0, .slice none 0 0, .slice none 0 0] 26 (0, 0))) ∧ Aside0 (w11.heap.size ≤ gx14) ∧ Aside0 (Kd.R (Kd.int .i64) 3 W w11.heap.size (fun _ => True) (.slice (some ⟨gx0, 0, none⟩) 0 0) ([] : List Int)) ∧ Aside0 (Kd.R Kd.string 9 W w11.heap.size (fun _ => True) (.slice (some ⟨gx6, 0, none⟩) 0 0) ([] : List ByteArray)))
   ∨ (∃ (gx0 : Nat) (Ax5_ : Option Addr) (cx5_ : Nat) (gx6 : Nat) (Ax12_ : Option Addr) (cx12_ : Nat), qf = 2 ∧ ql = #[true, true, true, true, true, true, true, true, true, true, true, true, true, true, false, false] ∧ qa = (((((A0.put (some 45) (.slice (some ⟨gx0, 0, none⟩) 0 0)).put (some 50) (.slice Ax5_ D1.length cx5_)).put (some 51) (.slice (some ⟨gx6, 0, none⟩) 0 0)).put (some 57) (.slice Ax12_ K1.length cx12_)).put (some 58) (.agg #[.bool false, .slice none 0 0, .slice Ax12_ (K1).length cx12_, .slice Ax5_ (D1).length cx5_])) ∧ Aside0 (Below w11.heap.size w11 W) ∧ Aside0 (Kd.R (Kd.int .i64) 3 W w11.heap.size (fun _ => True) (.slice Ax5_ D1.length cx5_) D1) ∧ Aside0 (Kd.R Kd.string 9 W w11.heap.size (fun _ => True) (.slice Ax12_ K1.length cx12_) K1))
   ∨ (∃ (gx0 : Nat) (Ax5_ : Option Addr) (cx5_ : Nat) (gx6 : Nat) (gx14 : Nat), qf = 3 ∧ ql = #[true, true, true, true, true, true, true, true, true, true, true, true, false, false, true, false] ∧ qa = ((((A0.put (some 45) (.slice (some ⟨gx0, 0, none⟩) 0 0)).put (some 50) (.slice Ax5_ D1.length cx5_)).put (some 51) (.slice (some ⟨gx6, 0, none⟩) 0 0)).put (some 7) (.pointer (some ⟨gx14, 0, none⟩))) ∧ Aside0 (Below w11.heap.size w11 W) ∧ Aside0 (W.heap[gx14]? = some (.cells #[.bool false, .slice none 0 0, .slice none 0 0, .slice none 0 0] 26 (0, 0))) ∧ Aside0 (w11.heap.size ≤ gx14) ∧ Aside0 (Kd.R (Kd.int .i64) 3 W w11.heap.size (fun _ => True) (.slice Ax5_ D1.length cx5_) D1) ∧ Aside0 (Kd.R Kd.string 9 W w11.heap.size (fun _ => True) (.slice (some ⟨gx6, 0, none⟩) 0 0) ([] : List ByteArray)))
   ∨ (∃ (gx0 : Nat) (Ax5_ : Option Addr) (cx5_ : Nat) (gx6 : Nat) (Ax12_ : Option Addr) (cx12_ : Nat) (gx14 : Nat), qf = 1 ∧ ql = #[true, true, true, true, true, true, true, true, true, true, true, true, true, true, true, false] ∧ qa = ((((((A0.put (some 45) (.slice (some ⟨gx0, 0, none⟩) 0 0)).put (some 50) (.slice Ax5_ D1.length cx5_)).put (some 51) (.slice (some ⟨gx6, 0, none⟩) 0 0)).put (some 57) (.slice Ax12_ K1.length cx12_)).put (some 7) (.pointer (some ⟨gx14, 0, none⟩))).put (some 58) (.agg #[.bool false, .slice none 0 0, .slice Ax12_ (K1).length cx12_, .slice Ax5_ (D1).length cx5_])) ∧ Aside0 (Below w11.heap.size w11 W) ∧ Aside0 (W.heap[gx14]? = some (.cells #[.bool false, .slice none 0 0, .slice none 0 0, .slice none 0 0] 26 (0, 0))) ∧ Aside0 (w11.heap.size ≤ gx14) ∧ Aside0 (Kd.R (Kd.int .i64) 3 W w11.heap.size (fun _ => True) (.slice Ax5_ D1.length cx5_) D1) ∧ Aside0 (Kd.R Kd.string 9 W w11.heap.size (fun _ => True) (.slice Ax12_ K1.length cx12_) K1))) ?_ (.inl ⟨rfl, by kernel_rfl, rfl, SB⟩)
  clear SB
  intro qf ql qa W hJ ih
  rcases hJ with J | J | J | J | J | J | J | J | J | J | J | J | J | J
  · obtain ⟨rfl, rfl, rfl, SB⟩ := J
    refine wpAnyH_ready (rs := [0, 6, 14]) (by kernel_rfl) (by simp) ?_
    refine (AllReadyH.cons rfl (fun K hK => ?_) (AllReadyH.cons rfl (fun K hK => ?_) (AllReadyH.cons rfl (fun K hK => ?_) AllReadyH.nil)))
    · go_simp
      obtain ⟨g13, hg13⟩ : ∃ n, n = W.heap.size := ⟨_, rfl⟩
      obtain ⟨w12, hw12⟩ : ∃ x, x = W.alloc (.cells #[] 3) := ⟨_, rfl⟩
      have tn := heap_alloc_new W (.cells #[] 3)
      have hB := below_alloc (Below.refl W.heap.size W) (.cells #[] 3)
      rw [← hw12] at tn hB
      rw [← hg13] at tn
      have GSB_row_ : Aside0 (w11.heap.size ≤ g13) := ⟨by rw [hg13]; exact SB.out.size⟩
      replace SB := xm hB SB
      have T_row_ := Aside0.mk tn
      clear tn hB
      rw [← hw12]
      try rw [← hg13]
      clear hw12 hg13
      have R_d7 := Aside0.mk (row_nil (Kd.int .i64) (ok := fun _ => True) T_row_.out GSB_row_.out trivial)
      refine hK.out _ _ (MK.out _ SB.out) (fun hNew => ?_)
      clear hK K hNew
      exact ih _ _ _ _ (by decide) (.inr (.inl ⟨g13, rfl, by kernel_rfl, by simp only [Act.put, List.getElem_toArray, List.getElem_cons_zero, List.getElem_cons_succ, List.setIfInBounds_toArray, List.set_cons_zero, List.set_cons_succ], SB, R_d7⟩))
    · go_simp
      obtain ⟨g15, hg15⟩ : ∃ n, n = W.heap.size := ⟨_, rfl⟩
      obtain ⟨w14, hw14⟩ : ∃ x, x = W.alloc (.cells #[] 9) := ⟨_, rfl⟩
      have tn := heap_alloc_new W (.cells #[] 9)
      have hB := below_alloc (Below.refl W.heap.size W) (.cells #[] 9)
      rw [← hw14] at tn hB
      rw [← hg15] at tn
      have GSB_row_ : Aside0 (w11.heap.size ≤ g15) := ⟨by rw [hg15]; exact SB.out.size⟩
      replace SB := xm hB SB
      have T_row_ := Aside0.mk tn
      clear tn hB
      rw [← hw14]
      try rw [← hg15]
      clear hw14 hg15
      have R_k7 := Aside0.mk (row_nil Kd.string (ok := fun _ => True) T_row_.out GSB_row_.out trivial)
      refine hK.out _ _ (MK.out _ SB.out) (fun hNew => ?_)
      clear hK K hNew
      exact ih _ _ _ _ (by decide) (.inr (.inr (.inl ⟨g15, rfl, by kernel_rfl, by simp only [Act.put, List.getElem_toArray, List.getElem_cons_zero, List.getElem_cons_succ, List.setIfInBounds_toArray, List.set_cons_zero, List.set_cons_succ], SB, R_k7⟩)))
    · go_simp
      obtain ⟨g17, hg17⟩ : ∃ n, n = W.heap.size := ⟨_, rfl⟩
      obtain ⟨w16, hw16⟩ : ∃ x, x = W.alloc (.cells #[.bool false, .slice none 0 0, .slice none 0 0, .slice none 0 0] 26) := ⟨_, rfl⟩
      have tn := heap_alloc_new W (.cells #[.bool false, .slice none 0 0, .slice none 0 0, .slice none 0 0] 26)
      have hB := below_alloc (Below.refl W.heap.size W) (.cells #[.bool false, .slice none 0 0, .slice none 0 0, .slice none 0 0] 26)
      rw [← hw16] at tn hB
      rw [← hg17] at tn
      have GSB_b7 : Aside0 (w11.heap.size ≤ g17) := ⟨by rw [hg17]; exact SB.out.size⟩
      replace SB := xm hB SB
      have T_b7 := Aside0.mk tn
      clear tn hB
      rw [← hw16]
      try rw [← hg17]
      clear hw16 hg17
      refine hK.out _ _ (MK.out _ SB.out) (fun hNew => ?_)
      clear hK K hNew
      exact ih _ _ _ _ (by decide) (.inr (.inr (.inr (.inl ⟨g17, rfl, by kernel_rfl, by simp only [Act.put, List.getElem_toArray, List.getElem_cons_zero, List.getElem_cons_succ, List.setIfInBounds_toArray, List.set_cons_zero, List.set_cons_succ], SB, T_b7, GSB_b7⟩))))
  · obtain ⟨gx0, rfl, rfl, rfl, SB, R_d7⟩ := J
    simp only [Act.put, List.getElem_toArray, List.getElem_cons_zero, List.getElem_cons_succ, List.setIfInBounds_toArray, List.set_cons_zero, List.set_cons_succ]
    refine wpAnyH_ready (rs := [5, 6, 14]) (by kernel_rfl) (by simp) ?_
    refine (AllReadyH.cons rfl (fun K hK => ?_) (AllReadyH.cons rfl (fun K hK => ?_) (AllReadyH.cons rfl (fun K hK => ?_) AllReadyH.nil)))
    · refine Kd.R_append_rows_step (Kd.int .i64) (w0 := w11) w11.heap.size (by rfl) (.tmp 45) (.tmp 49) 24 3 (.int .i64 0) 8 rfl Try.underlying24 info3 rfl (by decide) (by decide) (.slice (some ⟨gx0, 0, none⟩) 0 0) ([] : List Int) D1 A3 i c3 (fun _ => True) (fun _ => False) rfl rfl R_d7.out ((Kd.C_below CD1.out (BB.out.trans (SB.out.mono BB.out.size)))) (fun _ _ h => h) (fun _ h => h.elim) (fun _ _ => trivial) SB.out SB.out.size (by (try simp only [List.length_nil]); omega) ?_
      intro v1 w20 ho hb hg hat
      rw [List.nil_append] at ho
      obtain ⟨Ax18, cx19, rfl⟩ := Kd.R_slice ho
      replace R_d7 := Aside0.mk ho
      replace SB := Aside0.mk hb
      clear ho hb hg hat
      refine hK.out _ _ (MK.out _ SB.out) (fun hNew => ?_)
      clear hK K hNew
      exact ih _ _ _ _ (by decide) (.inr (.inr (.inr (.inr (.inl ⟨gx0, Ax18, cx19, rfl, by kernel_rfl, by simp only [Act.put, List.getElem_toArray, List.getElem_cons_zero, List.getElem_cons_succ, List.setIfInBounds_toArray, List.set_cons_zero, List.set_cons_succ], SB, R_d7⟩)))))
    · go_simp
      obtain ⟨g22, hg22⟩ : ∃ n, n = W.heap.size := ⟨_, rfl⟩
      obtain ⟨w21, hw21⟩ : ∃ x, x = W.alloc (.cells #[] 9) := ⟨_, rfl⟩
      have tn := heap_alloc_new W (.cells #[] 9)
      have hB := below_alloc (Below.refl W.heap.size W) (.cells #[] 9)
      rw [← hw21] at tn hB
      rw [← hg22] at tn
      have GSB_row_ : Aside0 (w11.heap.size ≤ g22) := ⟨by rw [hg22]; exact SB.out.size⟩
      replace R_d7 := rm hB R_d7; replace SB := xm hB SB
      have T_row_ := Aside0.mk tn
      clear tn hB
      rw [← hw21]
      try rw [← hg22]
      clear hw21 hg22
      have R_k7 := Aside0.mk (row_nil Kd.string (ok := fun _ => True) T_row_.out GSB_row_.out trivial)
      refine hK.out _ _ (MK.out _ SB.out) (fun hNew => ?_)
      clear hK K hNew
      exact ih _ _ _ _ (by decide) (.inr (.inr (.inr (.inr (.inr (.inl ⟨gx0, g22, rfl, by kernel_rfl, by simp only [Act.put, List.getElem_toArray, List.getElem_cons_zero, List.getElem_cons_succ, List.setIfInBounds_toArray, List.set_cons_zero, List.set_cons_succ], SB, R_d7, R_k7⟩))))))
    · go_simp
      obtain ⟨g24, hg24⟩ : ∃ n, n = W.heap.size := ⟨_, rfl⟩
      obtain ⟨w23, hw23⟩ : ∃ x, x = W.alloc (.cells #[.bool false, .slice none 0 0, .slice none 0 0, .slice none 0 0] 26) := ⟨_, rfl⟩
      have tn := heap_alloc_new W (.cells #[.bool false, .slice none 0 0, .slice none 0 0, .slice none 0 0] 26)
      have hB := below_alloc (Below.refl W.heap.size W) (.cells #[.bool false, .slice none 0 0, .slice none 0 0, .slice none 0 0] 26)
      rw [← hw23] at tn hB
      rw [← hg24] at tn
      have GSB_b7 : Aside0 (w11.heap.size ≤ g24) := ⟨by rw [hg24]; exact SB.out.size⟩
      replace R_d7 := rm hB R_d7; replace SB := xm hB SB
      have T_b7 := Aside0.mk tn
      clear tn hB
      rw [← hw23]
      try rw [← hg24]
      clear hw23 hg24
      refine hK.out _ _ (MK.out _ SB.out) (fun hNew => ?_)
      clear hK K hNew
      exact ih _ _ _ _ (by decide) (.inr (.inr (.inr (.inr (.inr (.inr (.inl ⟨gx0, g24, rfl, by kernel_rfl, by simp only [Act.put, List.getElem_toArray, List.getElem_cons_zero, List.getElem_cons_succ, List.setIfInBounds_toArray, List.set_cons_zero, List.set_cons_succ], SB, T_b7, GSB_b7, R_d7⟩)))))))
  · obtain ⟨gx6, rfl, rfl, rfl, SB, R_k7⟩ := J
    simp only [Act.put, List.getElem_toArray, List.getElem_cons_zero, List.getElem_cons_succ, List.setIfInBounds_toArray, List.set_cons_zero, List.set_cons_succ]
    refine wpAnyH_ready (rs := [0, 14]) (by kernel_rfl) (by simp) ?_
    refine (AllReadyH.cons rfl (fun K hK => ?_) (AllReadyH.cons rfl (fun K hK => ?_) AllReadyH.nil))
    · go_simp
      obtain ⟨g26, hg26⟩ : ∃ n, n = W.heap.size := ⟨_, rfl⟩
      obtain ⟨w25, hw25⟩ : ∃ x, x = W.alloc (.cells #[] 3) := ⟨_, rfl⟩
      have tn := heap_alloc_new W (.cells #[] 3)
      have hB := below_alloc (Below.refl W.heap.size W) (.cells #[] 3)
      rw [← hw25] at tn hB
      rw [← hg26] at tn
      have GSB_row_ : Aside0 (w11.heap.size ≤ g26) := ⟨by rw [hg26]; exact SB.out.size⟩
      replace R_k7 := rm hB R_k7; replace SB := xm hB SB
      have T_row_ := Aside0.mk tn
      clear tn hB
      rw [← hw25]
      try rw [← hg26]
      clear hw25 hg26
      have R_d7 := Aside0.mk (row_nil (Kd.int .i64) (ok := fun _ => True) T_row_.out GSB_row_.out trivial)
      refine hK.out _ _ (MK.out _ SB.out) (fun hNew => ?_)
      clear hK K hNew
      exact ih _ _ _ _ (by decide) (.inr (.inr (.inr (.inr (.inr (.inl ⟨g26, gx6, rfl, by kernel_rfl, by simp only [Act.put, List.getElem_toArray, List.getElem_cons_zero, List.getElem_cons_succ, List.setIfInBounds_toArray, List.set_cons_zero, List.set_cons_succ], SB, R_d7, R_k7⟩))))))
    · go_simp
      obtain ⟨g28, hg28⟩ : ∃ n, n = W.heap.size := ⟨_, rfl⟩
      obtain ⟨w27, hw27⟩ : ∃ x, x = W.alloc (.cells #[.bool false, .slice none 0 0, .slice none 0 0, .slice none 0 0] 26) := ⟨_, rfl⟩
      have tn := heap_alloc_new W (.cells #[.bool false, .slice none 0 0, .slice none 0 0, .slice none 0 0] 26)
      have hB := below_alloc (Below.refl W.heap.size W) (.cells #[.bool false, .slice none 0 0, .slice none 0 0, .slice none 0 0] 26)
      rw [← hw27] at tn hB
      rw [← hg28] at tn
      have GSB_b7 : Aside0 (w11.heap.size ≤ g28) := ⟨by rw [hg28]; exact SB.out.size⟩
      replace R_k7 := rm hB R_k7; replace SB := xm hB SB
      have T_b7 := Aside0.mk tn
      clear tn hB
      rw [← hw27]
      try rw [← hg28]
      clear hw27 hg28
      refine hK.out _ _ (MK.out _ SB.out) (fun hNew => ?_)
      clear hK K hNew
      exact ih _ _ _ _ (by decide) (.inr (.inr (.inr (.inr (.inr (.inr (.inr (.inl ⟨gx6, g28, rfl, by kernel_rfl, by simp only [Act.put, List.getElem_toArray, List.getElem_cons_zero, List.getElem_cons_succ, List.setIfInBounds_toArray, List.set_cons_zero, List.set_cons_succ], SB, T_b7, GSB_b7, R_k7⟩))))))))
  · obtain ⟨gx14, rfl, rfl, rfl, SB, T_b7, GSB_b7⟩ := J
    simp only [Act.put, List.getElem_toArray, List.getElem_cons_zero, List.getElem_cons_succ, List.setIfInBounds_toArray, List.set_cons_zero, List.set_cons_succ]
    refine wpAnyH_ready (rs := [0, 6]) (by kernel_rfl) (by simp) ?_
    refine (AllReadyH.cons rfl (fun K hK => ?_) (AllReadyH.cons rfl (fun K hK => ?_) AllReadyH.nil))
    · go_simp
      obtain ⟨g30, hg30⟩ : ∃ n, n = W.heap.size := ⟨_, rfl⟩
      obtain ⟨w29, hw29⟩ : ∃ x, x = W.alloc (.cells #[] 3) := ⟨_, rfl⟩
      have tn := heap_alloc_new W (.cells #[] 3)
      have hB := below_alloc (Below.refl W.heap.size W) (.cells #[] 3)
      rw [← hw29] at tn hB
      rw [← hg30] at tn
      have GSB_row_ : Aside0 (w11.heap.size ≤ g30) := ⟨by rw [hg30]; exact SB.out.size⟩
      have NE_row__b7 : Aside0 (gx14 ≠ g30) := ⟨by have := blk_lt T_b7.out; omega⟩
      replace T_b7 := bm hB T_b7; replace SB := xm hB SB
      have T_row_ := Aside0.mk tn
      clear tn hB
      rw [← hw29]
      try rw [← hg30]
      clear hw29 hg30
      have R_d7 := Aside0.mk (row_nil (Kd.int .i64) (ok := fun _ => True) T_row_.out GSB_row_.out trivial)
      refine hK.out _ _ (MK.out _ SB.out) (fun hNew => ?_)
      clear hK K hNew
      exact ih _ _ _ _ (by decide) (.inr (.inr (.inr (.inr (.inr (.inr (.inl ⟨g30, gx14, rfl, by kernel_rfl, by simp only [Act.put, List.getElem_toArray, List.getElem_cons_zero, List.getElem_cons_succ, List.setIfInBounds_toArray, List.set_cons_zero, List.set_cons_succ], SB, T_b7, GSB_b7, R_d7⟩)))))))
    · go_simp
      obtain ⟨g32, hg32⟩ : ∃ n, n = W.heap.size := ⟨_, rfl⟩
      obtain ⟨w31, hw31⟩ : ∃ x, x = W.alloc (.cells #[] 9) := ⟨_, rfl⟩
      have tn := heap_alloc_new W (.cells #[] 9)
      have hB := below_alloc (Below.refl W.heap.size W) (.cells #[] 9)
      rw [← hw31] at tn hB
      rw [← hg32] at tn
      have GSB_row_ : Aside0 (w11.heap.size ≤ g32) := ⟨by rw [hg32]; exact SB.out.size⟩
      have NE_row__b7 : Aside0 (gx14 ≠ g32) := ⟨by have := blk_lt T_b7.out; omega⟩
      replace T_b7 := bm hB T_b7; replace SB := xm hB SB
      have T_row_ := Aside0.mk tn
      clear tn hB
      rw [← hw31]
      try rw [← hg32]
      clear hw31 hg32
      have R_k7 := Aside0.mk (row_nil Kd.string (ok := fun _ => True) T_row_.out GSB_row_.out trivial)
      refine hK.out _ _ (MK.out _ SB.out) (fun hNew => ?_)
      clear hK K hNew
      exact ih _ _ _ _ (by decide) (.inr (.inr (.inr (.inr (.inr (.inr (.inr (.inl ⟨g32, gx14, rfl, by kernel_rfl, by simp only [Act.put, List.getElem_toArray, List.getElem_cons_zero, List.getElem_cons_succ, List.setIfInBounds_toArray, List.set_cons_zero, List.set_cons_succ], SB, T_b7, GSB_b7, R_k7⟩))))))))
  · obtain ⟨gx0, Ax5_, cx5_, rfl, rfl, rfl, SB, R_d7⟩ := J
    simp only [Act.put, List.getElem_toArray, List.getElem_cons_zero, List.getElem_cons_succ, List.setIfInBounds_toArray, List.set_cons_zero, List.set_cons_succ]
    refine wpAnyH_ready (rs := [6, 14]) (by kernel_rfl) (by simp) ?_
    refine (AllReadyH.cons rfl (fun K hK => ?_) (AllReadyH.cons rfl (fun K hK => ?_) AllReadyH.nil))
    · go_simp
      obtain ⟨g34, hg34⟩ : ∃ n, n = W.heap.size := ⟨_, rfl⟩
      obtain ⟨w33, hw33⟩ : ∃ x, x = W.alloc (.cells #[] 9) := ⟨_, rfl⟩
      have tn := heap_alloc_new W (.cells #[] 9)
      have hB := below_alloc (Below.refl W.heap.size W) (.cells #[] 9)
      rw [← hw33] at tn hB
      rw [← hg34] at tn
      have GSB_row_ : Aside0 (w11.heap.size ≤ g34) := ⟨by rw [hg34]; exact SB.out.size⟩
      replace R_d7 := rm hB R_d7; replace SB := xm hB SB
      have T_row_ := Aside0.mk tn
      clear tn hB
      rw [← hw33]
      try rw [← hg34]
      clear hw33 hg34
      have R_k7 := Aside0.mk (row_nil Kd.string (ok := fun _ => True) T_row_.out GSB_row_.out trivial)
      refine hK.out _ _ (MK.out _ SB.out) (fun hNew => ?_)
      clear hK K hNew
      exact ih _ _ _ _ (by decide) (.inr (.inr (.inr (.inr (.inr (.inr (.inr (.inr (.inl ⟨gx0, Ax5_, cx5_, g34, rfl, by kernel_rfl, by simp only [Act.put, List.getElem_toArray, List.getElem_cons_zero, List.getElem_cons_succ, List.setIfInBounds_toArray, List.set_cons_zero, List.set_cons_succ], SB, R_d7, R_k7⟩)))))))))
    · go_simp
      obtain ⟨g36, hg36⟩ : ∃ n, n = W.heap.size := ⟨_, rfl⟩
      obtain ⟨w35, hw35⟩ : ∃ x, x = W.alloc (.cells #[.bool false, .slice none 0 0, .slice none 0 0, .slice none 0 0] 26) := ⟨_, rfl⟩
      have tn := heap_alloc_new W (.cells #[.bool false, .slice none 0 0, .slice none 0 0, .slice none 0 0] 26)
      have hB := below_alloc (Below.refl W.heap.size W) (.cells #[.bool false, .slice none 0 0, .slice none 0 0, .slice none 0 0] 26)
      rw [← hw35] at tn hB
      rw [← hg36] at tn
      have GSB_b7 : Aside0 (w11.heap.size ≤ g36) := ⟨by rw [hg36]; exact SB.out.size⟩
      replace R_d7 := rm hB R_d7; replace SB := xm hB SB
      have T_b7 := Aside0.mk tn
      clear tn hB
      rw [← hw35]
      try rw [← hg36]
      clear hw35 hg36
      refine hK.out _ _ (MK.out _ SB.out) (fun hNew => ?_)
      clear hK K hNew
      exact ih _ _ _ _ (by decide) (.inr (.inr (.inr (.inr (.inr (.inr (.inr (.inr (.inr (.inl ⟨gx0, Ax5_, cx5_, g36, rfl, by kernel_rfl, by simp only [Act.put, List.getElem_toArray, List.getElem_cons_zero, List.getElem_cons_succ, List.setIfInBounds_toArray, List.set_cons_zero, List.set_cons_succ], SB, T_b7, GSB_b7, R_d7⟩))))))))))
  · obtain ⟨gx0, gx6, rfl, rfl, rfl, SB, R_d7, R_k7⟩ := J
    simp only [Act.put, List.getElem_toArray, List.getElem_cons_zero, List.getElem_cons_succ, List.setIfInBounds_toArray, List.set_cons_zero, List.set_cons_succ]
    refine wpAnyH_ready (rs := [5, 14]) (by kernel_rfl) (by simp) ?_
    refine (AllReadyH.cons rfl (fun K hK => ?_) (AllReadyH.cons rfl (fun K hK => ?_) AllReadyH.nil))
    · refine Kd.R_append_rows_step (Kd.int .i64) (w0 := w11) w11.heap.size (by rfl) (.tmp 45) (.tmp 49) 24 3 (.int .i64 0) 8 rfl Try.underlying24 info3 rfl (by decide) (by decide) (.slice (some ⟨gx0, 0, none⟩) 0 0) ([] : List Int) D1 A3 i c3 (fun _ => True) (fun _ => False) rfl rfl R_d7.out ((Kd.C_below CD1.out (BB.out.trans (SB.out.mono BB.out.size)))) (fun _ _ h => h) (fun _ h => h.elim) (fun _ _ => trivial) SB.out SB.out.size (by (try simp only [List.length_nil]); omega) ?_
      intro v1 w39 ho hb hg hat
      rw [List.nil_append] at ho
      obtain ⟨Ax37, cx38, rfl⟩ := Kd.R_slice ho
      replace R_k7 := Aside0.mk (Kd.R_over R_k7.out R_d7.out (by decide) hg)
      replace R_d7 := Aside0.mk ho
      replace SB := Aside0.mk hb
      clear ho hb hg hat
      refine hK.out _ _ (MK.out _ SB.out) (fun hNew => ?_)
      clear hK K hNew
      exact ih _ _ _ _ (by decide) (.inr (.inr (.inr (.inr (.inr (.inr (.inr (.inr (.inl ⟨gx0, Ax37, cx38, gx6, rfl, by kernel_rfl, by simp only [Act.put, List.getElem_toArray, List.getElem_cons_zero, List.getElem_cons_succ, List.setIfInBounds_toArray, List.set_cons_zero, List.set_cons_succ], SB, R_d7, R_k7⟩)))))))))
    · go_simp
      obtain ⟨g41, hg41⟩ : ∃ n, n = W.heap.size := ⟨_, rfl⟩
      obtain ⟨w40, hw40⟩ : ∃ x, x = W.alloc (.cells #[.bool false, .slice none 0 0, .slice none 0 0, .slice none 0 0] 26) := ⟨_, rfl⟩
      have tn := heap_alloc_new W (.cells #[.bool false, .slice none 0 0, .slice none 0 0, .slice none 0 0] 26)
      have hB := below_alloc (Below.refl W.heap.size W) (.cells #[.bool false, .slice none 0 0, .slice none 0 0, .slice none 0 0] 26)
      rw [← hw40] at tn hB
      rw [← hg41] at tn
      have GSB_b7 : Aside0 (w11.heap.size ≤ g41) := ⟨by rw [hg41]; exact SB.out.size⟩
      replace R_d7 := rm hB R_d7; replace R_k7 := rm hB R_k7; replace SB := xm hB SB
      have T_b7 := Aside0.mk tn
      clear tn hB
      rw [← hw40]
      try rw [← hg41]
      clear hw40 hg41
      refine hK.out _ _ (MK.out _ SB.out) (fun hNew => ?_)
      clear hK K hNew
      exact ih _ _ _ _ (by decide) (.inr (.inr (.inr (.inr (.inr (.inr (.inr (.inr (.inr (.inr (.inl ⟨gx0, gx6, g41, rfl, by kernel_rfl, by simp only [Act.put, List.getElem_toArray, List.getElem_cons_zero, List.getElem_cons_succ, List.setIfInBounds_toArray, List.set_cons_zero, List.set_cons_succ], SB, T_b7, GSB_b7, R_d7, R_k7⟩)))))))))))
  · obtain ⟨gx0, gx14, rfl, rfl, rfl, SB, T_b7, GSB_b7, R_d7⟩ := J
    simp only [Act.put, List.getElem_toArray, List.getElem_cons_zero, List.getElem_cons_succ, List.setIfInBounds_toArray, List.set_cons_zero, List.set_cons_succ]
    refine wpAnyH_ready (rs := [5, 6]) (by kernel_rfl) (by simp) ?_
    refine (AllReadyH.cons rfl (fun K hK => ?_) (AllReadyH.cons rfl (fun K hK => ?_) AllReadyH.nil))
    · refine Kd.R_append_rows_step (Kd.int .i64) (w0 := w11) w11.heap.size (by rfl) (.tmp 45) (.tmp 49) 24 3 (.int .i64 0) 8 rfl Try.underlying24 info3 rfl (by decide) (by decide) (.slice (some ⟨gx0, 0, none⟩) 0 0) ([] : List Int) D1 A3 i c3 (fun _ => True) (fun _ => False) rfl rfl R_d7.out ((Kd.C_below CD1.out (BB.out.trans (SB.out.mono BB.out.size)))) (fun _ _ h => h) (fun _ h => h.elim) (fun _ _ => trivial) SB.out SB.out.size (by (try simp only [List.length_nil]); omega) ?_
      intro v1 w44 ho hb hg hat
      rw [List.nil_append] at ho
      obtain ⟨Ax42, cx43, rfl⟩ := Kd.R_slice ho
      replace T_b7 := Aside0.mk (blk_grown T_b7.out hg (Kd.R_ne R_d7.out T_b7.out (by decide)))
      replace R_d7 := Aside0.mk ho
      replace SB := Aside0.mk hb
      clear ho hb hg hat
      refine hK.out _ _ (MK.out _ SB.out) (fun hNew => ?_)
      clear hK K hNew
      exact ih _ _ _ _ (by decide) (.inr (.inr (.inr (.inr (.inr (.inr (.inr (.inr (.inr (.inl ⟨gx0, Ax42, cx43, gx14, rfl, by kernel_rfl, by simp only [Act.put, List.getElem_toArray, List.getElem_cons_zero, List.getElem_cons_succ, List.setIfInBounds_toArray, List.set_cons_zero, List.set_cons_succ], SB, T_b7, GSB_b7, R_d7⟩))))))))))
    · go_simp
      obtain ⟨g46, hg46⟩ : ∃ n, n = W.heap.size := ⟨_, rfl⟩
      obtain ⟨w45, hw45⟩ : ∃ x, x = W.alloc (.cells #[] 9) := ⟨_, rfl⟩
      have tn := heap_alloc_new W (.cells #[] 9)
      have hB := below_alloc (Below.refl W.heap.size W) (.cells #[] 9)
      rw [← hw45] at tn hB
      rw [← hg46] at tn
      have GSB_row_ : Aside0 (w11.heap.size ≤ g46) := ⟨by rw [hg46]; exact SB.out.size⟩
      have NE_row__b7 : Aside0 (gx14 ≠ g46) := ⟨by have := blk_lt T_b7.out; omega⟩
      replace T_b7 := bm hB T_b7; replace R_d7 := rm hB R_d7; replace SB := xm hB SB
      have T_row_ := Aside0.mk tn
      clear tn hB
      rw [← hw45]
      try rw [← hg46]
      clear hw45 hg46
      have R_k7 := Aside0.mk (row_nil Kd.string (ok := fun _ => True) T_row_.out GSB_row_.out trivial)
      refine hK.out _ _ (MK.out _ SB.out) (fun hNew => ?_)
      clear hK K hNew
      exact ih _ _ _ _ (by decide) (.inr (.inr (.inr (.inr (.inr (.inr (.inr (.inr (.inr (.inr (.inl ⟨gx0, g46, gx14, rfl, by kernel_rfl, by simp only [Act.put, List.getElem_toArray, List.getElem_cons_zero, List.getElem_cons_succ, List.setIfInBounds_toArray, List.set_cons_zero, List.set_cons_succ], SB, T_b7, GSB_b7, R_d7, R_k7⟩)))))))))))
  · obtain ⟨gx6, gx14, rfl, rfl, rfl, SB, T_b7, GSB_b7, R_k7⟩ := J
    simp only [Act.put, List.getElem_toArray, List.getElem_cons_zero, List.getElem_cons_succ, List.setIfInBounds_toArray, List.set_cons_zero, List.set_cons_succ]
    refine wpAnyH_ready (rs := [0]) (by kernel_rfl) (by simp) ?_
    refine (AllReadyH.cons rfl (fun K hK => ?_) AllReadyH.nil)
    go_simp
    obtain ⟨g48, hg48⟩ : ∃ n, n = W.heap.size := ⟨_, rfl⟩
    obtain ⟨w47, hw47⟩ : ∃ x, x = W.alloc (.cells #[] 3) := ⟨_, rfl⟩
    have tn := heap_alloc_new W (.cells #[] 3)
    have hB := below_alloc (Below.refl W.heap.size W) (.cells #[] 3)
    rw [← hw47] at tn hB
    rw [← hg48] at tn
    have GSB_row_ : Aside0 (w11.heap.size ≤ g48) := ⟨by rw [hg48]; exact SB.out.size⟩
    have NE_row__b7 : Aside0 (gx14 ≠ g48) := ⟨by have := blk_lt T_b7.out; omega⟩
    replace T_b7 := bm hB T_b7; replace R_k7 := rm hB R_k7; replace SB := xm hB SB
    have T_row_ := Aside0.mk tn
    clear tn hB
    rw [← hw47]
    try rw [← hg48]
    clear hw47 hg48
    have R_d7 := Aside0.mk (row_nil (Kd.int .i64) (ok := fun _ => True) T_row_.out GSB_row_.out trivial)
    refine hK.out _ _ (MK.out _ SB.out) (fun hNew => ?_)
    clear hK K hNew
    exact ih _ _ _ _ (by decide) (.inr (.inr (.inr (.inr (.inr (.inr (.inr (.inr (.inr (.inr (.inl ⟨g48, gx6, gx14, rfl, by kernel_rfl, by simp only [Act.put, List.getElem_toArray, List.getElem_cons_zero, List.getElem_cons_succ, List.setIfInBounds_toArray, List.set_cons_zero, List.set_cons_succ], SB, T_b7, GSB_b7, R_d7, R_k7⟩)))))))))))
  · obtain ⟨gx0, Ax5_, cx5_, gx6, rfl, rfl, rfl, SB, R_d7, R_k7⟩ := J
    simp only [Act.put, List.getElem_toArray, List.getElem_cons_zero, List.getElem_cons_succ, List.setIfInBounds_toArray, List.set_cons_zero, List.set_cons_succ]
    refine wpAnyH_ready (rs := [12, 14]) (by kernel_rfl) (by simp) ?_
    refine (AllReadyH.cons rfl (fun K hK => ?_) (AllReadyH.cons rfl (fun K hK => ?_) AllReadyH.nil))
    · refine Kd.R_append_rows_step Kd.string (w0 := w11) w11.heap.size (by rfl) (.tmp 51) (.tmp 56) 23 9 (.string ⟨#[]⟩) 16 rfl Try.underlying23 info9 rfl (by decide) (by decide) (.slice (some ⟨gx6, 0, none⟩) 0 0) ([] : List ByteArray) K1 A2 j c2 (fun _ => True) (fun _ => False) rfl rfl R_k7.out ((Kd.C_below CK1.out (BB.out.trans (SB.out.mono BB.out.size)))) (fun _ _ h => h) (fun _ h => h.elim) (fun _ _ => trivial) SB.out SB.out.size (by (try simp only [List.length_nil]); omega) ?_
      intro v1 w51 ho hb hg hat
      rw [List.nil_append] at ho
      obtain ⟨Ax49, cx50, rfl⟩ := Kd.R_slice ho
      replace R_d7 := Aside0.mk (Kd.R_over R_d7.out R_k7.out (by decide) hg)
      replace R_k7 := Aside0.mk ho
      replace SB := Aside0.mk hb
      clear ho hb hg hat
      refine hK.out _ _ (MK.out _ SB.out) (fun hNew => ?_)
      clear hK K hNew
      have hHeld := MK.out _ SB.out
      refine nd_take 13 hHeld ?_
      clear hHeld
      exact ih _ _ _ _ (by decide) (.inr (.inr (.inr (.inr (.inr (.inr (.inr (.inr (.inr (.inr (.inr (.inl ⟨gx0, Ax5_, cx5_, gx6, Ax49, cx50, rfl, by kernel_rfl, by simp only [Act.put, List.getElem_toArray, List.getElem_cons_zero, List.getElem_cons_succ, List.setIfInBounds_toArray, List.set_cons_zero, List.set_cons_succ], SB, R_d7, R_k7⟩))))))))))))
    · go_simp
      obtain ⟨g53, hg53⟩ : ∃ n, n = W.heap.size := ⟨_, rfl⟩
      obtain ⟨w52, hw52⟩ : ∃ x, x = W.alloc (.cells #[.bool false, .slice none 0 0, .slice none 0 0, .slice none 0 0] 26) := ⟨_, rfl⟩
      have tn := heap_alloc_new W (.cells #[.bool false, .slice none 0 0, .slice none 0 0, .slice none 0 0] 26)
      have hB := below_alloc (Below.refl W.heap.size W) (.cells #[.bool false, .slice none 0 0, .slice none 0 0, .slice none 0 0] 26)
      rw [← hw52] at tn hB
      rw [← hg53] at tn
      have GSB_b7 : Aside0 (w11.heap.size ≤ g53) := ⟨by rw [hg53]; exact SB.out.size⟩
      replace R_d7 := rm hB R_d7; replace R_k7 := rm hB R_k7; replace SB := xm hB SB
      have T_b7 := Aside0.mk tn
      clear tn hB
      rw [← hw52]
      try rw [← hg53]
      clear hw52 hg53
      refine hK.out _ _ (MK.out _ SB.out) (fun hNew => ?_)
      clear hK K hNew
      exact ih _ _ _ _ (by decide) (.inr (.inr (.inr (.inr (.inr (.inr (.inr (.inr (.inr (.inr (.inr (.inr (.inl ⟨gx0, Ax5_, cx5_, gx6, g53, rfl, by kernel_rfl, by simp only [Act.put, List.getElem_toArray, List.getElem_cons_zero, List.getElem_cons_succ, List.setIfInBounds_toArray, List.set_cons_zero, List.set_cons_succ], SB, T_b7, GSB_b7, R_d7, R_k7⟩)))))))))))))
  · obtain ⟨gx0, Ax5_, cx5_, gx14, rfl, rfl, rfl, SB, T_b7, GSB_b7, R_d7⟩ := J
    simp only [Act.put, List.getElem_toArray, List.getElem_cons_zero, List.getElem_cons_succ, List.setIfInBounds_toArray, List.set_cons_zero, List.set_cons_succ]
    refine wpAnyH_ready (rs := [6]) (by kernel_rfl) (by simp) ?_
    refine (AllReadyH.cons rfl (fun K hK => ?_) AllReadyH.nil)
    go_simp
    obtain ⟨g55, hg55⟩ : ∃ n, n = W.heap.size := ⟨_, rfl⟩
    obtain ⟨w54, hw54⟩ : ∃ x, x = W.alloc (.cells #[] 9) := ⟨_, rfl⟩
    have tn := heap_alloc_new W (.cells #[] 9)
    have hB := below_alloc (Below.refl W.heap.size W) (.cells #[] 9)
    rw [← hw54] at tn hB
    rw [← hg55] at tn
    have GSB_row_ : Aside0 (w11.heap.size ≤ g55) := ⟨by rw [hg55]; exact SB.out.size⟩
    have NE_row__b7 : Aside0 (gx14 ≠ g55) := ⟨by have := blk_lt T_b7.out; omega⟩
    replace T_b7 := bm hB T_b7; replace R_d7 := rm hB R_d7; replace SB := xm hB SB
    have T_row_ := Aside0.mk tn
    clear tn hB
    rw [← hw54]
    try rw [← hg55]
    clear hw54 hg55
    have R_k7 := Aside0.mk (row_nil Kd.string (ok := fun _ => True) T_row_.out GSB_row_.out trivial)
    refine hK.out _ _ (MK.out _ SB.out) (fun hNew => ?_)
    clear hK K hNew
    exact ih _ _ _ _ (by decide) (.inr (.inr (.inr (.inr (.inr (.inr (.inr (.inr (.inr (.inr (.inr (.inr (.inl ⟨gx0, Ax5_, cx5_, g55, gx14, rfl, by kernel_rfl, by simp only [Act.put, List.getElem_toArray, List.getElem_cons_zero, List.getElem_cons_succ, List.setIfInBounds_toArray, List.set_cons_zero, List.set_cons_succ], SB, T_b7, GSB_b7, R_d7, R_k7⟩)))))))))))))
  · obtain ⟨gx0, gx6, gx14, rfl, rfl, rfl, SB, T_b7, GSB_b7, R_d7, R_k7⟩ := J
    simp only [Act.put, List.getElem_toArray, List.getElem_cons_zero, List.getElem_cons_succ, List.setIfInBounds_toArray, List.set_cons_zero, List.set_cons_succ]
    refine wpAnyH_ready (rs := [5]) (by kernel_rfl) (by simp) ?_
    refine (AllReadyH.cons rfl (fun K hK => ?_) AllReadyH.nil)
    refine Kd.R_append_rows_step (Kd.int .i64) (w0 := w11) w11.heap.size (by rfl) (.tmp 45) (.tmp 49) 24 3 (.int .i64 0) 8 rfl Try.underlying24 info3 rfl (by decide) (by decide) (.slice (some ⟨gx0, 0, none⟩) 0 0) ([] : List Int) D1 A3 i c3 (fun _ => True) (fun _ => False) rfl rfl R_d7.out ((Kd.C_below CD1.out (BB.out.trans (SB.out.mono BB.out.size)))) (fun _ _ h => h) (fun _ h => h.elim) (fun _ _ => trivial) SB.out SB.out.size (by (try simp only [List.length_nil]); omega) ?_
    intro v1 w58 ho hb hg hat
    rw [List.nil_append] at ho
    obtain ⟨Ax56, cx57, rfl⟩ := Kd.R_slice ho
    replace T_b7 := Aside0.mk (blk_grown T_b7.out hg (Kd.R_ne R_d7.out T_b7.out (by decide)))
    replace R_k7 := Aside0.mk (Kd.R_over R_k7.out R_d7.out (by decide) hg)
    replace R_d7 := Aside0.mk ho
    replace SB := Aside0.mk hb
    clear ho hb hg hat
    refine hK.out _ _ (MK.out _ SB.out) (fun hNew => ?_)
    clear hK K hNew
    exact ih _ _ _ _ (by decide) (.inr (.inr (.inr (.inr (.inr (.inr (.inr (.inr (.inr (.inr (.inr (.inr (.inl ⟨gx0, Ax56, cx57, gx6, gx14, rfl, by kernel_rfl, by simp only [Act.put, List.getElem_toArray, List.getElem_cons_zero, List.getElem_cons_succ, List.setIfInBounds_toArray, List.set_cons_zero, List.set_cons_succ], SB, T_b7, GSB_b7, R_d7, R_k7⟩)))))))))))))
  · obtain ⟨gx0, Ax5_, cx5_, gx6, Ax12_, cx12_, rfl, rfl, rfl, SB, R_d7, R_k7⟩ := J
    simp only [Act.put, List.getElem_toArray, List.getElem_cons_zero, List.getElem_cons_succ, List.setIfInBounds_toArray, List.set_cons_zero, List.set_cons_succ]
    refine wpAnyH_ready (rs := [14]) (by kernel_rfl) (by simp) ?_
    refine (AllReadyH.cons rfl (fun K hK => ?_) AllReadyH.nil)
    go_simp
    obtain ⟨g60, hg60⟩ : ∃ n, n = W.heap.size := ⟨_, rfl⟩
    obtain ⟨w59, hw59⟩ : ∃ x, x = W.alloc (.cells #[.bool false, .slice none 0 0, .slice none 0 0, .slice none 0 0] 26) := ⟨_, rfl⟩
    have tn := heap_alloc_new W (.cells #[.bool false, .slice none 0 0, .slice none 0 0, .slice none 0 0] 26)
    have hB := below_alloc (Below.refl W.heap.size W) (.cells #[.bool false, .slice none 0 0, .slice none 0 0, .slice none 0 0] 26)
    rw [← hw59] at tn hB
    rw [← hg60] at tn
    have GSB_b7 : Aside0 (w11.heap.size ≤ g60) := ⟨by rw [hg60]; exact SB.out.size⟩
    replace R_d7 := rm hB R_d7; replace R_k7 := rm hB R_k7; replace SB := xm hB SB
    have T_b7 := Aside0.mk tn
    clear tn hB
    rw [← hw59]
    try rw [← hg60]
    clear hw59 hg60
    refine hK.out _ _ (MK.out _ SB.out) (fun hNew => ?_)
    clear hK K hNew
    exact ih _ _ _ _ (by decide) (.inr (.inr (.inr (.inr (.inr (.inr (.inr (.inr (.inr (.inr (.inr (.inr (.inr (⟨gx0, Ax5_, cx5_, gx6, Ax12_, cx12_, g60, rfl, by kernel_rfl, by simp only [Act.put, List.getElem_toArray, List.getElem_cons_zero, List.getElem_cons_succ, List.setIfInBounds_toArray, List.set_cons_zero, List.set_cons_succ], SB, T_b7, GSB_b7, R_d7, R_k7⟩))))))))))))))
  · obtain ⟨gx0, Ax5_, cx5_, gx6, gx14, rfl, rfl, rfl, SB, T_b7, GSB_b7, R_d7, R_k7⟩ := J
    simp only [Act.put, List.getElem_toArray, List.getElem_cons_zero, List.getElem_cons_succ, List.setIfInBounds_toArray, List.set_cons_zero, List.set_cons_succ]
    refine wpAnyH_ready (rs := [12]) (by kernel_rfl) (by simp) ?_
    refine (AllReadyH.cons rfl (fun K hK => ?_) AllReadyH.nil)
    refine Kd.R_append_rows_step Kd.string (w0 := w11) w11.heap.size (by rfl) (.tmp 51) (.tmp 56) 23 9 (.string ⟨#[]⟩) 16 rfl Try.underlying23 info9 rfl (by decide) (by decide) (.slice (some ⟨gx6, 0, none⟩) 0 0) ([] : List ByteArray) K1 A2 j c2 (fun _ => True) (fun _ => False) rfl rfl R_k7.out ((Kd.C_below CK1.out (BB.out.trans (SB.out.mono BB.out.size)))) (fun _ _ h => h) (fun _ h => h.elim) (fun _ _ => trivial) SB.out SB.out.size (by (try simp only [List.length_nil]); omega) ?_
    intro v1 w63 ho hb hg hat
    rw [List.nil_append] at ho
    obtain ⟨Ax61, cx62, rfl⟩ := Kd.R_slice ho
    replace T_b7 := Aside0.mk (blk_grown T_b7.out hg (Kd.R_ne R_k7.out T_b7.out (by decide)))
    replace R_d7 := Aside0.mk (Kd.R_over R_d7.out R_k7.out (by decide) hg)
    replace R_k7 := Aside0.mk ho
    replace SB := Aside0.mk hb
    clear ho hb hg hat
    refine hK.out _ _ (MK.out _ SB.out) (fun hNew => ?_)
    clear hK K hNew
    have hHeld := MK.out _ SB.out
    refine nd_take 13 hHeld ?_
    clear hHeld
    exact ih _ _ _ _ (by decide) (.inr (.inr (.inr (.inr (.inr (.inr (.inr (.inr (.inr (.inr (.inr (.inr (.inr (⟨gx0, Ax5_, cx5_, gx6, Ax61, cx62, gx14, rfl, by kernel_rfl, by simp only [Act.put, List.getElem_toArray, List.getElem_cons_zero, List.getElem_cons_succ, List.setIfInBounds_toArray, List.set_cons_zero, List.set_cons_succ], SB, T_b7, GSB_b7, R_d7, R_k7⟩))))))))))))))
  · obtain ⟨gx0, Ax5_, cx5_, gx6, Ax12_, cx12_, gx14, rfl, rfl, rfl, SB, T_b7, GSB_b7, R_d7, R_k7⟩ := J
    simp only [Act.put, List.getElem_toArray, List.getElem_cons_zero, List.getElem_cons_succ, List.setIfInBounds_toArray, List.set_cons_zero, List.set_cons_succ]
    clear ih
    have GBB_b7 : Aside0 (w.heap.size ≤ gx14) := ⟨Nat.le_trans BB.out.size GSB_b7.out⟩
    have NE_b7_n : Aside0 (w.heap.size ≠ gx14) := ⟨by have := blk_lt T_n.out; have := GSB_b7.out; omega⟩
    have NE_b7_r : Aside0 ((w.heap.size + 1) ≠ gx14) := ⟨by have := blk_lt T_r.out; have := GSB_b7.out; omega⟩
    have NE_b7_q : Aside0 ((w.heap.size + 2) ≠ gx14) := ⟨by have := blk_lt T_q.out; have := GSB_b7.out; omega⟩
    replace R_d7 := Aside0.mk (Kd.R_lower R_d7.out BB.out.size)
    replace R_k7 := Aside0.mk (Kd.R_lower R_k7.out BB.out.size)
    replace T_n := bm SB.out T_n; replace T_r := bm SB.out T_r; replace T_q := bm SB.out T_q; replace BB := xm SB.out BB
    have hHeld := MK.out _ SB.out
    refine wpAnyH_ready (rs := [15]) (by kernel_rfl) (by simp) ?_
    refine (AllReadyH.cons rfl (fun K hK => ?_) AllReadyH.nil)
    have c_b70 := bc T_b7 0 rfl; have f_b70 := bf T_b7 0; have c_b71 := bc T_b7 1 rfl; have f_b71 := bf T_b7 1; have c_b72 := bc T_b7 2 rfl; have f_b72 := bf T_b7 2; have c_b73 := bc T_b7 3 rfl; have f_b73 := bf T_b7 3
    go_simp
    clear c_b70 f_b70 c_b71 f_b71 c_b72 f_b72 c_b73 f_b73
    have hg := nd_grown4 W (gx14) (.bool false) (.slice none 0 0) (.slice Ax12_ (K1).length cx12_) (.slice Ax5_ (D1).length cx5_)
    have tn := nd_put4 W (gx14) 26 _ _ _ _ (.bool false) (.slice none 0 0) (.slice Ax12_ (K1).length cx12_) (.slice Ax5_ (D1).length cx5_) T_b7.out
    obtain ⟨w64, hw64⟩ : ∃ x, x = ((((W.setCell ⟨gx14, 0, none⟩ (.bool false)).setCell ⟨gx14, 1, none⟩ (.slice none 0 0)).setCell ⟨gx14, 2, none⟩ (.slice Ax12_ (K1).length cx12_)).setCell ⟨gx14, 3, none⟩ (.slice Ax5_ (D1).length cx5_)) := ⟨_, rfl⟩
    rw [← hw64] at hg tn
    rw [← hw64]
    clear hw64
    replace R_d7 := rg hg T_b7 R_d7 (by decide)
    replace R_k7 := rg hg T_b7 R_k7 (by decide)
    replace T_n := bg hg T_n NE_b7_n.out
    replace T_r := bg hg T_r NE_b7_r.out
    replace T_q := bg hg T_q NE_b7_q.out
    replace BB := Aside0.mk (nd_grown_below hg BB.out BB.out.size GBB_b7.out)
    replace SB := Aside0.mk (nd_grown_below hg SB.out SB.out.size GSB_b7.out)
    replace T_b7 := Aside0.mk tn
    clear tn hg
    refine hK.out _ _ (MK.out _ SB.out) (fun hNew => ?_)
    clear hK K hHeld hNew
    refine wpAnyH_done (by kernel_rfl) ?_ _
    clear MK SB
    have c_n0 := bc T_n 0 rfl; have c_n1 := bc T_n 1 rfl; have c_n2 := bc T_n 2 rfl; have c_n3 := bc T_n 3 rfl
    go_upto_region 8 with fail
    clear c_n0 c_n1 c_n2 c_n3
    have hB : Below w64.heap.size w64 w64.drew := below_drew1 (Below.refl _ _)
    have MK0 : ∀ W, Below w64.drew.heap.size w64.drew W → Below w.heap.size w W ∧ W.cell? ⟨w.heap.size, 0, none⟩ = some (.bool false) ∧ W.cell? ⟨w.heap.size, 1, none⟩ = some (.slice A1 l1.length c1) ∧ W.cell? ⟨w.heap.size, 2, none⟩ = some (.slice A2 l2.length c2) ∧ W.cell? ⟨w.heap.size, 3, none⟩ = some (.slice A3 l3.length c3) := fun W hb => ⟨(xm hb (xm hB BB)).out, nd_cell hb (bc (bm hB T_n) 0 rfl), nd_cell hb (bc (bm hB T_n) 1 rfl), nd_cell hb (bc (bm hB T_n) 2 rfl), nd_cell hb (bc (bm hB T_n) 3 rfl)⟩
    refine wp_region_held_drew (S := fun W => Below w.heap.size w W ∧ W.cell? ⟨w.heap.size, 0, none⟩ = some (.bool false) ∧ W.cell? ⟨w.heap.size, 1, none⟩ = some (.slice A1 l1.length c1) ∧ W.cell? ⟨w.heap.size, 2, none⟩ = some (.slice A2 l2.length c2) ∧ W.cell? ⟨w.heap.size, 3, none⟩ = some (.slice A3 l3.length c3)) (by kernel_rfl) (MK0 _ (Below.refl _ _)) (fun hHeld => ?_)
    clear hHeld
    have MK := Aside0.mk MK0
    clear MK0
    obtain ⟨w65, hw65⟩ : ∃ x, x = w64.drew := ⟨_, rfl⟩
    rw [← hw65] at hB MK ⊢
    clear hw65
    replace T_n := bm hB T_n; replace T_r := bm hB T_r; replace T_q := bm hB T_q; replace T_b7 := bm hB T_b7; replace R_d7 := rm hB R_d7; replace R_k7 := rm hB R_k7; replace BB := xm hB BB
    clear hB
    have SB := Aside0.mk (Below.refl w65.heap.size w65)
    have hHeld := MK.out _ SB.out
    refine nd_take 1 hHeld ?_
    refine nd_take 2 hHeld ?_
    refine nd_take 3 hHeld ?_
    refine nd_take 4 hHeld ?_
    refine nd_take 7 hHeld ?_
    refine nd_take 8 hHeld ?_
    refine nd_take 9 hHeld ?_
    refine nd_take 10 hHeld ?_
    clear hHeld
    refine wpAnyH_dag (fun A0 qf ql qa W => (qf = 7 ∧ ql = #[false, true, true, true, true, false, false, true, true, true, true, false, false, false, false] ∧ qa = A0 ∧ Aside0 (Below w65.heap.size w65 W))
     ∨ (∃ (gy0 : Nat), qf = 6 ∧ ql = #[true, true, true, true, true, false, false, true, true, true, true, false, false, false, false] ∧ qa = (A0.put (some 59) (.slice (some ⟨gy0, 0, none⟩) 0 0)) ∧ Aside0 (Below w65.heap.size w65 W) ∧ Aside0 (Kd.R (Kd.int .i64) 3 W w65.heap.size (fun _ => True) (.slice (some ⟨gy0, 0, none⟩) 0 0) ([] : List Int)))
     ∨ (∃ (gy6 : Nat), qf = 6 ∧ ql = #[false, true, true, true, true, false, true, true, true, true, true, false, false, false, false] ∧ qa = (A0.put (some 65) (.slice (some ⟨gy6, 0, none⟩) 0 0)) ∧ Aside0 (Below w65.heap.size w65 W) ∧ Aside0 (Kd.R Kd.string 9 W w65.heap.size (fun _ => True) (.slice (some ⟨gy6, 0, none⟩) 0 0) ([] : List ByteArray)))
     ∨ (∃ (gy13 : Nat), qf = 6 ∧ ql = #[false, true, true, true, true, false, false, true, true, true, true, false, false, true, false] ∧ qa = (A0.put (some 8) (.pointer (some ⟨gy13, 0, none⟩))) ∧ Aside0 (Below w65.heap.size w65 W) ∧ Aside0 (W.heap[gy13]? = some (.cells #[.bool false, .slice none 0 0, .slice none 0 0, .slice none 0 0] 26 (0, 0))) ∧ Aside0 (w65.heap.size ≤ gy13))
     ∨ (∃ (gy0 : Nat) (Ay5_ : Option Addr) (cy5_ : Nat), qf = 5 ∧ ql = #[true, true, true, true, true, true, false, true, true, true, true, false, false, false, false] ∧ qa = ((A0.put (some 59) (.slice (some ⟨gy0, 0, none⟩) 0 0)).put (some 64) (.slice Ay5_ D2.length cy5_)) ∧ Aside0 (Below w65.heap.size w65 W) ∧ Aside0 (Kd.R (Kd.int .i64) 3 W w65.heap.size (fun _ => True) (.slice Ay5_ D2.length cy5_) D2))
     ∨ (∃ (gy0 : Nat) (gy6 : Nat), qf = 5 ∧ ql = #[true, true, true, true, true, false, true, true, true, true, true, false, false, false, false] ∧ qa = ((A0.put (some 59) (.slice (some ⟨gy0, 0, none⟩) 0 0)).put (some 65) (.slice (some ⟨gy6, 0, none⟩) 0 0)) ∧ Aside0 (Below w65.heap.size w65 W) ∧ Aside0 (Kd.R (Kd.int .i64) 3 W w65.heap.size (fun _ => True) (.slice (some ⟨gy0, 0, none⟩) 0 0) ([] : List Int)) ∧ Aside0 (Kd.R Kd.string 9 W w65.heap.size (fun _ => True) (.slice (some ⟨gy6, 0, none⟩) 0 0) ([] : List ByteArray)))
     ∨ (∃ (gy0 : Nat) (gy13 : Nat), qf = 5 ∧ ql = #[true, true, true, true, true, false, false, true, true, true, true, false, false, true, false] ∧ qa = ((A0.put (some 59) (.slice (some ⟨gy0, 0, none⟩) 0 0)).put (some 8) (.pointer (some ⟨gy13, 0, none⟩))) ∧ Aside0 (Below w65.heap.size w65 W) ∧ Aside0 (W.heap[gy13]? = some (.cells #[.bool false, .slice none 0 0, .slice none 0 0, .slice none 0 0] 26 (0, 0))) ∧ Aside0 (w65.heap.size ≤ gy13) ∧ Aside0 (Kd.R (Kd.int .i64) 3 W w65.heap.size (fun _ => True) (.slice (some ⟨gy0, 0, none⟩) 0 0) ([] : List Int)))
     ∨ (∃ (gy6 : Nat) (gy13 : Nat), qf = 5 ∧ ql = #[false, true, true, true, true, false, true, true, true, true, true, false, false, true, false] ∧ qa = ((A0.put (some 65) (.slice (some ⟨gy6, 0, none⟩) 0 0)).put (some 8) (.pointer (some ⟨gy13, 0, none⟩))) ∧ Aside0 (Below w65.heap.size w65 W) ∧ Aside0 (W.heap[gy13]? = some (.cells #[.bool false, .slice none 0 0, .slice none 0 0, .slice none 0 0] 26 (0, 0))) ∧ Aside0 (w65.heap.size ≤ gy13) ∧ Aside0 (Kd.R Kd.string 9 W w65.heap.size (fun _ => True) (.slice (some ⟨gy6, 0, none⟩) 0 0) ([] : List ByteArray)))
     ∨ (∃ (gy0 : Nat) (Ay5_ : Option Addr) (cy5_ : Nat) (gy6 : Nat), qf = 4 ∧ ql = #[true, true, true, true, true, true, true, true, true, true, true, false, false, false, false] ∧ qa = (((A0.put (some 59) (.slice (some ⟨gy0, 0, none⟩) 0 0)).put (some 64) (.slice Ay5_ D2.length cy5_)).put (some 65) (.slice (some ⟨gy6, 0, none⟩) 0 0)) ∧ Aside0 (Below w65.heap.size w65 W) ∧ Aside0 (Kd.R (Kd.int .i64) 3 W w65.heap.size (fun _ => True) (.slice Ay5_ D2.length cy5_) D2) ∧ Aside0 (Kd.R Kd.string 9 W w65.heap.size (fun _ => True) (.slice (some ⟨gy6, 0, none⟩) 0 0) ([] : List ByteArray)))
     ∨ (∃ (gy0 : Nat) (Ay5_ : Option Addr) (cy5_ : Nat) (gy13 : Nat), qf = 4 ∧ ql = #[true, true, true, true, true, true, false, true, true, true, true, false, false, true, false] ∧ qa = (((A0.put (some 59) (.slice (some ⟨gy0, 0, none⟩) 0 0)).put (some 64) (.slice Ay5_ D2.length cy5_)).put (some 8) (.pointer (some ⟨gy13, 0, none⟩))) ∧ Aside0 (Below w65.heap.size w65 W) ∧ Aside0 (W.heap[gy13]? = some (.cells #[.bool false, .slice none 0 0, .slice none 0 0, .slice none 0 0] 26 (0, 0))) ∧ Aside0 (w65.heap.size ≤ gy13) ∧ Aside0 (Kd.R (Kd.int .i64) 3 W w65.heap.size (fun _ => True) (.slice Ay5_ D2.length cy5_) D2))
     ∨ (∃ (gy0 : Nat) (gy6 : Nat) (gy13 : Nat), qf = 4 ∧ ql = #[true, true, true, true, true, false, true, true, true, true, true, false, false, true, false] ∧ qa = (((A0.put (some 59) (.slice (some ⟨gy0, 0, none⟩) 0 0)).put (some 65) (.slice (some ⟨gy6, 0, none⟩) 0 0)).put (some 8) (.pointer (some ⟨gy13, 0, none⟩))) ∧ Aside0 (Below w65.heap.size w65 W) ∧ Aside0 (W.heap[gy13]? = some (.cells #[.bool false, .slice none 0 0, .slice none 0 0, .slice none 0 0] 26 (0, 0))) ∧ Aside0 (w65.heap.size ≤ gy13) ∧ Aside0 (Kd.R (Kd.int .i64) 3 W w65.heap.size (fun _ => True) (.slice (some ⟨gy0, 0, none⟩) 0 0) ([] : List Int)) ∧ Aside0 (Kd.R Kd.string 9 W w65.heap.size (fun _ => True) (.slice (some ⟨gy6, 0, none⟩) 0 0) ([] : List ByteArray)))
     ∨ (∃ (gy0 : Nat) (Ay5_ : Option Addr) (cy5_ : Nat) (gy6 : Nat) (Ay11_ : Option Addr) (cy11_ : Nat), qf = 2 ∧ ql = #[true, true, true, true, true, true, true, true, true, true, true, true, true, false, false] ∧ qa = (((((A0.put (some 59) (.slice (some ⟨gy0, 0, none⟩) 0 0)).put (some 64) (.slice Ay5_ D2.length cy5_)).put (some 65) (.slice (some ⟨gy6, 0, none⟩) 0 0)).put (some 70) (.slice Ay11_ K2.length cy11_)).put (some 71) (.agg #[.bool false, .slice none 0 0, .slice Ay11_ (K2).length cy11_, .slice Ay5_ (D2).length cy5_])) ∧ Aside0 (Below w65.heap.size w65 W) ∧ Aside0 (Kd.R (Kd.int .i64) 3 W w65.heap.size (fun _ => True) (.slice Ay5_ D2.length cy5_) D2) ∧ Aside0 (Kd.R Kd.string 9 W w65.heap.size (fun _ => True) (.slice Ay11_ K2.length cy11_) K2))
     ∨ (∃ (gy0 : Nat) (Ay5_ : Option Addr) (cy5_ : Nat) (gy6 : Nat) (gy13 : Nat), qf = 3 ∧ ql = #[true, true, true, true, true, true, true, true, true, true, true, false, false, true, false] ∧ qa = ((((A0.put (some 59) (.slice (some ⟨gy0, 0, none⟩) 0 0)).put (some 64) (.slice Ay5_ D2.length cy5_)).put (some 65) (.slice (some ⟨gy6, 0, none⟩) 0 0)).put (some 8) (.pointer (some ⟨gy13, 0, none⟩))) ∧ Aside0 (Below w65.heap.size w65 W) ∧ Aside0 (W.heap[gy13]? = some (.cells #[.bool false, .slice none 0 0, .slice none 0 0, .slice none 0 0] 26 (0, 0))) ∧ Aside0 (w65.heap.size ≤ gy13) ∧ Aside0 (Kd.R (Kd.int .i64) 3 W w65.heap.size (fun _ => True) (.slice Ay5_ D2.length cy5_) D2) ∧ Aside0 (Kd.R Kd.string 9 W w65.heap.size (fun _ => True) (.slice (some ⟨gy6, 0, none⟩) 0 0) ([] : List ByteArray)))
     ∨ (∃ (gy0 : Nat) (Ay5_ : Option Addr) (cy5_ : Nat) (gy6 : Nat) (Ay11_ : Option Addr) (cy11_ : Nat) (gy13 : Nat), qf = 1 ∧ ql = #[true, true, true, true, true, true, true, true, true, true, true, true, true, true, false] ∧ qa = ((((((A0.put (some 59) (.slice (some ⟨gy0, 0, none⟩) 0 0)).put (some 64) (.slice Ay5_ D2.length cy5_)).put (some 65) (.slice (some ⟨gy6, 0, none⟩) 0 0)).put (some 70) (.slice Ay11_ K2.length cy11_)).put (some 8) (.pointer (some ⟨gy13, 0, none⟩))).put (some 71) (.agg #[.bool false, .slice none 0 0, .slice Ay11_ (K2).length cy11_, .slice Ay5_ (D2).length cy5_])) ∧ Aside0 (Below w65.heap.size w65 W) ∧ Aside0 (W.heap[gy13]? = some (.cells #[.bool false, .slice none 0 0, .slice none 0 0, .slice none 0 0] 26 (0, 0))) ∧ Aside0 (w65.heap.size ≤ gy13) ∧ Aside0 (Kd.R (Kd.int .i64) 3 W w65.heap.size (fun _ => True) (.slice Ay5_ D2.length cy5_) D2) ∧ Aside0 (Kd.R Kd.string 9 W w65.heap.size (fun _ => True) (.slice Ay11_ K2.length cy11_) K2))) ?_ (.inl ⟨rfl, by kernel_rfl, rfl, SB⟩)
    clear SB
    intro qf ql qa W hJ ih
    rcases hJ with J | J | J | J | J | J | J | J | J | J | J | J | J | J
    · obtain ⟨rfl, rfl, rfl, SB⟩ := J
      refine wpAnyH_ready (rs := [0, 6, 13]) (by kernel_rfl) (by simp) ?_
      refine (AllReadyH.cons rfl (fun K hK => ?_) (AllReadyH.cons rfl (fun K hK => ?_) (AllReadyH.cons rfl (fun K hK => ?_) AllReadyH.nil)))
      · go_simp
        obtain ⟨g67, hg67⟩ : ∃ n, n = W.heap.size := ⟨_, rfl⟩
        obtain ⟨w66, hw66⟩ : ∃ x, x = W.alloc (.cells #[] 3) := ⟨_, rfl⟩
        have tn := heap_alloc_new W (.cells #[] 3)
        have hB := below_alloc (Below.refl W.heap.size W) (.cells #[] 3)
        rw [← hw66] at tn hB
        rw [← hg67] at tn
        have GSB_row_ : Aside0 (w65.heap.size ≤ g67) := ⟨by rw [hg67]; exact SB.out.size⟩
        replace SB := xm hB SB
        have T_row_ := Aside0.mk tn
        clear tn hB
        rw [← hw66]
        try rw [← hg67]
        clear hw66 hg67
        have R_d8 := Aside0.mk (row_nil (Kd.int .i64) (ok := fun _ => True) T_row_.out GSB_row_.out trivial)
        refine hK.out _ _ (MK.out _ SB.out) (fun hNew => ?_)
        clear hK K hNew
        exact ih _ _ _ _ (by decide) (.inr (.inl ⟨g67, rfl, by kernel_rfl, by simp only [Act.put, List.getElem_toArray, List.getElem_cons_zero, List.getElem_cons_succ, List.setIfInBounds_toArray, List.set_cons_zero, List.set_cons_succ], SB, R_d8⟩))
      · go_simp
        obtain ⟨g69, hg69⟩ : ∃ n, n = W.heap.size := ⟨_, rfl⟩
        obtain ⟨w68, hw68⟩ : ∃ x, x = W.alloc (.cells #[] 9) := ⟨_, rfl⟩
        have tn := heap_alloc_new W (.cells #[] 9)
        have hB := below_alloc (Below.refl W.heap.size W) (.cells #[] 9)
        rw [← hw68] at tn hB
        rw [← hg69] at tn
        have GSB_row_ : Aside0 (w65.heap.size ≤ g69) := ⟨by rw [hg69]; exact SB.out.size⟩
        replace SB := xm hB SB
        have T_row_ := Aside0.mk tn
        clear tn hB
        rw [← hw68]
        try rw [← hg69]
        clear hw68 hg69
        have R_k8 := Aside0.mk (row_nil Kd.string (ok := fun _ => True) T_row_.out GSB_row_.out trivial)
        refine hK.out _ _ (MK.out _ SB.out) (fun hNew => ?_)
        clear hK K hNew
        exact ih _ _ _ _ (by decide) (.inr (.inr (.inl ⟨g69, rfl, by kernel_rfl, by simp only [Act.put, List.getElem_toArray, List.getElem_cons_zero, List.getElem_cons_succ, List.setIfInBounds_toArray, List.set_cons_zero, List.set_cons_succ], SB, R_k8⟩)))
      · go_simp
        obtain ⟨g71, hg71⟩ : ∃ n, n = W.heap.size := ⟨_, rfl⟩
        obtain ⟨w70, hw70⟩ : ∃ x, x = W.alloc (.cells #[.bool false, .slice none 0 0, .slice none 0 0, .slice none 0 0] 26) := ⟨_, rfl⟩
        have tn := heap_alloc_new W (.cells #[.bool false, .slice none 0 0, .slice none 0 0, .slice none 0 0] 26)
        have hB := below_alloc (Below.refl W.heap.size W) (.cells #[.bool false, .slice none 0 0, .slice none 0 0, .slice none 0 0] 26)
        rw [← hw70] at tn hB
        rw [← hg71] at tn
        have GSB_b8 : Aside0 (w65.heap.size ≤ g71) := ⟨by rw [hg71]; exact SB.out.size⟩
        replace SB := xm hB SB
        have T_b8 := Aside0.mk tn
        clear tn hB
        rw [← hw70]
        try rw [← hg71]
        clear hw70 hg71
        refine hK.out _ _ (MK.out _ SB.out) (fun hNew => ?_)
        clear hK K hNew
        exact ih _ _ _ _ (by decide) (.inr (.inr (.inr (.inl ⟨g71, rfl, by kernel_rfl, by simp only [Act.put, List.getElem_toArray, List.getElem_cons_zero, List.getElem_cons_succ, List.setIfInBounds_toArray, List.set_cons_zero, List.set_cons_succ], SB, T_b8, GSB_b8⟩))))
    · obtain ⟨gy0, rfl, rfl, rfl, SB, R_d8⟩ := J
      simp only [Act.put, List.getElem_toArray, List.getElem_cons_zero, List.getElem_cons_succ, List.setIfInBounds_toArray, List.set_cons_zero, List.set_cons_succ]
      refine wpAnyH_ready (rs := [5, 6, 13]) (by kernel_rfl) (by simp) ?_
      refine (AllReadyH.cons rfl (fun K hK => ?_) (AllReadyH.cons rfl (fun K hK => ?_) (AllReadyH.cons rfl (fun K hK => ?_) AllReadyH.nil)))
      · refine Kd.R_append_rows_step (Kd.int .i64) (w0 := w65) w65.heap.size (by rfl) (.tmp 59) (.tmp 63) 24 3 (.int .i64 0) 8 rfl Try.underlying24 info3 rfl (by decide) (by decide) (.slice (some ⟨gy0, 0, none⟩) 0 0) ([] : List Int) D2 (if c3 = i then A3 else A3.map (·.add i)) (l3.length - i) (c3 - i) (fun _ => True) (fun _ => False) rfl rfl R_d8.out ((Kd.C_below CD2.out (BB.out.trans (SB.out.mono BB.out.size)))) (fun _ _ h => h) (fun _ h => h.elim) (fun _ _ => trivial) SB.out SB.out.size (by (try simp only [List.length_nil]); omega) ?_
        intro v1 w74 ho hb hg hat
        rw [List.nil_append] at ho
        obtain ⟨Ax72, cx73, rfl⟩ := Kd.R_slice ho
        replace R_d8 := Aside0.mk ho
        replace SB := Aside0.mk hb
        clear ho hb hg hat
        refine hK.out _ _ (MK.out _ SB.out) (fun hNew => ?_)
        clear hK K hNew
        exact ih _ _ _ _ (by decide) (.inr (.inr (.inr (.inr (.inl ⟨gy0, Ax72, cx73, rfl, by kernel_rfl, by simp only [Act.put, List.getElem_toArray, List.getElem_cons_zero, List.getElem_cons_succ, List.setIfInBounds_toArray, List.set_cons_zero, List.set_cons_succ], SB, R_d8⟩)))))
      · go_simp
        obtain ⟨g76, hg76⟩ : ∃ n, n = W.heap.size := ⟨_, rfl⟩
        obtain ⟨w75, hw75⟩ : ∃ x, x = W.alloc (.cells #[] 9) := ⟨_, rfl⟩
        have tn := heap_alloc_new W (.cells #[] 9)
        have hB := below_alloc (Below.refl W.heap.size W) (.cells #[] 9)
        rw [← hw75] at tn hB
        rw [← hg76] at tn
        have GSB_row_ : Aside0 (w65.heap.size ≤ g76) := ⟨by rw [hg76]; exact SB.out.size⟩
        replace R_d8 := rm hB R_d8; replace SB := xm hB SB
        have T_row_ := Aside0.mk tn
        clear tn hB
        rw [← hw75]
        try rw [← hg76]
        clear hw75 hg76
        have R_k8 := Aside0.mk (row_nil Kd.string (ok := fun _ => True) T_row_.out GSB_row_.out trivial)
        refine hK.out _ _ (MK.out _ SB.out) (fun hNew => ?_)
        clear hK K hNew
        exact ih _ _ _ _ (by decide) (.inr (.inr (.inr (.inr (.inr (.inl ⟨gy0, g76, rfl, by kernel_rfl, by simp only [Act.put, List.getElem_toArray, List.getElem_cons_zero, List.getElem_cons_succ, List.setIfInBounds_toArray, List.set_cons_zero, List.set_cons_succ], SB, R_d8, R_k8⟩))))))
      · go_simp
        obtain ⟨g78, hg78⟩ : ∃ n, n = W.heap.size := ⟨_, rfl⟩
        obtain ⟨w77, hw77⟩ : ∃ x, x = W.alloc (.cells #[.bool false, .slice none 0 0, .slice none 0 0, .slice none 0 0] 26) := ⟨_, rfl⟩
        have tn := heap_alloc_new W (.cells #[.bool false, .slice none 0 0, .slice none 0 0, .slice none 0 0] 26)
        have hB := below_alloc (Below.refl W.heap.size W) (.cells #[.bool false, .slice none 0 0, .slice none 0 0, .slice none 0 0] 26)
        rw [← hw77] at tn hB
        rw [← hg78] at tn
        have GSB_b8 : Aside0 (w65.heap.size ≤ g78) := ⟨by rw [hg78]; exact SB.out.size⟩
        replace R_d8 := rm hB R_d8; replace SB := xm hB SB
        have T_b8 := Aside0.mk tn
        clear tn hB
        rw [← hw77]
        try rw [← hg78]
        clear hw77 hg78
        refine hK.out _ _ (MK.out _ SB.out) (fun hNew => ?_)
        clear hK K hNew
        exact ih _ _ _ _ (by decide) (.inr (.inr (.inr (.inr (.inr (.inr (.inl ⟨gy0, g78, rfl, by kernel_rfl, by simp only [Act.put, List.getElem_toArray, List.getElem_cons_zero, List.getElem_cons_succ, List.setIfInBounds_toArray, List.set_cons_zero, List.set_cons_succ], SB, T_b8, GSB_b8, R_d8⟩)))))))
    · obtain ⟨gy6, rfl, rfl, rfl, SB, R_k8⟩ := J
      simp only [Act.put, List.getElem_toArray, List.getElem_cons_zero, List.getElem_cons_succ, List.setIfInBounds_toArray, List.set_cons_zero, List.set_cons_succ]
      refine wpAnyH_ready (rs := [0, 13]) (by kernel_rfl) (by simp) ?_
      refine (AllReadyH.cons rfl (fun K hK => ?_) (AllReadyH.cons rfl (fun K hK => ?_) AllReadyH.nil))
      · go_simp
        obtain ⟨g80, hg80⟩ : ∃ n, n = W.heap.size := ⟨_, rfl⟩
        obtain ⟨w79, hw79⟩ : ∃ x, x = W.alloc (.cells #[] 3) := ⟨_, rfl⟩
        have tn := heap_alloc_new W (.cells #[] 3)
        have hB := below_alloc (Below.refl W.heap.size W) (.cells #[] 3)
        rw [← hw79] at tn hB
        rw [← hg80] at tn
        have GSB_row_ : Aside0 (w65.heap.size ≤ g80) := ⟨by rw [hg80]; exact SB.out.size⟩
        replace R_k8 := rm hB R_k8; replace SB := xm hB SB
        have T_row_ := Aside0.mk tn
        clear tn hB
        rw [← hw79]
        try rw [← hg80]
        clear hw79 hg80
        have R_d8 := Aside0.mk (row_nil (Kd.int .i64) (ok := fun _ => True) T_row_.out GSB_row_.out trivial)
        refine hK.out _ _ (MK.out _ SB.out) (fun hNew => ?_)
        clear hK K hNew
        exact ih _ _ _ _ (by decide) (.inr (.inr (.inr (.inr (.inr (.inl ⟨g80, gy6, rfl, by kernel_rfl, by simp only [Act.put, List.getElem_toArray, List.getElem_cons_zero, List.getElem_cons_succ, List.setIfInBounds_toArray, List.set_cons_zero, List.set_cons_succ], SB, R_d8, R_k8⟩))))))
      · go_simp
        obtain ⟨g82, hg82⟩ : ∃ n, n = W.heap.size := ⟨_, rfl⟩
        obtain ⟨w81, hw81⟩ : ∃ x, x = W.alloc (.cells #[.bool false, .slice none 0 0, .slice none 0 0, .slice none 0 0] 26) := ⟨_, rfl⟩
        have tn := heap_alloc_new W (.cells #[.bool false, .slice none 0 0, .slice none 0 0, .slice none 0 0] 26)
        have hB := below_alloc (Below.refl W.heap.size W) (.cells #[.bool false, .slice none 0 0, .slice none 0 0, .slice none 0 0] 26)
        rw [← hw81] at tn hB
        rw [← hg82] at tn
        have GSB_b8 : Aside0 (w65.heap.size ≤ g82) := ⟨by rw [hg82]; exact SB.out.size⟩
        replace R_k8 := rm hB R_k8; replace SB := xm hB SB
        have T_b8 := Aside0.mk tn
        clear tn hB
        rw [← hw81]
        try rw [← hg82]
        clear hw81 hg82
        refine hK.out _ _ (MK.out _ SB.out) (fun hNew => ?_)
        clear hK K hNew
        exact ih _ _ _ _ (by decide) (.inr (.inr (.inr (.inr (.inr (.inr (.inr (.inl ⟨gy6, g82, rfl, by kernel_rfl, by simp only [Act.put, List.getElem_toArray, List.getElem_cons_zero, List.getElem_cons_succ, List.setIfInBounds_toArray, List.set_cons_zero, List.set_cons_succ], SB, T_b8, GSB_b8, R_k8⟩))))))))
    · obtain ⟨gy13, rfl, rfl, rfl, SB, T_b8, GSB_b8⟩ := J
      simp only [Act.put, List.getElem_toArray, List.getElem_cons_zero, List.getElem_cons_succ, List.setIfInBounds_toArray, List.set_cons_zero, List.set_cons_succ]
      refine wpAnyH_ready (rs := [0, 6]) (by kernel_rfl) (by simp) ?_
      refine (AllReadyH.cons rfl (fun K hK => ?_) (AllReadyH.cons rfl (fun K hK => ?_) AllReadyH.nil))
      · go_simp
        obtain ⟨g84, hg84⟩ : ∃ n, n = W.heap.size := ⟨_, rfl⟩
        obtain ⟨w83, hw83⟩ : ∃ x, x = W.alloc (.cells #[] 3) := ⟨_, rfl⟩
        have tn := heap_alloc_new W (.cells #[] 3)
        have hB := below_alloc (Below.refl W.heap.size W) (.cells #[] 3)
        rw [← hw83] at tn hB
        rw [← hg84] at tn
        have GSB_row_ : Aside0 (w65.heap.size ≤ g84) := ⟨by rw [hg84]; exact SB.out.size⟩
        have NE_row__b8 : Aside0 (gy13 ≠ g84) := ⟨by have := blk_lt T_b8.out; omega⟩
        replace T_b8 := bm hB T_b8; replace SB := xm hB SB
        have T_row_ := Aside0.mk tn
        clear tn hB
        rw [← hw83]
        try rw [← hg84]
        clear hw83 hg84
        have R_d8 := Aside0.mk (row_nil (Kd.int .i64) (ok := fun _ => True) T_row_.out GSB_row_.out trivial)
        refine hK.out _ _ (MK.out _ SB.out) (fun hNew => ?_)
        clear hK K hNew
        exact ih _ _ _ _ (by decide) (.inr (.inr (.inr (.inr (.inr (.inr (.inl ⟨g84, gy13, rfl, by kernel_rfl, by simp only [Act.put, List.getElem_toArray, List.getElem_cons_zero, List.getElem_cons_succ, List.setIfInBounds_toArray, List.set_cons_zero, List.set_cons_succ], SB, T_b8, GSB_b8, R_d8⟩)))))))
      · go_simp
        obtain ⟨g86, hg86⟩ : ∃ n, n = W.heap.size := ⟨_, rfl⟩
        obtain ⟨w85, hw85⟩ : ∃ x, x = W.alloc (.cells #[] 9) := ⟨_, rfl⟩
        have tn := heap_alloc_new W (.cells #[] 9)
        have hB := below_alloc (Below.refl W.heap.size W) (.cells #[] 9)
        rw [← hw85] at tn hB
        rw [← hg86] at tn
        have GSB_row_ : Aside0 (w65.heap.size ≤ g86) := ⟨by rw [hg86]; exact SB.out.size⟩
        have NE_row__b8 : Aside0 (gy13 ≠ g86) := ⟨by have := blk_lt T_b8.out; omega⟩
        replace T_b8 := bm hB T_b8; replace SB := xm hB SB
        have T_row_ := Aside0.mk tn
        clear tn hB
        rw [← hw85]
        try rw [← hg86]
        clear hw85 hg86
        have R_k8 := Aside0.mk (row_nil Kd.string (ok := fun _ => True) T_row_.out GSB_row_.out trivial)
        refine hK.out _ _ (MK.out _ SB.out) (fun hNew => ?_)
        clear hK K hNew
        exact ih _ _ _ _ (by decide) (.inr (.inr (.inr (.inr (.inr (.inr (.inr (.inl ⟨g86, gy13, rfl, by kernel_rfl, by simp only [Act.put, List.getElem_toArray, List.getElem_cons_zero, List.getElem_cons_succ, List.setIfInBounds_toArray, List.set_cons_zero, List.set_cons_succ], SB, T_b8, GSB_b8, R_k8⟩))))))))
    · obtain ⟨gy0, Ay5_, cy5_, rfl, rfl, rfl, SB, R_d8⟩ := J
      simp only [Act.put, List.getElem_toArray, List.getElem_cons_zero, List.getElem_cons_succ, List.setIfInBounds_toArray, List.set_cons_zero, List.set_cons_succ]
      refine wpAnyH_ready (rs := [6, 13]) (by kernel_rfl) (by simp) ?_
      refine (AllReadyH.cons rfl (fun K hK => ?_) (AllReadyH.cons rfl (fun K hK => ?_) AllReadyH.nil))
      · go_simp
        obtain ⟨g88, hg88⟩ : ∃ n, n = W.heap.size := ⟨_, rfl⟩
        obtain ⟨w87, hw87⟩ : ∃ x, x = W.alloc (.cells #[] 9) := ⟨_, rfl⟩
        have tn := heap_alloc_new W (.cells #[] 9)
        have hB := below_alloc (Below.refl W.heap.size W) (.cells #[] 9)
        rw [← hw87] at tn hB
        rw [← hg88] at tn
        have GSB_row_ : Aside0 (w65.heap.size ≤ g88) := ⟨by rw [hg88]; exact SB.out.size⟩
        replace R_d8 := rm hB R_d8; replace SB := xm hB SB
        have T_row_ := Aside0.mk tn
        clear tn hB
        rw [← hw87]
        try rw [← hg88]
        clear hw87 hg88
        have R_k8 := Aside0.mk (row_nil Kd.string (ok := fun _ => True) T_row_.out GSB_row_.out trivial)
        refine hK.out _ _ (MK.out _ SB.out) (fun hNew => ?_)
        clear hK K hNew
        exact ih _ _ _ _ (by decide) (.inr (.inr (.inr (.inr (.inr (.inr (.inr (.inr (.inl ⟨gy0, Ay5_, cy5_, g88, rfl, by kernel_rfl, by simp only [Act.put, List.getElem_toArray, List.getElem_cons_zero, List.getElem_cons_succ, List.setIfInBounds_toArray, List.set_cons_zero, List.set_cons_succ], SB, R_d8, R_k8⟩)))))))))
      · go_simp
        obtain ⟨g90, hg90⟩ : ∃ n, n = W.heap.size := ⟨_, rfl⟩
        obtain ⟨w89, hw89⟩ : ∃ x, x = W.alloc (.cells #[.bool false, .slice none 0 0, .slice none 0 0, .slice none 0 0] 26) := ⟨_, rfl⟩
        have tn := heap_alloc_new W (.cells #[.bool false, .slice none 0 0, .slice none 0 0, .slice none 0 0] 26)
        have hB := below_alloc (Below.refl W.heap.size W) (.cells #[.bool false, .slice none 0 0, .slice none 0 0, .slice none 0 0] 26)
        rw [← hw89] at tn hB
        rw [← hg90] at tn
        have GSB_b8 : Aside0 (w65.heap.size ≤ g90) := ⟨by rw [hg90]; exact SB.out.size⟩
        replace R_d8 := rm hB R_d8; replace SB := xm hB SB
        have T_b8 := Aside0.mk tn
        clear tn hB
        rw [← hw89]
        try rw [← hg90]
        clear hw89 hg90
        refine hK.out _ _ (MK.out _ SB.out) (fun hNew => ?_)
        clear hK K hNew
        exact ih _ _ _ _ (by decide) (.inr (.inr (.inr (.inr (.inr (.inr (.inr (.inr (.inr (.inl ⟨gy0, Ay5_, cy5_, g90, rfl, by kernel_rfl, by simp only [Act.put, List.getElem_toArray, List.getElem_cons_zero, List.getElem_cons_succ, List.setIfInBounds_toArray, List.set_cons_zero, List.set_cons_succ], SB, T_b8, GSB_b8, R_d8⟩))))))))))
    · obtain ⟨gy0, gy6, rfl, rfl, rfl, SB, R_d8, R_k8⟩ := J
      simp only [Act.put, List.getElem_toArray, List.getElem_cons_zero, List.getElem_cons_succ, List.setIfInBounds_toArray, List.set_cons_zero, List.set_cons_succ]
      refine wpAnyH_ready (rs := [5, 13]) (by kernel_rfl) (by simp) ?_
      refine (AllReadyH.cons rfl (fun K hK => ?_) (AllReadyH.cons rfl (fun K hK => ?_) AllReadyH.nil))
      · refine Kd.R_append_rows_step (Kd.int .i64) (w0 := w65) w65.heap.size (by rfl) (.tmp 59) (.tmp 63) 24 3 (.int .i64 0) 8 rfl Try.underlying24 info3 rfl (by decide) (by decide) (.slice (some ⟨gy0, 0, none⟩) 0 0) ([] : List Int) D2 (if c3 = i then A3 else A3.map (·.add i)) (l3.length - i) (c3 - i) (fun _ => True) (fun _ => False) rfl rfl R_d8.out ((Kd.C_below CD2.out (BB.out.trans (SB.out.mono BB.out.size)))) (fun _ _ h => h) (fun _ h => h.elim) (fun _ _ => trivial) SB.out SB.out.size (by (try simp only [List.length_nil]); omega) ?_
        intro v1 w93 ho hb hg hat
        rw [List.nil_append] at ho
        obtain ⟨Ax91, cx92, rfl⟩ := Kd.R_slice ho
        replace R_k8 := Aside0.mk (Kd.R_over R_k8.out R_d8.out (by decide) hg)
        replace R_d8 := Aside0.mk ho
        replace SB := Aside0.mk hb
        clear ho hb hg hat
        refine hK.out _ _ (MK.out _ SB.out) (fun hNew => ?_)
        clear hK K hNew
        exact ih _ _ _ _ (by decide) (.inr (.inr (.inr (.inr (.inr (.inr (.inr (.inr (.inl ⟨gy0, Ax91, cx92, gy6, rfl, by kernel_rfl, by simp only [Act.put, List.getElem_toArray, List.getElem_cons_zero, List.getElem_cons_succ, List.setIfInBounds_toArray, List.set_cons_zero, List.set_cons_succ], SB, R_d8, R_k8⟩)))))))))
      · go_simp
        obtain ⟨g95, hg95⟩ : ∃ n, n = W.heap.size := ⟨_, rfl⟩
        obtain ⟨w94, hw94⟩ : ∃ x, x = W.alloc (.cells #[.bool false, .slice none 0 0, .slice none 0 0, .slice none 0 0] 26) := ⟨_, rfl⟩
        have tn := heap_alloc_new W (.cells #[.bool false, .slice none 0 0, .slice none 0 0, .slice none 0 0] 26)
        have hB := below_alloc (Below.refl W.heap.size W) (.cells #[.bool false, .slice none 0 0, .slice none 0 0, .slice none 0 0] 26)
        rw [← hw94] at tn hB
        rw [← hg95] at tn
        have GSB_b8 : Aside0 (w65.heap.size ≤ g95) := ⟨by rw [hg95]; exact SB.out.size⟩
        replace R_d8 := rm hB R_d8; replace R_k8 := rm hB R_k8; replace SB := xm hB SB
        have T_b8 := Aside0.mk tn
        clear tn hB
        rw [← hw94]
        try rw [← hg95]
        clear hw94 hg95
        refine hK.out _ _ (MK.out _ SB.out) (fun hNew => ?_)
        clear hK K hNew
        exact ih _ _ _ _ (by decide) (.inr (.inr (.inr (.inr (.inr (.inr (.inr (.inr (.inr (.inr (.inl ⟨gy0, gy6, g95, rfl, by kernel_rfl, by simp only [Act.put, List.getElem_toArray, List.getElem_cons_zero, List.getElem_cons_succ, List.setIfInBounds_toArray, List.set_cons_zero, List.set_cons_succ], SB, T_b8, GSB_b8, R_d8, R_k8⟩)))))))))))
    · obtain ⟨gy0, gy13, rfl, rfl, rfl, SB, T_b8, GSB_b8, R_d8⟩ := J
      simp only [Act.put, List.getElem_toArray, List.getElem_cons_zero, List.getElem_cons_succ, List.setIfInBounds_toArray, List.set_cons_zero, List.set_cons_succ]
      refine wpAnyH_ready (rs := [5, 6]) (by kernel_rfl) (by simp) ?_
      refine (AllReadyH.cons rfl (fun K hK => ?_) (AllReadyH.cons rfl (fun K hK => ?_) AllReadyH.nil))
      · refine Kd.R_append_rows_step (Kd.int .i64) (w0 := w65) w65.heap.size (by rfl) (.tmp 59) (.tmp 63) 24 3 (.int .i64 0) 8 rfl Try.underlying24 info3 rfl (by decide) (by decide) (.slice (some ⟨gy0, 0, none⟩) 0 0) ([] : List Int) D2 (if c3 = i then A3 else A3.map (·.add i)) (l3.length - i) (c3 - i) (fun _ => True) (fun _ => False) rfl rfl R_d8.out ((Kd.C_below CD2.out (BB.out.trans (SB.out.mono BB.out.size)))) (fun _ _ h => h) (fun _ h => h.elim) (fun _ _ => trivial) SB.out SB.out.size (by (try simp only [List.length_nil]); omega) ?_
        intro v1 w98 ho hb hg hat
        rw [List.nil_append] at ho
        obtain ⟨Ax96, cx97, rfl⟩ := Kd.R_slice ho
        replace T_b8 := Aside0.mk (blk_grown T_b8.out hg (Kd.R_ne R_d8.out T_b8.out (by decide)))
        replace R_d8 := Aside0.mk ho
        replace SB := Aside0.mk hb
        clear ho hb hg hat
        refine hK.out _ _ (MK.out _ SB.out) (fun hNew => ?_)
        clear hK K hNew
        exact ih _ _ _ _ (by decide) (.inr (.inr (.inr (.inr (.inr (.inr (.inr (.inr (.inr (.inl ⟨gy0, Ax96, cx97, gy13, rfl, by kernel_rfl, by simp only [Act.put, List.getElem_toArray, List.getElem_cons_zero, List.getElem_cons_succ, List.setIfInBounds_toArray, List.set_cons_zero, List.set_cons_succ], SB, T_b8, GSB_b8, R_d8⟩))))))))))
      · go_simp
        obtain ⟨g100, hg100⟩ : ∃ n, n = W.heap.size := ⟨_, rfl⟩
        obtain ⟨w99, hw99⟩ : ∃ x, x = W.alloc (.cells #[] 9) := ⟨_, rfl⟩
        have tn := heap_alloc_new W (.cells #[] 9)
        have hB := below_alloc (Below.refl W.heap.size W) (.cells #[] 9)
        rw [← hw99] at tn hB
        rw [← hg100] at tn
        have GSB_row_ : Aside0 (w65.heap.size ≤ g100) := ⟨by rw [hg100]; exact SB.out.size⟩
        have NE_row__b8 : Aside0 (gy13 ≠ g100) := ⟨by have := blk_lt T_b8.out; omega⟩
        replace T_b8 := bm hB T_b8; replace R_d8 := rm hB R_d8; replace SB := xm hB SB
        have T_row_ := Aside0.mk tn
        clear tn hB
        rw [← hw99]
        try rw [← hg100]
        clear hw99 hg100
        have R_k8 := Aside0.mk (row_nil Kd.string (ok := fun _ => True) T_row_.out GSB_row_.out trivial)
        refine hK.out _ _ (MK.out _ SB.out) (fun hNew => ?_)
        clear hK K hNew
        exact ih _ _ _ _ (by decide) (.inr (.inr (.inr (.inr (.inr (.inr (.inr (.inr (.inr (.inr (.inl ⟨gy0, g100, gy13, rfl, by kernel_rfl, by simp only [Act.put, List.getElem_toArray, List.getElem_cons_zero, List.getElem_cons_succ, List.setIfInBounds_toArray, List.set_cons_zero, List.set_cons_succ], SB, T_b8, GSB_b8, R_d8, R_k8⟩)))))))))))
    · obtain ⟨gy6, gy13, rfl, rfl, rfl, SB, T_b8, GSB_b8, R_k8⟩ := J
      simp only [Act.put, List.getElem_toArray, List.getElem_cons_zero, List.getElem_cons_succ, List.setIfInBounds_toArray, List.set_cons_zero, List.set_cons_succ]
      refine wpAnyH_ready (rs := [0]) (by kernel_rfl) (by simp) ?_
      refine (AllReadyH.cons rfl (fun K hK => ?_) AllReadyH.nil)
      go_simp
      obtain ⟨g102, hg102⟩ : ∃ n, n = W.heap.size := ⟨_, rfl⟩
      obtain ⟨w101, hw101⟩ : ∃ x, x = W.alloc (.cells #[] 3) := ⟨_, rfl⟩
      have tn := heap_alloc_new W (.cells #[] 3)
      have hB := below_alloc (Below.refl W.heap.size W) (.cells #[] 3)
      rw [← hw101] at tn hB
      rw [← hg102] at tn
      have GSB_row_ : Aside0 (w65.heap.size ≤ g102) := ⟨by rw [hg102]; exact SB.out.size⟩
      have NE_row__b8 : Aside0 (gy13 ≠ g102) := ⟨by have := blk_lt T_b8.out; omega⟩
      replace T_b8 := bm hB T_b8; replace R_k8 := rm hB R_k8; replace SB := xm hB SB
      have T_row_ := Aside0.mk tn
      clear tn hB
      rw [← hw101]
      try rw [← hg102]
      clear hw101 hg102
      have R_d8 := Aside0.mk (row_nil (Kd.int .i64) (ok := fun _ => True) T_row_.out GSB_row_.out trivial)
      refine hK.out _ _ (MK.out _ SB.out) (fun hNew => ?_)
      clear hK K hNew
      exact ih _ _ _ _ (by decide) (.inr (.inr (.inr (.inr (.inr (.inr (.inr (.inr (.inr (.inr (.inl ⟨g102, gy6, gy13, rfl, by kernel_rfl, by simp only [Act.put, List.getElem_toArray, List.getElem_cons_zero, List.getElem_cons_succ, List.setIfInBounds_toArray, List.set_cons_zero, List.set_cons_succ], SB, T_b8, GSB_b8, R_d8, R_k8⟩)))))))))))
    · obtain ⟨gy0, Ay5_, cy5_, gy6, rfl, rfl, rfl, SB, R_d8, R_k8⟩ := J
      simp only [Act.put, List.getElem_toArray, List.getElem_cons_zero, List.getElem_cons_succ, List.setIfInBounds_toArray, List.set_cons_zero, List.set_cons_succ]
      refine wpAnyH_ready (rs := [11, 13]) (by kernel_rfl) (by simp) ?_
      refine (AllReadyH.cons rfl (fun K hK => ?_) (AllReadyH.cons rfl (fun K hK => ?_) AllReadyH.nil))
      · refine Kd.R_append_rows_step Kd.string (w0 := w65) w65.heap.size (by rfl) (.tmp 65) (.tmp 69) 23 9 (.string ⟨#[]⟩) 16 rfl Try.underlying23 info9 rfl (by decide) (by decide) (.slice (some ⟨gy6, 0, none⟩) 0 0) ([] : List ByteArray) K2 (if c2 = i then A2 else A2.map (·.add i)) (l2.length - i) (c2 - i) (fun _ => True) (fun _ => False) rfl rfl R_k8.out ((Kd.C_below CK2.out (BB.out.trans (SB.out.mono BB.out.size)))) (fun _ _ h => h) (fun _ h => h.elim) (fun _ _ => trivial) SB.out SB.out.size (by (try simp only [List.length_nil]); omega) ?_
        intro v1 w105 ho hb hg hat
        rw [List.nil_append] at ho
        obtain ⟨Ax103, cx104, rfl⟩ := Kd.R_slice ho
        replace R_d8 := Aside0.mk (Kd.R_over R_d8.out R_k8.out (by decide) hg)
        replace R_k8 := Aside0.mk ho
        replace SB := Aside0.mk hb
        clear ho hb hg hat
        refine hK.out _ _ (MK.out _ SB.out) (fun hNew => ?_)
        clear hK K hNew
        have hHeld := MK.out _ SB.out
        refine nd_take 12 hHeld ?_
        clear hHeld
        exact ih _ _ _ _ (by decide) (.inr (.inr (.inr (.inr (.inr (.inr (.inr (.inr (.inr (.inr (.inr (.inl ⟨gy0, Ay5_, cy5_, gy6, Ax103, cx104, rfl, by kernel_rfl, by simp only [Act.put, List.getElem_toArray, List.getElem_cons_zero, List.getElem_cons_succ, List.setIfInBounds_toArray, List.set_cons_zero, List.set_cons_succ], SB, R_d8, R_k8⟩))))))))))))
      · go_simp
        obtain ⟨g107, hg107⟩ : ∃ n, n = W.heap.size := ⟨_, rfl⟩
        obtain ⟨w106, hw106⟩ : ∃ x, x = W.alloc (.cells #[.bool false, .slice none 0 0, .slice none 0 0, .slice none 0 0] 26) := ⟨_, rfl⟩
        have tn := heap_alloc_new W (.cells #[.bool false, .slice none 0 0, .slice none 0 0, .slice none 0 0] 26)
        have hB := below_alloc (Below.refl W.heap.size W) (.cells #[.bool false, .slice none 0 0, .slice none 0 0, .slice none 0 0] 26)
        rw [← hw106] at tn hB
        rw [← hg107] at tn
        have GSB_b8 : Aside0 (w65.heap.size ≤ g107) := ⟨by rw [hg107]; exact SB.out.size⟩
        replace R_d8 := rm hB R_d8; replace R_k8 := rm hB R_k8; replace SB := xm hB SB
        have T_b8 := Aside0.mk tn
        clear tn hB
        rw [← hw106]
        try rw [← hg107]
        clear hw106 hg107
        refine hK.out _ _ (MK.out _ SB.out) (fun hNew => ?_)
        clear hK K hNew
        exact ih _ _ _ _ (by decide) (.inr (.inr (.inr (.inr (.inr (.inr (.inr (.inr (.inr (.inr (.inr (.inr (.inl ⟨gy0, Ay5_, cy5_, gy6, g107, rfl, by kernel_rfl, by simp only [Act.put, List.getElem_toArray, List.getElem_cons_zero, List.getElem_cons_succ, List.setIfInBounds_toArray, List.set_cons_zero, List.set_cons_succ], SB, T_b8, GSB_b8, R_d8, R_k8⟩)))))))))))))
    · obtain ⟨gy0, Ay5_, cy5_, gy13, rfl, rfl, rfl, SB, T_b8, GSB_b8, R_d8⟩ := J
      simp only [Act.put, List.getElem_toArray, List.getElem_cons_zero, List.getElem_cons_succ, List.setIfInBounds_toArray, List.set_cons_zero, List.set_cons_succ]
      refine wpAnyH_ready (rs := [6]) (by kernel_rfl) (by simp) ?_
      refine (AllReadyH.cons rfl (fun K hK => ?_) AllReadyH.nil)
      go_simp
      obtain ⟨g109, hg109⟩ : ∃ n, n = W.heap.size := ⟨_, rfl⟩
      obtain ⟨w108, hw108⟩ : ∃ x, x = W.alloc (.cells #[] 9) := ⟨_, rfl⟩
      have tn := heap_alloc_new W (.cells #[] 9)
      have hB := below_alloc (Below.refl W.heap.size W) (.cells #[] 9)
      rw [← hw108] at tn hB
      rw [← hg109] at tn
      have GSB_row_ : Aside0 (w65.heap.size ≤ g109) := ⟨by rw [hg109]; exact SB.out.size⟩
      have NE_row__b8 : Aside0 (gy13 ≠ g109) := ⟨by have := blk_lt T_b8.out; omega⟩
      replace T_b8 := bm hB T_b8; replace R_d8 := rm hB R_d8; replace SB := xm hB SB
      have T_row_ := Aside0.mk tn
      clear tn hB
      rw [← hw108]
      try rw [← hg109]
      clear hw108 hg109
      have R_k8 := Aside0.mk (row_nil Kd.string (ok := fun _ => True) T_row_.out GSB_row_.out trivial)
      refine hK.out _ _ (MK.out _ SB.out) (fun hNew => ?_)
      clear hK K hNew
      exact ih _ _ _ _ (by decide) (.inr (.inr (.inr (.inr (.inr (.inr (.inr (.inr (.inr (.inr (.inr (.inr (.inl ⟨gy0, Ay5_, cy5_, g109, gy13, rfl, by kernel_rfl, by simp only [Act.put, List.getElem_toArray, List.getElem_cons_zero, List.getElem_cons_succ, List.setIfInBounds_toArray, List.set_cons_zero, List.set_cons_succ], SB, T_b8, GSB_b8, R_d8, R_k8⟩)))))))))))))
    · obtain ⟨gy0, gy6, gy13, rfl, rfl, rfl, SB, T_b8, GSB_b8, R_d8, R_k8⟩ := J
      simp only [Act.put, List.getElem_toArray, List.getElem_cons_zero, List.getElem_cons_succ, List.setIfInBounds_toArray, List.set_cons_zero, List.set_cons_succ]
      refine wpAnyH_ready (rs := [5]) (by kernel_rfl) (by simp) ?_
      refine (AllReadyH.cons rfl (fun K hK => ?_) AllReadyH.nil)
      refine Kd.R_append_rows_step (Kd.int .i64) (w0 := w65) w65.heap.size (by rfl) (.tmp 59) (.tmp 63) 24 3 (.int .i64 0) 8 rfl Try.underlying24 info3 rfl (by decide) (by decide) (.slice (some ⟨gy0, 0, none⟩) 0 0) ([] : List Int) D2 (if c3 = i then A3 else A3.map (·.add i)) (l3.length - i) (c3 - i) (fun _ => True) (fun _ => False) rfl rfl R_d8.out ((Kd.C_below CD2.out (BB.out.trans (SB.out.mono BB.out.size)))) (fun _ _ h => h) (fun _ h => h.elim) (fun _ _ => trivial) SB.out SB.out.size (by (try simp only [List.length_nil]); omega) ?_
      intro v1 w112 ho hb hg hat
      rw [List.nil_append] at ho
      obtain ⟨Ax110, cx111, rfl⟩ := Kd.R_slice ho
      replace T_b8 := Aside0.mk (blk_grown T_b8.out hg (Kd.R_ne R_d8.out T_b8.out (by decide)))
      replace R_k8 := Aside0.mk (Kd.R_over R_k8.out R_d8.out (by decide) hg)
      replace R_d8 := Aside0.mk ho
      replace SB := Aside0.mk hb
      clear ho hb hg hat
      refine hK.out _ _ (MK.out _ SB.out) (fun hNew => ?_)
      clear hK K hNew
      exact ih _ _ _ _ (by decide) (.inr (.inr (.inr (.inr (.inr (.inr (.inr (.inr (.inr (.inr (.inr (.inr (.inl ⟨gy0, Ax110, cx111, gy6, gy13, rfl, by kernel_rfl, by simp only [Act.put, List.getElem_toArray, List.getElem_cons_zero, List.getElem_cons_succ, List.setIfInBounds_toArray, List.set_cons_zero, List.set_cons_succ], SB, T_b8, GSB_b8, R_d8, R_k8⟩)))))))))))))
    · obtain ⟨gy0, Ay5_, cy5_, gy6, Ay11_, cy11_, rfl, rfl, rfl, SB, R_d8, R_k8⟩ := J
      simp only [Act.put, List.getElem_toArray, List.getElem_cons_zero, List.getElem_cons_succ, List.setIfInBounds_toArray, List.set_cons_zero, List.set_cons_succ]
      refine wpAnyH_ready (rs := [13]) (by kernel_rfl) (by simp) ?_
      refine (AllReadyH.cons rfl (fun K hK => ?_) AllReadyH.nil)
      go_simp
      obtain ⟨g114, hg114⟩ : ∃ n, n = W.heap.size := ⟨_, rfl⟩
      obtain ⟨w113, hw113⟩ : ∃ x, x = W.alloc (.cells #[.bool false, .slice none 0 0, .slice none 0 0, .slice none 0 0] 26) := ⟨_, rfl⟩
      have tn := heap_alloc_new W (.cells #[.bool false, .slice none 0 0, .slice none 0 0, .slice none 0 0] 26)
      have hB := below_alloc (Below.refl W.heap.size W) (.cells #[.bool false, .slice none 0 0, .slice none 0 0, .slice none 0 0] 26)
      rw [← hw113] at tn hB
      rw [← hg114] at tn
      have GSB_b8 : Aside0 (w65.heap.size ≤ g114) := ⟨by rw [hg114]; exact SB.out.size⟩
      replace R_d8 := rm hB R_d8; replace R_k8 := rm hB R_k8; replace SB := xm hB SB
      have T_b8 := Aside0.mk tn
      clear tn hB
      rw [← hw113]
      try rw [← hg114]
      clear hw113 hg114
      refine hK.out _ _ (MK.out _ SB.out) (fun hNew => ?_)
      clear hK K hNew
      exact ih _ _ _ _ (by decide) (.inr (.inr (.inr (.inr (.inr (.inr (.inr (.inr (.inr (.inr (.inr (.inr (.inr (⟨gy0, Ay5_, cy5_, gy6, Ay11_, cy11_, g114, rfl, by kernel_rfl, by simp only [Act.put, List.getElem_toArray, List.getElem_cons_zero, List.getElem_cons_succ, List.setIfInBounds_toArray, List.set_cons_zero, List.set_cons_succ], SB, T_b8, GSB_b8, R_d8, R_k8⟩))))))))))))))
    · obtain ⟨gy0, Ay5_, cy5_, gy6, gy13, rfl, rfl, rfl, SB, T_b8, GSB_b8, R_d8, R_k8⟩ := J
      simp only [Act.put, List.getElem_toArray, List.getElem_cons_zero, List.getElem_cons_succ, List.setIfInBounds_toArray, List.set_cons_zero, List.set_cons_succ]
      refine wpAnyH_ready (rs := [11]) (by kernel_rfl) (by simp) ?_
      refine (AllReadyH.cons rfl (fun K hK => ?_) AllReadyH.nil)
      refine Kd.R_append_rows_step Kd.string (w0 := w65) w65.heap.size (by rfl) (.tmp 65) (.tmp 69) 23 9 (.string ⟨#[]⟩) 16 rfl Try.underlying23 info9 rfl (by decide) (by decide) (.slice (some ⟨gy6, 0, none⟩) 0 0) ([] : List ByteArray) K2 (if c2 = i then A2 else A2.map (·.add i)) (l2.length - i) (c2 - i) (fun _ => True) (fun _ => False) rfl rfl R_k8.out ((Kd.C_below CK2.out (BB.out.trans (SB.out.mono BB.out.size)))) (fun _ _ h => h) (fun _ h => h.elim) (fun _ _ => trivial) SB.out SB.out.size (by (try simp only [List.length_nil]); omega) ?_
      intro v1 w117 ho hb hg hat
      rw [List.nil_append] at ho
      obtain ⟨Ax115, cx116, rfl⟩ := Kd.R_slice ho
      replace T_b8 := Aside0.mk (blk_grown T_b8.out hg (Kd.R_ne R_k8.out T_b8.out (by decide)))
      replace R_d8 := Aside0.mk (Kd.R_over R_d8.out R_k8.out (by decide) hg)
      replace R_k8 := Aside0.mk ho
      replace SB := Aside0.mk hb
      clear ho hb hg hat
      refine hK.out _ _ (MK.out _ SB.out) (fun hNew => ?_)
      clear hK K hNew
      have hHeld := MK.out _ SB.out
      refine nd_take 12 hHeld ?_
      clear hHeld
      exact ih _ _ _ _ (by decide) (.inr (.inr (.inr (.inr (.inr (.inr (.inr (.inr (.inr (.inr (.inr (.inr (.inr (⟨gy0, Ay5_, cy5_, gy6, Ax115, cx116, gy13, rfl, by kernel_rfl, by simp only [Act.put, List.getElem_toArray, List.getElem_cons_zero, List.getElem_cons_succ, List.setIfInBounds_toArray, List.set_cons_zero, List.set_cons_succ], SB, T_b8, GSB_b8, R_d8, R_k8⟩))))))))))))))
    · obtain ⟨gy0, Ay5_, cy5_, gy6, Ay11_, cy11_, gy13, rfl, rfl, rfl, SB, T_b8, GSB_b8, R_d8, R_k8⟩ := J
      simp only [Act.put, List.getElem_toArray, List.getElem_cons_zero, List.getElem_cons_succ, List.setIfInBounds_toArray, List.set_cons_zero, List.set_cons_succ]
      clear ih
      have GBB_b8 : Aside0 (w.heap.size ≤ gy13) := ⟨Nat.le_trans BB.out.size GSB_b8.out⟩
      have NE_b8_n : Aside0 (w.heap.size ≠ gy13) := ⟨by have := blk_lt T_n.out; have := GSB_b8.out; omega⟩
      have NE_b8_r : Aside0 ((w.heap.size + 1) ≠ gy13) := ⟨by have := blk_lt T_r.out; have := GSB_b8.out; omega⟩
      have NE_b8_q : Aside0 ((w.heap.size + 2) ≠ gy13) := ⟨by have := blk_lt T_q.out; have := GSB_b8.out; omega⟩
      have NE_b8_b7 : Aside0 (gx14 ≠ gy13) := ⟨by have := blk_lt T_b7.out; have := GSB_b8.out; omega⟩
      replace R_d8 := Aside0.mk (Kd.R_lower R_d8.out BB.out.size)
      replace R_k8 := Aside0.mk (Kd.R_lower R_k8.out BB.out.size)
      replace T_n := bm SB.out T_n; replace T_r := bm SB.out T_r; replace T_q := bm SB.out T_q; replace T_b7 := bm SB.out T_b7; replace R_d7 := rm SB.out R_d7; replace R_k7 := rm SB.out R_k7; replace BB := xm SB.out BB
      have hHeld := MK.out _ SB.out
      refine wpAnyH_ready (rs := [14]) (by kernel_rfl) (by simp) ?_
      refine (AllReadyH.cons rfl (fun K hK => ?_) AllReadyH.nil)
      have c_b80 := bc T_b8 0 rfl; have f_b80 := bf T_b8 0; have c_b81 := bc T_b8 1 rfl; have f_b81 := bf T_b8 1; have c_b82 := bc T_b8 2 rfl; have f_b82 := bf T_b8 2; have c_b83 := bc T_b8 3 rfl; have f_b83 := bf T_b8 3
      go_simp
      clear c_b80 f_b80 c_b81 f_b81 c_b82 f_b82 c_b83 f_b83
      have hg := nd_grown4 W (gy13) (.bool false) (.slice none 0 0) (.slice Ay11_ (K2).length cy11_) (.slice Ay5_ (D2).length cy5_)
      have tn := nd_put4 W (gy13) 26 _ _ _ _ (.bool false) (.slice none 0 0) (.slice Ay11_ (K2).length cy11_) (.slice Ay5_ (D2).length cy5_) T_b8.out
      obtain ⟨w118, hw118⟩ : ∃ x, x = ((((W.setCell ⟨gy13, 0, none⟩ (.bool false)).setCell ⟨gy13, 1, none⟩ (.slice none 0 0)).setCell ⟨gy13, 2, none⟩ (.slice Ay11_ (K2).length cy11_)).setCell ⟨gy13, 3, none⟩ (.slice Ay5_ (D2).length cy5_)) := ⟨_, rfl⟩
      rw [← hw118] at hg tn
      rw [← hw118]
      clear hw118
      replace R_d7 := rg hg T_b8 R_d7 (by decide)
      replace R_k7 := rg hg T_b8 R_k7 (by decide)
      replace R_d8 := rg hg T_b8 R_d8 (by decide)
      replace R_k8 := rg hg T_b8 R_k8 (by decide)
      replace T_n := bg hg T_n NE_b8_n.out
      replace T_r := bg hg T_r NE_b8_r.out
      replace T_q := bg hg T_q NE_b8_q.out
      replace T_b7 := bg hg T_b7 NE_b8_b7.out
      replace BB := Aside0.mk (nd_grown_below hg BB.out BB.out.size GBB_b8.out)
      replace SB := Aside0.mk (nd_grown_below hg SB.out SB.out.size GSB_b8.out)
      replace T_b8 := Aside0.mk tn
      clear tn hg
      refine hK.out _ _ (MK.out _ SB.out) (fun hNew => ?_)
      clear hK K hHeld hNew
      refine wpAnyH_done (by kernel_rfl) ?_ _
      clear MK SB
      obtain ⟨ad, hA, hEA⟩ := EL.out
      clear EL
      have EA := Aside0.mk hEA
      clear hEA
      subst hA
      have hj5 : j < l2.length := by omega
      have c_n0 := bc T_n 0 rfl; have c_n1 := bc T_n 1 rfl; have c_n2 := bc T_n 2 rfl; have c_n3 := bc T_n 3 rfl
      have c_b70 := bc T_b7 0 rfl; have c_b71 := bc T_b7 1 rfl; have c_b72 := bc T_b7 2 rfl; have c_b73 := bc T_b7 3 rfl
      have c_b80 := bc T_b8 0 rfl; have c_b81 := bc T_b8 1 rfl; have c_b82 := bc T_b8 2 rfl; have c_b83 := bc T_b8 3 rfl
      go_upto_region 9 with fail
      clear c_n0 c_n1 c_n2 c_n3 c_b70 c_b71 c_b72 c_b73 c_b80 c_b81 c_b82 c_b83
      have hB : Below w118.heap.size w118 w118.drew := below_drew1 (Below.refl _ _)
      refine wp_region_held_drew (S := fun W => Below w.heap.size w W ∧ W.cell? ⟨w.heap.size, 0, none⟩ = some (.bool false) ∧ W.cell? ⟨w.heap.size, 1, none⟩ = some (.slice A1 l1.length c1) ∧ W.cell? ⟨w.heap.size, 2, none⟩ = some (.slice (some ad) l2.length c2) ∧ W.cell? ⟨w.heap.size, 3, none⟩ = some (.slice A3 l3.length c3) ∧ W.cell? ⟨gx14, 0, none⟩ = some (.bool false) ∧ W.cell? ⟨gx14, 1, none⟩ = some (.slice none 0 0) ∧ W.cell? ⟨gx14, 2, none⟩ = some (.slice Ax12_ (K1).length cx12_) ∧ W.cell? ⟨gx14, 3, none⟩ = some (.slice Ax5_ (D1).length cx5_) ∧ W.cell? ⟨gy13, 0, none⟩ = some (.bool false) ∧ W.cell? ⟨gy13, 1, none⟩ = some (.slice none 0 0) ∧ W.cell? ⟨gy13, 2, none⟩ = some (.slice Ay11_ (K2).length cy11_) ∧ W.cell? ⟨gy13, 3, none⟩ = some (.slice Ay5_ (D2).length cy5_) ∧ W.cell? (ad.add j) = some (.string kx)) (by kernel_rfl) ?_ (fun hHeld => ?_)
      · try dsimp only
        have BB' := BB.out.trans (hB.mono BB.out.size)
        exact ⟨BB', nd_cell hB (blk_cell T_n.out 0), nd_cell hB (blk_cell T_n.out 1), nd_cell hB (blk_cell T_n.out 2), nd_cell hB (blk_cell T_n.out 3), nd_cell hB (blk_cell T_b7.out 0), nd_cell hB (blk_cell T_b7.out 1), nd_cell hB (blk_cell T_b7.out 2), nd_cell hB (blk_cell T_b7.out 3), nd_cell hB (blk_cell T_b8.out 0), nd_cell hB (blk_cell T_b8.out 1), nd_cell hB (blk_cell T_b8.out 2), nd_cell hB (blk_cell T_b8.out 3), EA.out _ BB'⟩
      clear hHeld
      obtain ⟨w119, hw119⟩ : ∃ x, x = w118.drew := ⟨_, rfl⟩
      rw [← hw119] at hB ⊢
      clear hw119
      replace T_n := bm hB T_n; replace T_r := bm hB T_r; replace T_q := bm hB T_q; replace T_b7 := bm hB T_b7; replace T_b8 := bm hB T_b8; replace R_d7 := rm hB R_d7; replace R_k7 := rm hB R_k7; replace R_d8 := rm hB R_d8; replace R_k8 := rm hB R_k8; replace BB := xm hB BB
      clear hB
      have hHeld : (fun W => Below w.heap.size w W ∧ W.cell? ⟨w.heap.size, 0, none⟩ = some (.bool false) ∧ W.cell? ⟨w.heap.size, 1, none⟩ = some (.slice A1 l1.length c1) ∧ W.cell? ⟨w.heap.size, 2, none⟩ = some (.slice (some ad) l2.length c2) ∧ W.cell? ⟨w.heap.size, 3, none⟩ = some (.slice A3 l3.length c3) ∧ W.cell? ⟨gx14, 0, none⟩ = some (.bool false) ∧ W.cell? ⟨gx14, 1, none⟩ = some (.slice none 0 0) ∧ W.cell? ⟨gx14, 2, none⟩ = some (.slice Ax12_ (K1).length cx12_) ∧ W.cell? ⟨gx14, 3, none⟩ = some (.slice Ax5_ (D1).length cx5_) ∧ W.cell? ⟨gy13, 0, none⟩ = some (.bool false) ∧ W.cell? ⟨gy13, 1, none⟩ = some (.slice none 0 0) ∧ W.cell? ⟨gy13, 2, none⟩ = some (.slice Ay11_ (K2).length cy11_) ∧ W.cell? ⟨gy13, 3, none⟩ = some (.slice Ay5_ (D2).length cy5_) ∧ W.cell? (ad.add j) = some (.string kx)) w119 := ⟨BB.out, blk_cell T_n.out 0, blk_cell T_n.out 1, blk_cell T_n.out 2, blk_cell T_n.out 3, blk_cell T_b7.out 0, blk_cell T_b7.out 1, blk_cell T_b7.out 2, blk_cell T_b7.out 3, blk_cell T_b8.out 0, blk_cell T_b8.out 1, blk_cell T_b8.out 2, blk_cell T_b8.out 3, EA.out _ BB.out⟩
      refine nd_take 0 hHeld ?_
      refine nd_take 1 hHeld ?_
      refine nd_take 2 hHeld ?_
      refine nd_take 3 hHeld ?_
      refine nd_take 4 hHeld ?_
      refine nd_take 5 hHeld ?_
      refine nd_take 6 hHeld ?_
      refine nd_take 7 hHeld ?_
      refine wpAnyH_ready (rs := [8]) (by kernel_rfl) (by simp) ?_
      refine (AllReadyH.cons rfl (fun K hK => ?_) AllReadyH.nil)
      have c_r0 := bc T_r 0 rfl; have f_r0 := bf T_r 0; have c_r1 := bc T_r 1 rfl; have f_r1 := bf T_r 1; have c_r2 := bc T_r 2 rfl; have f_r2 := bf T_r 2; have c_r3 := bc T_r 3 rfl; have f_r3 := bf T_r 3
      go_simp
      clear c_r0 f_r0 c_r1 f_r1 c_r2 f_r2 c_r3 f_r3
      have hg := nd_grown4 w119 ((w.heap.size + 1)) (.bool false) (.slice none 0 0) (.slice Ax12_ (K1).length cx12_) (.slice Ax5_ (D1).length cx5_)
      have tn := nd_put4 w119 ((w.heap.size + 1)) 26 _ _ _ _ (.bool false) (.slice none 0 0) (.slice Ax12_ (K1).length cx12_) (.slice Ax5_ (D1).length cx5_) T_r.out
      obtain ⟨w120, hw120⟩ : ∃ x, x = ((((w119.setCell ⟨(w.heap.size + 1), 0, none⟩ (.bool false)).setCell ⟨(w.heap.size + 1), 1, none⟩ (.slice none 0 0)).setCell ⟨(w.heap.size + 1), 2, none⟩ (.slice Ax12_ (K1).length cx12_)).setCell ⟨(w.heap.size + 1), 3, none⟩ (.slice Ax5_ (D1).length cx5_)) := ⟨_, rfl⟩
      rw [← hw120] at hg tn
      rw [← hw120]
      clear hw120
      replace R_d7 := rg hg T_r R_d7 (by decide)
      replace R_k7 := rg hg T_r R_k7 (by decide)
      replace R_d8 := rg hg T_r R_d8 (by decide)
      replace R_k8 := rg hg T_r R_k8 (by decide)
      replace T_n := bg hg T_n (by omega)
      replace T_q := bg hg T_q (by omega)
      replace T_b7 := bg hg T_b7 (fun e => NE_b7_r.out e.symm)
      replace T_b8 := bg hg T_b8 (fun e => NE_b8_r.out e.symm)
      replace BB := Aside0.mk (nd_grown_below hg BB.out BB.out.size (by omega))
      replace T_r := Aside0.mk tn
      clear tn hg
      refine hK.out _ _ ?_ (fun hNew => ?_)
      · try dsimp only
        exact ⟨BB.out, blk_cell T_n.out 0, blk_cell T_n.out 1, blk_cell T_n.out 2, blk_cell T_n.out 3, blk_cell T_b7.out 0, blk_cell T_b7.out 1, blk_cell T_b7.out 2, blk_cell T_b7.out 3, blk_cell T_b8.out 0, blk_cell T_b8.out 1, blk_cell T_b8.out 2, blk_cell T_b8.out 3, EA.out _ BB.out⟩
      clear hK K hHeld hNew
      have hHeld : (fun W => Below w.heap.size w W ∧ W.cell? ⟨w.heap.size, 0, none⟩ = some (.bool false) ∧ W.cell? ⟨w.heap.size, 1, none⟩ = some (.slice A1 l1.length c1) ∧ W.cell? ⟨w.heap.size, 2, none⟩ = some (.slice (some ad) l2.length c2) ∧ W.cell? ⟨w.heap.size, 3, none⟩ = some (.slice A3 l3.length c3) ∧ W.cell? ⟨gx14, 0, none⟩ = some (.bool false) ∧ W.cell? ⟨gx14, 1, none⟩ = some (.slice none 0 0) ∧ W.cell? ⟨gx14, 2, none⟩ = some (.slice Ax12_ (K1).length cx12_) ∧ W.cell? ⟨gx14, 3, none⟩ = some (.slice Ax5_ (D1).length cx5_) ∧ W.cell? ⟨gy13, 0, none⟩ = some (.bool false) ∧ W.cell? ⟨gy13, 1, none⟩ = some (.slice none 0 0) ∧ W.cell? ⟨gy13, 2, none⟩ = some (.slice Ay11_ (K2).length cy11_) ∧ W.cell? ⟨gy13, 3, none⟩ = some (.slice Ay5_ (D2).length cy5_) ∧ W.cell? (ad.add j) = some (.string kx)) w120 := ⟨BB.out, blk_cell T_n.out 0, blk_cell T_n.out 1, blk_cell T_n.out 2, blk_cell T_n.out 3, blk_cell T_b7.out 0, blk_cell T_b7.out 1, blk_cell T_b7.out 2, blk_cell T_b7.out 3, blk_cell T_b8.out 0, blk_cell T_b8.out 1, blk_cell T_b8.out 2, blk_cell T_b8.out 3, EA.out _ BB.out⟩
      refine nd_take 9 hHeld ?_
      refine wpAnyH_ready (rs := [10]) (by kernel_rfl) (by simp) ?_
      refine (AllReadyH.cons rfl (fun K hK => ?_) AllReadyH.nil)
      have c_q0 := bc T_q 0 rfl; have f_q0 := bf T_q 0; have c_q1 := bc T_q 1 rfl; have f_q1 := bf T_q 1; have c_q2 := bc T_q 2 rfl; have f_q2 := bf T_q 2; have c_q3 := bc T_q 3 rfl; have f_q3 := bf T_q 3
      go_simp
      clear c_q0 f_q0 c_q1 f_q1 c_q2 f_q2 c_q3 f_q3
      have hg := nd_grown4 w120 ((w.heap.size + 2)) (.bool false) (.slice none 0 0) (.slice Ay11_ (K2).length cy11_) (.slice Ay5_ (D2).length cy5_)
      have tn := nd_put4 w120 ((w.heap.size + 2)) 26 _ _ _ _ (.bool false) (.slice none 0 0) (.slice Ay11_ (K2).length cy11_) (.slice Ay5_ (D2).length cy5_) T_q.out
      obtain ⟨w121, hw121⟩ : ∃ x, x = ((((w120.setCell ⟨(w.heap.size + 2), 0, none⟩ (.bool false)).setCell ⟨(w.heap.size + 2), 1, none⟩ (.slice none 0 0)).setCell ⟨(w.heap.size + 2), 2, none⟩ (.slice Ay11_ (K2).length cy11_)).setCell ⟨(w.heap.size + 2), 3, none⟩ (.slice Ay5_ (D2).length cy5_)) := ⟨_, rfl⟩
      rw [← hw121] at hg tn
      rw [← hw121]
      clear hw121
      replace R_d7 := rg hg T_q R_d7 (by decide)
      replace R_k7 := rg hg T_q R_k7 (by decide)
      replace R_d8 := rg hg T_q R_d8 (by decide)
      replace R_k8 := rg hg T_q R_k8 (by decide)
      replace T_n := bg hg T_n (by omega)
      replace T_r := bg hg T_r (by omega)
      replace T_b7 := bg hg T_b7 (fun e => NE_b7_q.out e.symm)
      replace T_b8 := bg hg T_b8 (fun e => NE_b8_q.out e.symm)
      replace BB := Aside0.mk (nd_grown_below hg BB.out BB.out.size (by omega))
      replace T_q := Aside0.mk tn
      clear tn hg
      refine hK.out _ _ ?_ (fun hNew => ?_)
      · try dsimp only
        exact ⟨BB.out, blk_cell T_n.out 0, blk_cell T_n.out 1, blk_cell T_n.out 2, blk_cell T_n.out 3, blk_cell T_b7.out 0, blk_cell T_b7.out 1, blk_cell T_b7.out 2, blk_cell T_b7.out 3, blk_cell T_b8.out 0, blk_cell T_b8.out 1, blk_cell T_b8.out 2, blk_cell T_b8.out 3, EA.out _ BB.out⟩
      clear hK K hHeld hNew
      have hHeld : (fun W => Below w.heap.size w W ∧ W.cell? ⟨w.heap.size, 0, none⟩ = some (.bool false) ∧ W.cell? ⟨w.heap.size, 1, none⟩ = some (.slice A1 l1.length c1) ∧ W.cell? ⟨w.heap.size, 2, none⟩ = some (.slice (some ad) l2.length c2) ∧ W.cell? ⟨w.heap.size, 3, none⟩ = some (.slice A3 l3.length c3) ∧ W.cell? ⟨gx14, 0, none⟩ = some (.bool false) ∧ W.cell? ⟨gx14, 1, none⟩ = some (.slice none 0 0) ∧ W.cell? ⟨gx14, 2, none⟩ = some (.slice Ax12_ (K1).length cx12_) ∧ W.cell? ⟨gx14, 3, none⟩ = some (.slice Ax5_ (D1).length cx5_) ∧ W.cell? ⟨gy13, 0, none⟩ = some (.bool false) ∧ W.cell? ⟨gy13, 1, none⟩ = some (.slice none 0 0) ∧ W.cell? ⟨gy13, 2, none⟩ = some (.slice Ay11_ (K2).length cy11_) ∧ W.cell? ⟨gy13, 3, none⟩ = some (.slice Ay5_ (D2).length cy5_) ∧ W.cell? (ad.add j) = some (.string kx)) w121 := ⟨BB.out, blk_cell T_n.out 0, blk_cell T_n.out 1, blk_cell T_n.out 2, blk_cell T_n.out 3, blk_cell T_b7.out 0, blk_cell T_b7.out 1, blk_cell T_b7.out 2, blk_cell T_b7.out 3, blk_cell T_b8.out 0, blk_cell T_b8.out 1, blk_cell T_b8.out 2, blk_cell T_b8.out 3, EA.out _ BB.out⟩
      refine nd_take 11 hHeld ?_
      refine wpAnyH_done (by kernel_rfl) ?_ _
      clear hHeld
      go_wp2_with fail
      refine bodyPost_ret (results_ctct rfl _ _ (w.heap.size + 1) (w.heap.size + 2) 26 26 #[.bool false, .slice none 0 0, .slice Ax12_ (K1).length cx12_, .slice Ax5_ (D1).length cx5_] #[.bool false, .slice none 0 0, .slice Ay11_ (K2).length cy11_, .slice Ay5_ (D2).length cy5_] (0, 0) (0, 0) _ _ rfl T_r.out Try.underlying26 rfl (by kernel_rfl) rfl T_q.out Try.underlying26 rfl (by kernel_rfl)) rfl ?_
      exact ⟨_, _, _, _, _, _, rfl, Kd.R_nil _ _ _ _ _, R_k7.out, R_d7.out, Kd.R_nil _ _ _ _ _, R_k8.out, R_d8.out, BB.out⟩
set_option maxHeartbeats 4000000 in
set_option maxRecDepth 100000 in
theorem dsplit_leaf (A1 : Option Addr) (c1 : Nat) (l1 : List S48) (A2 : Option Addr) (c2 : Nat) (l2 : List ByteArray) (A3 : Option Addr) (c3 : Nat) (l3 : List Int) (w : World) (hr1 : Kd.C k48 w A1 l1.length l1) (hc1 : l1.length ≤ c1) (hr2 : Kd.C Kd.string w A2 l2.length l2) (hc2 : l2.length ≤ c2) (hr3 : Kd.C (Kd.int .i64) w A3 l3.length l3) (hc3 : l3.length ≤ c3) (hf : (leafV true l1 l2 l3 || innerV true l1 l2 l3) = true) (h4 : 2 ≤ l1.length) :
    Calls Try.prog 17 #[.agg #[.bool true, .slice A1 l1.length c1, .slice A2 l2.length c2, .slice A3 l3.length c3]] w fun e w' => ∃ v1_ v2_ v3_ u1_ u2_ u3_ : Value, e = .returned (.tuple #[.agg #[.bool true, v1_, v2_, v3_], .string (l1.getD (cutP l1) ⟨⟨#[]⟩, ⟨#[]⟩⟩).f0, .agg #[.bool true, u1_, u2_, u3_], .int .i64 0]) ∧ Kd.R k48 48 w' w.heap.size (fun _ => True) v1_ (l1.take (cutP l1)) ∧ Kd.R Kd.string 9 w' w.heap.size (fun _ => True) v2_ ([] : List ByteArray) ∧ Kd.R (Kd.int .i64) 3 w' w.heap.size (fun _ => True) v3_ ([] : List Int) ∧ Kd.R k48 48 w' w.heap.size (fun _ => True) u1_ (l1.drop (cutP l1)) ∧ Kd.R Kd.string 9 w' w.heap.size (fun _ => True) u2_ ([] : List ByteArray) ∧ Kd.R (Kd.int .i64) 3 w' w.heap.size (fun _ => True) u3_ ([] : List Int) ∧ Below w.heap.size w w' := by
  have CK := Aside0.mk (fun W hw => cisternref11_Right.calls true A1 c1 l1 A2 c2 l2 A3 c3 l3 true W (Kd.C_below hr1 hw) hc1 (Kd.C_below hr2 hw) hc2 (Kd.C_below hr3 hw) hc3 (by rw [right_val, hf]))
  have HR1 := Aside0.mk hr1
  have HR2 := Aside0.mk hr2
  have HR3 := Aside0.mk hr3
  clear hr1 hr2 hr3
  have d2 : decide ((l1.length : Int) < 2) = false := decide_eq_false (by omega)
  have hin := leafV_true (by simpa [innerV] using hf : leafV true l1 l2 l3 = true)
  have hl255 := hin.2.2.2.1
  have WB : Aside0 (weightN l1 ≤ 20910) := ⟨by have := weight_le l1 hin.2.2.2.2.1; omega⟩
  have SZ : Aside0 (∀ i, i < l1.length → (∀ W, Below w.heap.size w W → Calls Try.prog 27 #[.agg #[.bool true, .slice A1 i c1, .slice none 0 0, .slice none 0 0]] W fun e W' => e = .returned (.int .i64 (sizeN true (l1.take i) [] [] : Nat)) ∧ Below W.heap.size W W') ∧ (∀ W, Below w.heap.size w W → Calls Try.prog 27 #[.agg #[.bool true, .slice (A1.map (·.add (i * 2))) (l1.length - i) (c1 - i), .slice none 0 0, .slice none 0 0]] W fun e W' => e = .returned (.int .i64 (sizeN true (l1.drop i) [] [] : Nat)) ∧ Below W.heap.size W W')) := ⟨fun i hi => ⟨fun W hw => by
    have hL : (l1.take i).length = i := by rw [List.length_take]; omega
    have hC := Kd.C_take (m := i) (Kd.C_below HR1.out hw) (by omega)
    have hs : sizeN true (l1.take i) [] [] ≤ 20912 := by have := wN_take l1 i; have := WB.out; show 2 + weightN _ ≤ _; omega
    have := cisternref11_Size.calls 1000 true A1 c1 (l1.take i) none 0 [] none 0 [] (sizeN true (l1.take i) [] [] : Nat) W hC (by rw [hL]; omega) (Kd.C_nil _ _) (Nat.le_refl _) (Kd.C_nil _ _) (Nat.le_refl _) (by rw [dsize_val true (l1.take i) [] [] (by rw [hL]; omega) (by decide) 1000 (by rw [hL]; omega) (by decide), wrap_small hs])
    rw [hL] at this
    exact this, fun W hw => by
    have hL : (l1.drop i).length = l1.length - i := List.length_drop
    have hC := Kd.C_drop (m := i) (Kd.C_below HR1.out hw) (by omega) hc1
    rw [if_neg (show ¬ c1 = i by omega)] at hC
    have hs : sizeN true (l1.drop i) [] [] ≤ 20912 := by have e3 := wN_app (l1.take i) (l1.drop i); rw [List.take_append_drop] at e3; have := WB.out; show 2 + weightN _ ≤ _; omega
    have := cisternref11_Size.calls 1000 true _ (c1 - i) (l1.drop i) none 0 [] none 0 [] (sizeN true (l1.drop i) [] [] : Nat) W hC (by rw [hL]; omega) (Kd.C_nil _ _) (Nat.le_refl _) (Kd.C_nil _ _) (Nat.le_refl _) (by rw [dsize_val true (l1.drop i) [] [] (by rw [hL]; omega) (by decide) 1000 (by rw [hL]; omega) (by decide), wrap_small hs])
    rw [hL] at this
    exact this⟩⟩
  have HCT0 : cutN l1 (l1.length - 1) 1 = cutP l1 := by
    unfold cutP
    rw [show l1.length = (l1.length - 1) + 1 by omega, cutN, if_pos ⟨by omega, .inl rfl⟩]
    rw [show l1.length - 1 + 1 - 1 = l1.length - 1 by omega]
  obtain ⟨ct, hct⟩ : ∃ x, cutP l1 = x := ⟨_, rfl⟩
  rw [hct] at HCT0 ⊢
  have HCT := Aside0.mk HCT0
  have hct2 : ct < l1.length := by rw [← hct]; exact cutP_lt l1 (by omega)
  clear hct HCT0
  obtain ⟨P1, hP1⟩ : ∃ x, l1.take ct = x := ⟨_, rfl⟩
  obtain ⟨P2, hP2⟩ : ∃ x, l1.drop ct = x := ⟨_, rfl⟩
  have EP2 : Aside0 (l1.getD ct ⟨⟨#[]⟩, ⟨#[]⟩⟩ = P2.getD 0 ⟨⟨#[]⟩, ⟨#[]⟩⟩) := ⟨by rw [← hP2]; simp⟩
  obtain ⟨kx, hkx⟩ : ∃ x, (P2.getD 0 ⟨⟨#[]⟩, ⟨#[]⟩⟩).f0 = x := ⟨_, rfl⟩
  rw [hP1, hP2, EP2.out, hkx]
  have EK := Aside0.mk hkx
  clear hkx
  have LP1 : Aside0 (P1.length = ct) := ⟨by rw [← hP1, List.length_take]; omega⟩
  have LP2 : Aside0 (P2.length = l1.length - ct) := ⟨by rw [← hP2, List.length_drop]⟩
  have CP1 : Aside0 (Kd.C k48 w A1 ct P1) := ⟨by have := Kd.C_take (m := ct) HR1.out (by omega); rw [hP1, LP1.out] at this; exact this⟩
  have CP2 : Aside0 (Kd.C k48 w (A1.map (·.add (ct * 2))) P2.length P2) := ⟨by rw [← hP2]; have := Kd.C_drop (m := ct) HR1.out (by omega) hc1; rwa [if_neg (show ¬ c1 = ct by omega)] at this⟩
  clear hP1 hP2 EP2 hf hin
  rw [LP2.out] at CP2
  have HLX := Aside0.mk hl255

  have BB0 := Below.refl w.heap.size w
  obtain ⟨wp0, hwp0⟩ : ∃ x, x = w.alloc (.cells #[.bool true, .slice A1 l1.length c1, .slice A2 l2.length c2, .slice A3 l3.length c3] 26) := ⟨_, rfl⟩
  have t_n := heap_alloc_new w (.cells #[.bool true, .slice A1 l1.length c1, .slice A2 l2.length c2, .slice A3 l3.length c3] 26)
  rw [← hwp0] at t_n
  have BB1 : Below w.heap.size w wp0 := by rw [hwp0]; exact below_alloc BB0 _
  have sz0 : wp0.heap.size = w.heap.size + 1 := by rw [hwp0]; simp
  obtain ⟨wp1, hwp1⟩ : ∃ x, x = wp0.alloc (.cells #[.bool false, .slice none 0 0, .slice none 0 0, .slice none 0 0] 26) := ⟨_, rfl⟩
  have t_r := heap_alloc_new wp0 (.cells #[.bool false, .slice none 0 0, .slice none 0 0, .slice none 0 0] 26)
  rw [← hwp1] at t_r
  rw [sz0] at t_r
  have BB2 : Below w.heap.size w wp1 := by rw [hwp1]; exact below_alloc BB1 _
  have sz1 : wp1.heap.size = w.heap.size + 2 := by rw [hwp1]; simp [sz0]
  replace t_n := (show wp1.heap[_]? = wp0.heap[_]? by rw [hwp1]; exact Lib.alloc_old wp0 (.cells #[.bool false, .slice none 0 0, .slice none 0 0, .slice none 0 0] 26) _ (blk_lt t_n)).trans t_n
  obtain ⟨wp2, hwp2⟩ : ∃ x, x = wp1.alloc (.cells #[.bool false, .slice none 0 0, .slice none 0 0, .slice none 0 0] 26) := ⟨_, rfl⟩
  have t_q := heap_alloc_new wp1 (.cells #[.bool false, .slice none 0 0, .slice none 0 0, .slice none 0 0] 26)
  rw [← hwp2] at t_q
  rw [sz1] at t_q
  have BB3 : Below w.heap.size w wp2 := by rw [hwp2]; exact below_alloc BB2 _
  have sz2 : wp2.heap.size = w.heap.size + 3 := by rw [hwp2]; simp [sz1]
  replace t_n := (show wp2.heap[_]? = wp1.heap[_]? by rw [hwp2]; exact Lib.alloc_old wp1 (.cells #[.bool false, .slice none 0 0, .slice none 0 0, .slice none 0 0] 26) _ (blk_lt t_n)).trans t_n
  replace t_r := (show wp2.heap[_]? = wp1.heap[_]? by rw [hwp2]; exact Lib.alloc_old wp1 (.cells #[.bool false, .slice none 0 0, .slice none 0 0, .slice none 0 0] 26) _ (blk_lt t_r)).trans t_r
  have HW0 : Aside0 (wp2 = (((w.alloc (.cells #[.bool true, .slice A1 l1.length c1, .slice A2 l2.length c2, .slice A3 l3.length c3] 26)).alloc (.cells #[.bool false, .slice none 0 0, .slice none 0 0, .slice none 0 0] 26)).alloc (.cells #[.bool false, .slice none 0 0, .slice none 0 0, .slice none 0 0] 26))) := ⟨by rw [hwp2, hwp1, hwp0]⟩
  have T_n := Aside0.mk t_n
  have T_r := Aside0.mk t_r
  have T_q := Aside0.mk t_q
  have BB := Aside0.mk BB3
  have SZ0 := Aside0.mk sz2
  clear t_n t_r t_q BB0 BB1 BB2 BB3 sz0 sz1 sz2 hwp0 hwp1 hwp2
  go_enter Try.func17, Try.ntmps17
  have c_n0 := bc T_n 0 rfl; have c_n1 := bc T_n 1 rfl; have c_n2 := bc T_n 2 rfl; have c_n3 := bc T_n 3 rfl
  go_wp2_with fail
  rw [← HW0.out]
  refine (CK.out _ BB.out).mono ?_
  rintro e w122 ⟨rfl, hB⟩
  replace T_n := bm hB T_n; replace T_r := bm hB T_r; replace T_q := bm hB T_q; replace BB := xm hB BB
  clear hB
  clear c_n0 c_n1 c_n2 c_n3
  have c_n0 := bc T_n 0 rfl; have c_n1 := bc T_n 1 rfl; have c_n2 := bc T_n 2 rfl; have c_n3 := bc T_n 3 rfl
  go_wp2_with fail
  clear c_n0 c_n1 c_n2 c_n3
  go_loopw [9] (fun v9 W => ∃ i : Nat, 1 ≤ i ∧ i < l1.length ∧ v9 = .int .i64 (i : Int) ∧ Aside0 (cutN l1 (l1.length - i) i = ct) ∧ Aside0 (W.heap[w.heap.size]? = some (.cells #[.bool true, .slice A1 l1.length c1, .slice A2 l2.length c2, .slice A3 l3.length c3] 26 (0, 0))) ∧ Aside0 (W.heap[(w.heap.size + 1)]? = some (.cells #[.bool false, .slice none 0 0, .slice none 0 0, .slice none 0 0] 26 (0, 0))) ∧ Aside0 (W.heap[(w.heap.size + 2)]? = some (.cells #[.bool false, .slice none 0 0, .slice none 0 0, .slice none 0 0] 26 (0, 0))) ∧ Aside0 (Below w.heap.size w W)) (fun v9 _ => (l1.length - intOf v9).toNat)
  case atStart => exact ⟨1, Nat.le_refl _, by omega, rfl, HCT, T_n, T_r, T_q, BB⟩
  case round =>
    clear HCT BB T_n T_r T_q
    obtain ⟨i, hi1, hi, rfl, HD, T_n, T_r, T_q, BB⟩ := hrel
    have SZi := Aside0.mk (SZ.out i hi)
    obtain ⟨n1, hn1⟩ : ∃ x, sizeN true (l1.take i) [] [] = x := ⟨_, rfl⟩
    obtain ⟨n2, hn2⟩ : ∃ x, sizeN true (l1.drop i) [] [] = x := ⟨_, rfl⟩
    rw [hn1, hn2] at SZi
    have HNN : Aside0 (n1 < n2 ↔ 2 * weightN (l1.take i) < weightN l1) := ⟨by
      have e1 : n1 = 2 + weightN (l1.take i) := hn1.symm
      have e2 : n2 = 2 + weightN (l1.drop i) := hn2.symm
      have e3 := wN_app (l1.take i) (l1.drop i)
      rw [List.take_append_drop] at e3
      omega⟩
    clear hn1 hn2
    have hw1 : IntKind.i64.wrap ((l1.length : Int) - 1) = (l1.length : Int) - 1 := by rw [IntKind.wrap_i64]; omega
    have hw4 : IntKind.i64.wrap ((i : Int) + 1) = (i : Int) + 1 := by rw [IntKind.wrap_i64]; omega
    have hj3 : i ≤ c1 := by omega
    have hj4 : i ≤ l1.length := by omega
    have hj5 : i + 1 ≤ c1 := by omega
    have hcn : ¬ c1 = i := by omega
    by_cases h1 : i + 1 < l1.length
    · have d1 : decide ((i : Int) < (l1.length : Int) - 1) = true := decide_eq_true (by omega)
      obtain ⟨q9, e9⟩ : ∃ q, decide (n1 < n2) = q := ⟨_, rfl⟩
      have E9 := Aside0.mk e9
      have HG := Aside0.mk h1
      have c_n0 := bc T_n 0 rfl; have c_n1 := bc T_n 1 rfl; have c_n2 := bc T_n 2 rfl; have c_n3 := bc T_n 3 rfl
      go_upto_region 11 with fail
      have MK : Aside0 (∀ W, Below wr.heap.size wr W → Below wr.heap.size wr W ∧ W.cell? ⟨w.heap.size, 0, none⟩ = some (.bool true) ∧ W.cell? ⟨w.heap.size, 1, none⟩ = some (.slice A1 l1.length c1) ∧ W.cell? ⟨w.heap.size, 2, none⟩ = some (.slice A2 l2.length c2) ∧ W.cell? ⟨w.heap.size, 3, none⟩ = some (.slice A3 l3.length c3)) := ⟨fun W hb => ⟨hb, nd_cell hb c_n0, nd_cell hb c_n1, nd_cell hb c_n2, nd_cell hb c_n3⟩⟩
      clear c_n0 c_n1 c_n2 c_n3
      have SB := Aside0.mk (Below.refl wr.heap.size wr)
      refine wp_region_held_drew (S := fun W => Below wr.heap.size wr W ∧ W.cell? ⟨w.heap.size, 0, none⟩ = some (.bool true) ∧ W.cell? ⟨w.heap.size, 1, none⟩ = some (.slice A1 l1.length c1) ∧ W.cell? ⟨w.heap.size, 2, none⟩ = some (.slice A2 l2.length c2) ∧ W.cell? ⟨w.heap.size, 3, none⟩ = some (.slice A3 l3.length c3)) (by kernel_rfl) ?_ (fun hHeld => ?_)
      · try dsimp only
        exact MK.out _ (Below.drew (Below.refl _ _))
      have hB : Below wr.heap.size wr wr.drew := below_drew1 (Below.refl _ _)
      clear hHeld
      obtain ⟨w123, hw123⟩ : ∃ x, x = wr.drew := ⟨_, rfl⟩
      rw [← hw123] at hB ⊢
      clear hw123
      replace T_n := bm hB T_n; replace T_r := bm hB T_r; replace T_q := bm hB T_q; replace BB := xm hB BB; replace SB := xm hB SB
      clear hB
      have hHeld := MK.out _ SB.out
      refine nd_take 0 hHeld ?_
      refine nd_take 1 hHeld ?_
      refine nd_take 2 hHeld ?_
      refine nd_take 3 hHeld ?_
      refine nd_take 4 hHeld ?_
      refine nd_take 5 hHeld ?_
      refine nd_take 6 hHeld ?_
      refine nd_take 7 hHeld ?_
      refine nd_take 8 hHeld ?_
      refine nd_take 9 hHeld ?_
      refine nd_take 10 hHeld ?_
      refine nd_take 11 hHeld ?_
      refine nd_take 13 hHeld ?_
      refine nd_take 14 hHeld ?_
      refine nd_take 15 hHeld ?_
      refine nd_take 16 hHeld ?_
      refine nd_take 17 hHeld ?_
      refine wpAnyH_ready (rs := [12]) (by kernel_rfl) (by simp) ?_
      refine (AllReadyH.cons rfl (fun K hK => ?_) AllReadyH.nil)
      go_simp
      refine (SZi.out.1 _ BB.out).mono ?_
      rintro e w124 ⟨rfl, hB⟩
      replace T_n := bm hB T_n; replace T_r := bm hB T_r; replace T_q := bm hB T_q; replace BB := xm hB BB; replace SB := xm hB SB
      clear hB
      go_simp
      refine hK.out _ _ ?_ (fun hNew => ?_)
      · try dsimp only
        exact MK.out _ SB.out
      clear hK K hHeld hNew
      have hHeld := MK.out _ SB.out
      refine wpAnyH_ready (rs := [18]) (by kernel_rfl) (by simp) ?_
      refine (AllReadyH.cons rfl (fun K hK => ?_) AllReadyH.nil)
      go_simp
      refine (SZi.out.2 _ BB.out).mono ?_
      rintro e w125 ⟨rfl, hB⟩
      replace T_n := bm hB T_n; replace T_r := bm hB T_r; replace T_q := bm hB T_q; replace BB := xm hB BB; replace SB := xm hB SB
      clear hB
      go_simp
      refine hK.out _ _ ?_ (fun hNew => ?_)
      · try dsimp only
        exact MK.out _ SB.out
      clear hK K hHeld hNew
      have hHeld := MK.out _ SB.out
      refine nd_take 19 hHeld ?_
      refine nd_take 20 hHeld ?_
      refine wpAnyH_done (by kernel_rfl) ?_ _
      clear hHeld MK
      clear SB
      cases q9
      · have HC : Aside0 (i = ct) := ⟨by rw [← HD.out, show l1.length - i = (l1.length - (i + 1)) + 1 by omega, cutN, if_neg (fun g => g.2.elim (fun e => absurd e (by omega)) (fun e => absurd (HNN.out.2 e) (of_decide_eq_false E9.out)))]⟩
        clear h1 d1 e9
        have hct := HC.out
        subst hct
        have c_n0 := bc T_n 0 rfl; have c_n1 := bc T_n 1 rfl; have c_n2 := bc T_n 2 rfl; have c_n3 := bc T_n 3 rfl
        have R0 := row_nil k48 (base := w125.heap.size) (ok := fun _ => True) (heap_alloc_new w125 (.cells #[] 48)) (Nat.le_refl _) trivial
        have B0 := below_alloc (Below.refl w125.heap.size w125) (.cells #[] 48)
        have CX : Kd.C k48 (w125.alloc (.cells #[] 48)) (A1) (i) P1 := Kd.C_below CP1.out (BB.out.trans (B0.mono BB.out.size))
        have x_n0 := nd_cell B0 c_n0
        have x_n1 := nd_cell B0 c_n1
        have x_n2 := nd_cell B0 c_n2
        have x_n3 := nd_cell B0 c_n3
        clear c_n0 c_n1 c_n2 c_n3
        go_upto_region 14 with (first | ((with_reducible refine gate_builtin (b := .append) (xs := #[.tmp 103, .tmp 107]) rfl ?_); (try (refine gate_guard (by rfl) ?_; dsimp only)); at_builtin; refine Kd.R_append_rows k48 (w0 := w125) w125.heap.size rfl (.tmp 103) (.tmp 107) 22 48 (.agg #[(.string ⟨#[]⟩), (.string ⟨#[]⟩)]) 32 rfl Try.underlying22 info48 rfl (by decide) (by decide) (.slice (some ⟨w125.heap.size, 0, none⟩) 0 0) [] P1 (A1) (i) (c1) (fun _ => True) (fun _ => False) rfl rfl R0 CX (fun _ _ h => h) (fun _ h => h.elim) (fun _ _ => trivial) B0 B0.size (by have := HLX.out; simp only [List.length_nil]; omega) ?_; intro v1 w128 ho hb hg hat; rw [List.nil_append] at ho; obtain ⟨Ax126, cx127, rfl⟩ := Kd.R_slice ho; have HO := Aside0.mk ho; have HB := Aside0.mk hb; clear ho hb hg hat) | fail)
        clear x_n0 x_n1 x_n2 x_n3 R0 CX B0
        have hB := HB.out
        have BBo := BB
        replace T_n := bm hB T_n; replace T_r := bm hB T_r; replace T_q := bm hB T_q; replace BB := xm hB BB
        have R_p1 := Aside0.mk (Kd.R_lower HO.out BBo.out.size)
        clear hB HB HO BBo
        obtain ⟨g130, hg130⟩ : ∃ n, n = w128.heap.size := ⟨_, rfl⟩
        obtain ⟨w129, hw129⟩ : ∃ x, x = w128.alloc (.cells #[.bool true, .slice Ax126 P1.length cx127, .slice none 0 0, .slice none 0 0] 26) := ⟨_, rfl⟩
        have tn := heap_alloc_new w128 (.cells #[.bool true, .slice Ax126 P1.length cx127, .slice none 0 0, .slice none 0 0] 26)
        have hB := below_alloc (Below.refl w128.heap.size w128) (.cells #[.bool true, .slice Ax126 P1.length cx127, .slice none 0 0, .slice none 0 0] 26)
        rw [← hw129] at tn hB
        rw [← hg130] at tn
        have GBB_b1 : Aside0 (w.heap.size ≤ g130) := ⟨by rw [hg130]; exact BB.out.size⟩
        have NE_b1_n : Aside0 (w.heap.size ≠ g130) := ⟨by have := blk_lt T_n.out; omega⟩
        have NE_b1_r : Aside0 ((w.heap.size + 1) ≠ g130) := ⟨by have := blk_lt T_r.out; omega⟩
        have NE_b1_q : Aside0 ((w.heap.size + 2) ≠ g130) := ⟨by have := blk_lt T_q.out; omega⟩
        replace T_n := bm hB T_n; replace T_r := bm hB T_r; replace T_q := bm hB T_q; replace R_p1 := rm hB R_p1; replace BB := xm hB BB
        have T_b1 := Aside0.mk tn
        clear tn hB
        rw [← hw129]
        try rw [← hg130]
        clear hw129 hg130
        have c_n0 := bc T_n 0 rfl; have c_n1 := bc T_n 1 rfl; have c_n2 := bc T_n 2 rfl; have c_n3 := bc T_n 3 rfl
        have R0 := row_nil k48 (base := w129.heap.size) (ok := fun _ => True) (heap_alloc_new w129 (.cells #[] 48)) (Nat.le_refl _) trivial
        have B0 := below_alloc (Below.refl w129.heap.size w129) (.cells #[] 48)
        have CX : Kd.C k48 (w129.alloc (.cells #[] 48)) (A1.map (·.add (i * 2))) (l1.length - i) P2 := Kd.C_below CP2.out (BB.out.trans (B0.mono BB.out.size))
        have x_n0 := nd_cell B0 c_n0
        have x_n1 := nd_cell B0 c_n1
        have x_n2 := nd_cell B0 c_n2
        have x_n3 := nd_cell B0 c_n3
        clear c_n0 c_n1 c_n2 c_n3
        go_upto_region 15 with (first | ((with_reducible refine gate_builtin (b := .append) (xs := #[.tmp 110, .tmp 114]) rfl ?_); (try (refine gate_guard (by rfl) ?_; dsimp only)); at_builtin; refine Kd.R_append_rows k48 (w0 := w129) w129.heap.size rfl (.tmp 110) (.tmp 114) 22 48 (.agg #[(.string ⟨#[]⟩), (.string ⟨#[]⟩)]) 32 rfl Try.underlying22 info48 rfl (by decide) (by decide) (.slice (some ⟨w129.heap.size, 0, none⟩) 0 0) [] P2 (A1.map (·.add (i * 2))) (l1.length - i) (c1 - i) (fun _ => True) (fun _ => False) rfl rfl R0 CX (fun _ _ h => h) (fun _ h => h.elim) (fun _ _ => trivial) B0 B0.size (by have := HLX.out; simp only [List.length_nil]; omega) ?_; intro v1 w133 ho hb hg hat; rw [List.nil_append] at ho; obtain ⟨Ax131, cx132, rfl⟩ := Kd.R_slice ho; have HO := Aside0.mk ho; have HB := Aside0.mk hb; clear ho hb hg hat) | fail)
        clear x_n0 x_n1 x_n2 x_n3 R0 CX B0
        have hB := HB.out
        have BBo := BB
        replace T_n := bm hB T_n; replace T_r := bm hB T_r; replace T_q := bm hB T_q; replace T_b1 := bm hB T_b1; replace R_p1 := rm hB R_p1; replace BB := xm hB BB
        have R_p2 := Aside0.mk (Kd.R_lower HO.out BBo.out.size)
        clear hB HB HO BBo
        obtain ⟨ad, hA⟩ := row48_at R_p2.out (by rw [LP2.out]; omega)
        subst hA
        obtain ⟨g135, hg135⟩ : ∃ n, n = w133.heap.size := ⟨_, rfl⟩
        obtain ⟨w134, hw134⟩ : ∃ x, x = w133.alloc (.cells #[.bool true, .slice (some ad) P2.length cx132, .slice none 0 0, .slice none 0 0] 26) := ⟨_, rfl⟩
        have tn := heap_alloc_new w133 (.cells #[.bool true, .slice (some ad) P2.length cx132, .slice none 0 0, .slice none 0 0] 26)
        have hB := below_alloc (Below.refl w133.heap.size w133) (.cells #[.bool true, .slice (some ad) P2.length cx132, .slice none 0 0, .slice none 0 0] 26)
        rw [← hw134] at tn hB
        rw [← hg135] at tn
        have GBB_b2 : Aside0 (w.heap.size ≤ g135) := ⟨by rw [hg135]; exact BB.out.size⟩
        have NE_b2_n : Aside0 (w.heap.size ≠ g135) := ⟨by have := blk_lt T_n.out; omega⟩
        have NE_b2_r : Aside0 ((w.heap.size + 1) ≠ g135) := ⟨by have := blk_lt T_r.out; omega⟩
        have NE_b2_q : Aside0 ((w.heap.size + 2) ≠ g135) := ⟨by have := blk_lt T_q.out; omega⟩
        have NE_b2_b1 : Aside0 (g130 ≠ g135) := ⟨by have := blk_lt T_b1.out; omega⟩
        replace T_n := bm hB T_n; replace T_r := bm hB T_r; replace T_q := bm hB T_q; replace T_b1 := bm hB T_b1; replace R_p1 := rm hB R_p1; replace R_p2 := rm hB R_p2; replace BB := xm hB BB
        have T_b2 := Aside0.mk tn
        clear tn hB
        rw [← hw134]
        try rw [← hg135]
        clear hw134 hg135
        have hp2 : 0 < P2.length := by rw [LP2.out]; omega
        have hB : Below w134.heap.size w134 w134.drew := below_drew1 (Below.refl _ _)
        refine wp_region_held_drew (S := fun W => Below w.heap.size w W ∧ W.cell? ⟨w.heap.size, 0, none⟩ = some (.bool true) ∧ W.cell? ⟨w.heap.size, 1, none⟩ = some (.slice A1 l1.length c1) ∧ W.cell? ⟨w.heap.size, 2, none⟩ = some (.slice A2 l2.length c2) ∧ W.cell? ⟨w.heap.size, 3, none⟩ = some (.slice A3 l3.length c3) ∧ W.cell? ⟨g130, 0, none⟩ = some (.bool true) ∧ W.cell? ⟨g130, 1, none⟩ = some (.slice Ax126 P1.length cx127) ∧ W.cell? ⟨g130, 2, none⟩ = some (.slice none 0 0) ∧ W.cell? ⟨g130, 3, none⟩ = some (.slice none 0 0) ∧ W.cell? ⟨g135, 0, none⟩ = some (.bool true) ∧ W.cell? ⟨g135, 1, none⟩ = some (.slice (some ad) P2.length cx132) ∧ W.cell? ⟨g135, 2, none⟩ = some (.slice none 0 0) ∧ W.cell? ⟨g135, 3, none⟩ = some (.slice none 0 0) ∧ W.cell? ad = some (.string kx)) (by kernel_rfl) ?_ (fun hHeld => ?_)
        · try dsimp only
          have BB' := BB.out.trans (hB.mono BB.out.size)
          exact ⟨BB', nd_cell hB (blk_cell T_n.out 0), nd_cell hB (blk_cell T_n.out 1), nd_cell hB (blk_cell T_n.out 2), nd_cell hB (blk_cell T_n.out 3), nd_cell hB (blk_cell T_b1.out 0), nd_cell hB (blk_cell T_b1.out 1), nd_cell hB (blk_cell T_b1.out 2), nd_cell hB (blk_cell T_b1.out 3), nd_cell hB (blk_cell T_b2.out 0), nd_cell hB (blk_cell T_b2.out 1), nd_cell hB (blk_cell T_b2.out 2), nd_cell hB (blk_cell T_b2.out 3), (by have := row48_cell R_p2.out hp2; rwa [EK.out] at this)⟩
        clear hHeld
        obtain ⟨w136, hw136⟩ : ∃ x, x = w134.drew := ⟨_, rfl⟩
        rw [← hw136] at hB ⊢
        clear hw136
        replace T_n := bm hB T_n; replace T_r := bm hB T_r; replace T_q := bm hB T_q; replace T_b1 := bm hB T_b1; replace T_b2 := bm hB T_b2; replace R_p1 := rm hB R_p1; replace R_p2 := rm hB R_p2; replace BB := xm hB BB
        clear hB
        have hHeld : (fun W => Below w.heap.size w W ∧ W.cell? ⟨w.heap.size, 0, none⟩ = some (.bool true) ∧ W.cell? ⟨w.heap.size, 1, none⟩ = some (.slice A1 l1.length c1) ∧ W.cell? ⟨w.heap.size, 2, none⟩ = some (.slice A2 l2.length c2) ∧ W.cell? ⟨w.heap.size, 3, none⟩ = some (.slice A3 l3.length c3) ∧ W.cell? ⟨g130, 0, none⟩ = some (.bool true) ∧ W.cell? ⟨g130, 1, none⟩ = some (.slice Ax126 P1.length cx127) ∧ W.cell? ⟨g130, 2, none⟩ = some (.slice none 0 0) ∧ W.cell? ⟨g130, 3, none⟩ = some (.slice none 0 0) ∧ W.cell? ⟨g135, 0, none⟩ = some (.bool true) ∧ W.cell? ⟨g135, 1, none⟩ = some (.slice (some ad) P2.length cx132) ∧ W.cell? ⟨g135, 2, none⟩ = some (.slice none 0 0) ∧ W.cell? ⟨g135, 3, none⟩ = some (.slice none 0 0) ∧ W.cell? ad = some (.string kx)) w136 := ⟨BB.out, blk_cell T_n.out 0, blk_cell T_n.out 1, blk_cell T_n.out 2, blk_cell T_n.out 3, blk_cell T_b1.out 0, blk_cell T_b1.out 1, blk_cell T_b1.out 2, blk_cell T_b1.out 3, blk_cell T_b2.out 0, blk_cell T_b2.out 1, blk_cell T_b2.out 2, blk_cell T_b2.out 3, (by have := row48_cell R_p2.out hp2; rwa [EK.out] at this)⟩
        refine nd_take 0 hHeld ?_
        refine nd_take 1 hHeld ?_
        refine nd_take 2 hHeld ?_
        refine nd_take 3 hHeld ?_
        refine nd_take 4 hHeld ?_
        refine nd_take 5 hHeld ?_
        refine nd_take 6 hHeld ?_
        refine wpAnyH_ready (rs := [7]) (by kernel_rfl) (by simp) ?_
        refine (AllReadyH.cons rfl (fun K hK => ?_) AllReadyH.nil)
        have c_r0 := bc T_r 0 rfl; have f_r0 := bf T_r 0; have c_r1 := bc T_r 1 rfl; have f_r1 := bf T_r 1; have c_r2 := bc T_r 2 rfl; have f_r2 := bf T_r 2; have c_r3 := bc T_r 3 rfl; have f_r3 := bf T_r 3
        go_simp
        clear c_r0 f_r0 c_r1 f_r1 c_r2 f_r2 c_r3 f_r3
        have hg := nd_grown4 w136 ((w.heap.size + 1)) (.bool true) (.slice Ax126 P1.length cx127) (.slice none 0 0) (.slice none 0 0)
        have tn := nd_put4 w136 ((w.heap.size + 1)) 26 _ _ _ _ (.bool true) (.slice Ax126 P1.length cx127) (.slice none 0 0) (.slice none 0 0) T_r.out
        obtain ⟨w137, hw137⟩ : ∃ x, x = ((((w136.setCell ⟨(w.heap.size + 1), 0, none⟩ (.bool true)).setCell ⟨(w.heap.size + 1), 1, none⟩ (.slice Ax126 P1.length cx127)).setCell ⟨(w.heap.size + 1), 2, none⟩ (.slice none 0 0)).setCell ⟨(w.heap.size + 1), 3, none⟩ (.slice none 0 0)) := ⟨_, rfl⟩
        rw [← hw137] at hg tn
        rw [← hw137]
        clear hw137
        replace R_p1 := rg hg T_r R_p1 (by decide)
        replace R_p2 := rg hg T_r R_p2 (by decide)
        replace T_n := bg hg T_n (by omega)
        replace T_q := bg hg T_q (by omega)
        replace T_b1 := bg hg T_b1 (fun e => NE_b1_r.out e.symm)
        replace T_b2 := bg hg T_b2 (fun e => NE_b2_r.out e.symm)
        replace BB := Aside0.mk (nd_grown_below hg BB.out BB.out.size (by omega))
        replace T_r := Aside0.mk tn
        clear tn hg
        refine hK.out _ _ ?_ (fun hNew => ?_)
        · try dsimp only
          exact ⟨BB.out, blk_cell T_n.out 0, blk_cell T_n.out 1, blk_cell T_n.out 2, blk_cell T_n.out 3, blk_cell T_b1.out 0, blk_cell T_b1.out 1, blk_cell T_b1.out 2, blk_cell T_b1.out 3, blk_cell T_b2.out 0, blk_cell T_b2.out 1, blk_cell T_b2.out 2, blk_cell T_b2.out 3, (by have := row48_cell R_p2.out hp2; rwa [EK.out] at this)⟩
        clear hK K hHeld hNew
        have hHeld : (fun W => Below w.heap.size w W ∧ W.cell? ⟨w.heap.size, 0, none⟩ = some (.bool true) ∧ W.cell? ⟨w.heap.size, 1, none⟩ = some (.slice A1 l1.length c1) ∧ W.cell? ⟨w.heap.size, 2, none⟩ = some (.slice A2 l2.length c2) ∧ W.cell? ⟨w.heap.size, 3, none⟩ = some (.slice A3 l3.length c3) ∧ W.cell? ⟨g130, 0, none⟩ = some (.bool true) ∧ W.cell? ⟨g130, 1, none⟩ = some (.slice Ax126 P1.length cx127) ∧ W.cell? ⟨g130, 2, none⟩ = some (.slice none 0 0) ∧ W.cell? ⟨g130, 3, none⟩ = some (.slice none 0 0) ∧ W.cell? ⟨g135, 0, none⟩ = some (.bool true) ∧ W.cell? ⟨g135, 1, none⟩ = some (.slice (some ad) P2.length cx132) ∧ W.cell? ⟨g135, 2, none⟩ = some (.slice none 0 0) ∧ W.cell? ⟨g135, 3, none⟩ = some (.slice none 0 0) ∧ W.cell? ad = some (.string kx)) w137 := ⟨BB.out, blk_cell T_n.out 0, blk_cell T_n.out 1, blk_cell T_n.out 2, blk_cell T_n.out 3, blk_cell T_b1.out 0, blk_cell T_b1.out 1, blk_cell T_b1.out 2, blk_cell T_b1.out 3, blk_cell T_b2.out 0, blk_cell T_b2.out 1, blk_cell T_b2.out 2, blk_cell T_b2.out 3, (by have := row48_cell R_p2.out hp2; rwa [EK.out] at this)⟩
        refine nd_take 8 hHeld ?_
        refine wpAnyH_ready (rs := [9]) (by kernel_rfl) (by simp) ?_
        refine (AllReadyH.cons rfl (fun K hK => ?_) AllReadyH.nil)
        have c_q0 := bc T_q 0 rfl; have f_q0 := bf T_q 0; have c_q1 := bc T_q 1 rfl; have f_q1 := bf T_q 1; have c_q2 := bc T_q 2 rfl; have f_q2 := bf T_q 2; have c_q3 := bc T_q 3 rfl; have f_q3 := bf T_q 3
        go_simp
        clear c_q0 f_q0 c_q1 f_q1 c_q2 f_q2 c_q3 f_q3
        have hg := nd_grown4 w137 ((w.heap.size + 2)) (.bool true) (.slice (some ad) P2.length cx132) (.slice none 0 0) (.slice none 0 0)
        have tn := nd_put4 w137 ((w.heap.size + 2)) 26 _ _ _ _ (.bool true) (.slice (some ad) P2.length cx132) (.slice none 0 0) (.slice none 0 0) T_q.out
        obtain ⟨w138, hw138⟩ : ∃ x, x = ((((w137.setCell ⟨(w.heap.size + 2), 0, none⟩ (.bool true)).setCell ⟨(w.heap.size + 2), 1, none⟩ (.slice (some ad) P2.length cx132)).setCell ⟨(w.heap.size + 2), 2, none⟩ (.slice none 0 0)).setCell ⟨(w.heap.size + 2), 3, none⟩ (.slice none 0 0)) := ⟨_, rfl⟩
        rw [← hw138] at hg tn
        rw [← hw138]
        clear hw138
        replace R_p1 := rg hg T_q R_p1 (by decide)
        replace R_p2 := rg hg T_q R_p2 (by decide)
        replace T_n := bg hg T_n (by omega)
        replace T_r := bg hg T_r (by omega)
        replace T_b1 := bg hg T_b1 (fun e => NE_b1_q.out e.symm)
        replace T_b2 := bg hg T_b2 (fun e => NE_b2_q.out e.symm)
        replace BB := Aside0.mk (nd_grown_below hg BB.out BB.out.size (by omega))
        replace T_q := Aside0.mk tn
        clear tn hg
        refine hK.out _ _ ?_ (fun hNew => ?_)
        · try dsimp only
          exact ⟨BB.out, blk_cell T_n.out 0, blk_cell T_n.out 1, blk_cell T_n.out 2, blk_cell T_n.out 3, blk_cell T_b1.out 0, blk_cell T_b1.out 1, blk_cell T_b1.out 2, blk_cell T_b1.out 3, blk_cell T_b2.out 0, blk_cell T_b2.out 1, blk_cell T_b2.out 2, blk_cell T_b2.out 3, (by have := row48_cell R_p2.out hp2; rwa [EK.out] at this)⟩
        clear hK K hHeld hNew
        have hHeld : (fun W => Below w.heap.size w W ∧ W.cell? ⟨w.heap.size, 0, none⟩ = some (.bool true) ∧ W.cell? ⟨w.heap.size, 1, none⟩ = some (.slice A1 l1.length c1) ∧ W.cell? ⟨w.heap.size, 2, none⟩ = some (.slice A2 l2.length c2) ∧ W.cell? ⟨w.heap.size, 3, none⟩ = some (.slice A3 l3.length c3) ∧ W.cell? ⟨g130, 0, none⟩ = some (.bool true) ∧ W.cell? ⟨g130, 1, none⟩ = some (.slice Ax126 P1.length cx127) ∧ W.cell? ⟨g130, 2, none⟩ = some (.slice none 0 0) ∧ W.cell? ⟨g130, 3, none⟩ = some (.slice none 0 0) ∧ W.cell? ⟨g135, 0, none⟩ = some (.bool true) ∧ W.cell? ⟨g135, 1, none⟩ = some (.slice (some ad) P2.length cx132) ∧ W.cell? ⟨g135, 2, none⟩ = some (.slice none 0 0) ∧ W.cell? ⟨g135, 3, none⟩ = some (.slice none 0 0) ∧ W.cell? ad = some (.string kx)) w138 := ⟨BB.out, blk_cell T_n.out 0, blk_cell T_n.out 1, blk_cell T_n.out 2, blk_cell T_n.out 3, blk_cell T_b1.out 0, blk_cell T_b1.out 1, blk_cell T_b1.out 2, blk_cell T_b1.out 3, blk_cell T_b2.out 0, blk_cell T_b2.out 1, blk_cell T_b2.out 2, blk_cell T_b2.out 3, (by have := row48_cell R_p2.out hp2; rwa [EK.out] at this)⟩
        refine nd_take 10 hHeld ?_
        refine wpAnyH_done (by kernel_rfl) ?_ _
        clear hHeld
        go_wp2_with fail
        refine bodyPost_ret (results_ctct rfl _ _ (w.heap.size + 1) (w.heap.size + 2) 26 26 #[.bool true, .slice Ax126 P1.length cx127, .slice none 0 0, .slice none 0 0] #[.bool true, .slice (some ad) P2.length cx132, .slice none 0 0, .slice none 0 0] (0, 0) (0, 0) _ _ rfl T_r.out Try.underlying26 rfl (by kernel_rfl) rfl T_q.out Try.underlying26 rfl (by kernel_rfl)) rfl ?_
        exact ⟨_, _, _, _, _, _, rfl, R_p1.out, Kd.R_nil _ _ _ _ _, Kd.R_nil _ _ _ _ _, R_p2.out, Kd.R_nil _ _ _ _ _, Kd.R_nil _ _ _ _ _, BB.out⟩
      · have HN : Aside0 (cutN l1 (l1.length - (i + 1)) (i + 1) = ct) := ⟨by rw [← HD.out, show l1.length - i = (l1.length - (i + 1)) + 1 by omega, cutN, if_pos ⟨h1, .inr (HNN.out.1 (of_decide_eq_true E9.out))⟩]⟩
        clear e9
        go_wp2_with fail
        go_roundw
        case rel => exact ⟨i + 1, Nat.le_succ_of_le hi1, HG.out, rfl, HN, T_n, T_r, T_q, BB⟩
        case measure => simp [intOf]; omega
    · have d1 : decide ((i : Int) < (l1.length : Int) - 1) = false := decide_eq_false (by omega)
      have HC : Aside0 (i = ct) := ⟨by rw [← HD.out, show l1.length - i = (l1.length - (i + 1)) + 1 by omega, cutN, if_neg (fun g => h1 g.1)]⟩
      clear h1
      have c_n0 := bc T_n 0 rfl; have c_n1 := bc T_n 1 rfl; have c_n2 := bc T_n 2 rfl; have c_n3 := bc T_n 3 rfl
      go_upto_region 11 with fail
      have MK : Aside0 (∀ W, Below wr.heap.size wr W → Below wr.heap.size wr W ∧ W.cell? ⟨w.heap.size, 0, none⟩ = some (.bool true) ∧ W.cell? ⟨w.heap.size, 1, none⟩ = some (.slice A1 l1.length c1) ∧ W.cell? ⟨w.heap.size, 2, none⟩ = some (.slice A2 l2.length c2) ∧ W.cell? ⟨w.heap.size, 3, none⟩ = some (.slice A3 l3.length c3)) := ⟨fun W hb => ⟨hb, nd_cell hb c_n0, nd_cell hb c_n1, nd_cell hb c_n2, nd_cell hb c_n3⟩⟩
      clear c_n0 c_n1 c_n2 c_n3
      have SB := Aside0.mk (Below.refl wr.heap.size wr)
      refine wp_region_held_drew (S := fun W => Below wr.heap.size wr W ∧ W.cell? ⟨w.heap.size, 0, none⟩ = some (.bool true) ∧ W.cell? ⟨w.heap.size, 1, none⟩ = some (.slice A1 l1.length c1) ∧ W.cell? ⟨w.heap.size, 2, none⟩ = some (.slice A2 l2.length c2) ∧ W.cell? ⟨w.heap.size, 3, none⟩ = some (.slice A3 l3.length c3)) (by kernel_rfl) ?_ (fun hHeld => ?_)
      · try dsimp only
        exact MK.out _ (Below.drew (Below.refl _ _))
      have hB : Below wr.heap.size wr wr.drew := below_drew1 (Below.refl _ _)
      clear hHeld
      obtain ⟨w139, hw139⟩ : ∃ x, x = wr.drew := ⟨_, rfl⟩
      rw [← hw139] at hB ⊢
      clear hw139
      replace T_n := bm hB T_n; replace T_r := bm hB T_r; replace T_q := bm hB T_q; replace BB := xm hB BB; replace SB := xm hB SB
      clear hB
      have hHeld := MK.out _ SB.out
      refine nd_take 0 hHeld ?_
      refine nd_take 1 hHeld ?_
      refine nd_take 2 hHeld ?_
      refine nd_take 3 hHeld ?_
      refine nd_take 4 hHeld ?_
      refine nd_take 5 hHeld ?_
      refine nd_take 6 hHeld ?_
      refine nd_skip 7 hHeld ?_
      refine nd_skip 8 hHeld ?_
      refine nd_skip 9 hHeld ?_
      refine nd_skip 10 hHeld ?_
      refine nd_skip 11 hHeld ?_
      refine nd_skip 12 hHeld ?_
      refine nd_skip 13 hHeld ?_
      refine nd_skip 14 hHeld ?_
      refine nd_skip 15 hHeld ?_
      refine nd_skip 16 hHeld ?_
      refine nd_skip 17 hHeld ?_
      refine nd_skip 18 hHeld ?_
      refine nd_skip 19 hHeld ?_
      refine nd_take 20 hHeld ?_
      refine wpAnyH_done (by kernel_rfl) ?_ _
      clear hHeld MK
      clear SB
      have hct := HC.out
      subst hct
      have c_n0 := bc T_n 0 rfl; have c_n1 := bc T_n 1 rfl; have c_n2 := bc T_n 2 rfl; have c_n3 := bc T_n 3 rfl
      have R0 := row_nil k48 (base := w139.heap.size) (ok := fun _ => True) (heap_alloc_new w139 (.cells #[] 48)) (Nat.le_refl _) trivial
      have B0 := below_alloc (Below.refl w139.heap.size w139) (.cells #[] 48)
      have CX : Kd.C k48 (w139.alloc (.cells #[] 48)) (A1) (i) P1 := Kd.C_below CP1.out (BB.out.trans (B0.mono BB.out.size))
      have x_n0 := nd_cell B0 c_n0
      have x_n1 := nd_cell B0 c_n1
      have x_n2 := nd_cell B0 c_n2
      have x_n3 := nd_cell B0 c_n3
      clear c_n0 c_n1 c_n2 c_n3
      go_upto_region 14 with (first | ((with_reducible refine gate_builtin (b := .append) (xs := #[.tmp 103, .tmp 107]) rfl ?_); (try (refine gate_guard (by rfl) ?_; dsimp only)); at_builtin; refine Kd.R_append_rows k48 (w0 := w139) w139.heap.size rfl (.tmp 103) (.tmp 107) 22 48 (.agg #[(.string ⟨#[]⟩), (.string ⟨#[]⟩)]) 32 rfl Try.underlying22 info48 rfl (by decide) (by decide) (.slice (some ⟨w139.heap.size, 0, none⟩) 0 0) [] P1 (A1) (i) (c1) (fun _ => True) (fun _ => False) rfl rfl R0 CX (fun _ _ h => h) (fun _ h => h.elim) (fun _ _ => trivial) B0 B0.size (by have := HLX.out; simp only [List.length_nil]; omega) ?_; intro v1 w142 ho hb hg hat; rw [List.nil_append] at ho; obtain ⟨Ax140, cx141, rfl⟩ := Kd.R_slice ho; have HO := Aside0.mk ho; have HB := Aside0.mk hb; clear ho hb hg hat) | fail)
      clear x_n0 x_n1 x_n2 x_n3 R0 CX B0
      have hB := HB.out
      have BBo := BB
      replace T_n := bm hB T_n; replace T_r := bm hB T_r; replace T_q := bm hB T_q; replace BB := xm hB BB
      have R_p1 := Aside0.mk (Kd.R_lower HO.out BBo.out.size)
      clear hB HB HO BBo
      obtain ⟨g144, hg144⟩ : ∃ n, n = w142.heap.size := ⟨_, rfl⟩
      obtain ⟨w143, hw143⟩ : ∃ x, x = w142.alloc (.cells #[.bool true, .slice Ax140 P1.length cx141, .slice none 0 0, .slice none 0 0] 26) := ⟨_, rfl⟩
      have tn := heap_alloc_new w142 (.cells #[.bool true, .slice Ax140 P1.length cx141, .slice none 0 0, .slice none 0 0] 26)
      have hB := below_alloc (Below.refl w142.heap.size w142) (.cells #[.bool true, .slice Ax140 P1.length cx141, .slice none 0 0, .slice none 0 0] 26)
      rw [← hw143] at tn hB
      rw [← hg144] at tn
      have GBB_b1 : Aside0 (w.heap.size ≤ g144) := ⟨by rw [hg144]; exact BB.out.size⟩
      have NE_b1_n : Aside0 (w.heap.size ≠ g144) := ⟨by have := blk_lt T_n.out; omega⟩
      have NE_b1_r : Aside0 ((w.heap.size + 1) ≠ g144) := ⟨by have := blk_lt T_r.out; omega⟩
      have NE_b1_q : Aside0 ((w.heap.size + 2) ≠ g144) := ⟨by have := blk_lt T_q.out; omega⟩
      replace T_n := bm hB T_n; replace T_r := bm hB T_r; replace T_q := bm hB T_q; replace R_p1 := rm hB R_p1; replace BB := xm hB BB
      have T_b1 := Aside0.mk tn
      clear tn hB
      rw [← hw143]
      try rw [← hg144]
      clear hw143 hg144
      have c_n0 := bc T_n 0 rfl; have c_n1 := bc T_n 1 rfl; have c_n2 := bc T_n 2 rfl; have c_n3 := bc T_n 3 rfl
      have R0 := row_nil k48 (base := w143.heap.size) (ok := fun _ => True) (heap_alloc_new w143 (.cells #[] 48)) (Nat.le_refl _) trivial
      have B0 := below_alloc (Below.refl w143.heap.size w143) (.cells #[] 48)
      have CX : Kd.C k48 (w143.alloc (.cells #[] 48)) (A1.map (·.add (i * 2))) (l1.length - i) P2 := Kd.C_below CP2.out (BB.out.trans (B0.mono BB.out.size))
      have x_n0 := nd_cell B0 c_n0
      have x_n1 := nd_cell B0 c_n1
      have x_n2 := nd_cell B0 c_n2
      have x_n3 := nd_cell B0 c_n3
      clear c_n0 c_n1 c_n2 c_n3
      go_upto_region 15 with (first | ((with_reducible refine gate_builtin (b := .append) (xs := #[.tmp 110, .tmp 114]) rfl ?_); (try (refine gate_guard (by rfl) ?_; dsimp only)); at_builtin; refine Kd.R_append_rows k48 (w0 := w143) w143.heap.size rfl (.tmp 110) (.tmp 114) 22 48 (.agg #[(.string ⟨#[]⟩), (.string ⟨#[]⟩)]) 32 rfl Try.underlying22 info48 rfl (by decide) (by decide) (.slice (some ⟨w143.heap.size, 0, none⟩) 0 0) [] P2 (A1.map (·.add (i * 2))) (l1.length - i) (c1 - i) (fun _ => True) (fun _ => False) rfl rfl R0 CX (fun _ _ h => h) (fun _ h => h.elim) (fun _ _ => trivial) B0 B0.size (by have := HLX.out; simp only [List.length_nil]; omega) ?_; intro v1 w147 ho hb hg hat; rw [List.nil_append] at ho; obtain ⟨Ax145, cx146, rfl⟩ := Kd.R_slice ho; have HO := Aside0.mk ho; have HB := Aside0.mk hb; clear ho hb hg hat) | fail)
      clear x_n0 x_n1 x_n2 x_n3 R0 CX B0
      have hB := HB.out
      have BBo := BB
      replace T_n := bm hB T_n; replace T_r := bm hB T_r; replace T_q := bm hB T_q; replace T_b1 := bm hB T_b1; replace R_p1 := rm hB R_p1; replace BB := xm hB BB
      have R_p2 := Aside0.mk (Kd.R_lower HO.out BBo.out.size)
      clear hB HB HO BBo
      obtain ⟨ad, hA⟩ := row48_at R_p2.out (by rw [LP2.out]; omega)
      subst hA
      obtain ⟨g149, hg149⟩ : ∃ n, n = w147.heap.size := ⟨_, rfl⟩
      obtain ⟨w148, hw148⟩ : ∃ x, x = w147.alloc (.cells #[.bool true, .slice (some ad) P2.length cx146, .slice none 0 0, .slice none 0 0] 26) := ⟨_, rfl⟩
      have tn := heap_alloc_new w147 (.cells #[.bool true, .slice (some ad) P2.length cx146, .slice none 0 0, .slice none 0 0] 26)
      have hB := below_alloc (Below.refl w147.heap.size w147) (.cells #[.bool true, .slice (some ad) P2.length cx146, .slice none 0 0, .slice none 0 0] 26)
      rw [← hw148] at tn hB
      rw [← hg149] at tn
      have GBB_b2 : Aside0 (w.heap.size ≤ g149) := ⟨by rw [hg149]; exact BB.out.size⟩
      have NE_b2_n : Aside0 (w.heap.size ≠ g149) := ⟨by have := blk_lt T_n.out; omega⟩
      have NE_b2_r : Aside0 ((w.heap.size + 1) ≠ g149) := ⟨by have := blk_lt T_r.out; omega⟩
      have NE_b2_q : Aside0 ((w.heap.size + 2) ≠ g149) := ⟨by have := blk_lt T_q.out; omega⟩
      have NE_b2_b1 : Aside0 (g144 ≠ g149) := ⟨by have := blk_lt T_b1.out; omega⟩
      replace T_n := bm hB T_n; replace T_r := bm hB T_r; replace T_q := bm hB T_q; replace T_b1 := bm hB T_b1; replace R_p1 := rm hB R_p1; replace R_p2 := rm hB R_p2; replace BB := xm hB BB
      have T_b2 := Aside0.mk tn
      clear tn hB
      rw [← hw148]
      try rw [← hg149]
      clear hw148 hg149
      have hp2 : 0 < P2.length := by rw [LP2.out]; omega
      have hB : Below w148.heap.size w148 w148.drew := below_drew1 (Below.refl _ _)
      refine wp_region_held_drew (S := fun W => Below w.heap.size w W ∧ W.cell? ⟨w.heap.size, 0, none⟩ = some (.bool true) ∧ W.cell? ⟨w.heap.size, 1, none⟩ = some (.slice A1 l1.length c1) ∧ W.cell? ⟨w.heap.size, 2, none⟩ = some (.slice A2 l2.length c2) ∧ W.cell? ⟨w.heap.size, 3, none⟩ = some (.slice A3 l3.length c3) ∧ W.cell? ⟨g144, 0, none⟩ = some (.bool true) ∧ W.cell? ⟨g144, 1, none⟩ = some (.slice Ax140 P1.length cx141) ∧ W.cell? ⟨g144, 2, none⟩ = some (.slice none 0 0) ∧ W.cell? ⟨g144, 3, none⟩ = some (.slice none 0 0) ∧ W.cell? ⟨g149, 0, none⟩ = some (.bool true) ∧ W.cell? ⟨g149, 1, none⟩ = some (.slice (some ad) P2.length cx146) ∧ W.cell? ⟨g149, 2, none⟩ = some (.slice none 0 0) ∧ W.cell? ⟨g149, 3, none⟩ = some (.slice none 0 0) ∧ W.cell? ad = some (.string kx)) (by kernel_rfl) ?_ (fun hHeld => ?_)
      · try dsimp only
        have BB' := BB.out.trans (hB.mono BB.out.size)
        exact ⟨BB', nd_cell hB (blk_cell T_n.out 0), nd_cell hB (blk_cell T_n.out 1), nd_cell hB (blk_cell T_n.out 2), nd_cell hB (blk_cell T_n.out 3), nd_cell hB (blk_cell T_b1.out 0), nd_cell hB (blk_cell T_b1.out 1), nd_cell hB (blk_cell T_b1.out 2), nd_cell hB (blk_cell T_b1.out 3), nd_cell hB (blk_cell T_b2.out 0), nd_cell hB (blk_cell T_b2.out 1), nd_cell hB (blk_cell T_b2.out 2), nd_cell hB (blk_cell T_b2.out 3), (by have := row48_cell R_p2.out hp2; rwa [EK.out] at this)⟩
      clear hHeld
      obtain ⟨w150, hw150⟩ : ∃ x, x = w148.drew := ⟨_, rfl⟩
      rw [← hw150] at hB ⊢
      clear hw150
      replace T_n := bm hB T_n; replace T_r := bm hB T_r; replace T_q := bm hB T_q; replace T_b1 := bm hB T_b1; replace T_b2 := bm hB T_b2; replace R_p1 := rm hB R_p1; replace R_p2 := rm hB R_p2; replace BB := xm hB BB
      clear hB
      have hHeld : (fun W => Below w.heap.size w W ∧ W.cell? ⟨w.heap.size, 0, none⟩ = some (.bool true) ∧ W.cell? ⟨w.heap.size, 1, none⟩ = some (.slice A1 l1.length c1) ∧ W.cell? ⟨w.heap.size, 2, none⟩ = some (.slice A2 l2.length c2) ∧ W.cell? ⟨w.heap.size, 3, none⟩ = some (.slice A3 l3.length c3) ∧ W.cell? ⟨g144, 0, none⟩ = some (.bool true) ∧ W.cell? ⟨g144, 1, none⟩ = some (.slice Ax140 P1.length cx141) ∧ W.cell? ⟨g144, 2, none⟩ = some (.slice none 0 0) ∧ W.cell? ⟨g144, 3, none⟩ = some (.slice none 0 0) ∧ W.cell? ⟨g149, 0, none⟩ = some (.bool true) ∧ W.cell? ⟨g149, 1, none⟩ = some (.slice (some ad) P2.length cx146) ∧ W.cell? ⟨g149, 2, none⟩ = some (.slice none 0 0) ∧ W.cell? ⟨g149, 3, none⟩ = some (.slice none 0 0) ∧ W.cell? ad = some (.string kx)) w150 := ⟨BB.out, blk_cell T_n.out 0, blk_cell T_n.out 1, blk_cell T_n.out 2, blk_cell T_n.out 3, blk_cell T_b1.out 0, blk_cell T_b1.out 1, blk_cell T_b1.out 2, blk_cell T_b1.out 3, blk_cell T_b2.out 0, blk_cell T_b2.out 1, blk_cell T_b2.out 2, blk_cell T_b2.out 3, (by have := row48_cell R_p2.out hp2; rwa [EK.out] at this)⟩
      refine nd_take 0 hHeld ?_
      refine nd_take 1 hHeld ?_
      refine nd_take 2 hHeld ?_
      refine nd_take 3 hHeld ?_
      refine nd_take 4 hHeld ?_
      refine nd_take 5 hHeld ?_
      refine nd_take 6 hHeld ?_
      refine wpAnyH_ready (rs := [7]) (by kernel_rfl) (by simp) ?_
      refine (AllReadyH.cons rfl (fun K hK => ?_) AllReadyH.nil)
      have c_r0 := bc T_r 0 rfl; have f_r0 := bf T_r 0; have c_r1 := bc T_r 1 rfl; have f_r1 := bf T_r 1; have c_r2 := bc T_r 2 rfl; have f_r2 := bf T_r 2; have c_r3 := bc T_r 3 rfl; have f_r3 := bf T_r 3
      go_simp
      clear c_r0 f_r0 c_r1 f_r1 c_r2 f_r2 c_r3 f_r3
      have hg := nd_grown4 w150 ((w.heap.size + 1)) (.bool true) (.slice Ax140 P1.length cx141) (.slice none 0 0) (.slice none 0 0)
      have tn := nd_put4 w150 ((w.heap.size + 1)) 26 _ _ _ _ (.bool true) (.slice Ax140 P1.length cx141) (.slice none 0 0) (.slice none 0 0) T_r.out
      obtain ⟨w151, hw151⟩ : ∃ x, x = ((((w150.setCell ⟨(w.heap.size + 1), 0, none⟩ (.bool true)).setCell ⟨(w.heap.size + 1), 1, none⟩ (.slice Ax140 P1.length cx141)).setCell ⟨(w.heap.size + 1), 2, none⟩ (.slice none 0 0)).setCell ⟨(w.heap.size + 1), 3, none⟩ (.slice none 0 0)) := ⟨_, rfl⟩
      rw [← hw151] at hg tn
      rw [← hw151]
      clear hw151
      replace R_p1 := rg hg T_r R_p1 (by decide)
      replace R_p2 := rg hg T_r R_p2 (by decide)
      replace T_n := bg hg T_n (by omega)
      replace T_q := bg hg T_q (by omega)
      replace T_b1 := bg hg T_b1 (fun e => NE_b1_r.out e.symm)
      replace T_b2 := bg hg T_b2 (fun e => NE_b2_r.out e.symm)
      replace BB := Aside0.mk (nd_grown_below hg BB.out BB.out.size (by omega))
      replace T_r := Aside0.mk tn
      clear tn hg
      refine hK.out _ _ ?_ (fun hNew => ?_)
      · try dsimp only
        exact ⟨BB.out, blk_cell T_n.out 0, blk_cell T_n.out 1, blk_cell T_n.out 2, blk_cell T_n.out 3, blk_cell T_b1.out 0, blk_cell T_b1.out 1, blk_cell T_b1.out 2, blk_cell T_b1.out 3, blk_cell T_b2.out 0, blk_cell T_b2.out 1, blk_cell T_b2.out 2, blk_cell T_b2.out 3, (by have := row48_cell R_p2.out hp2; rwa [EK.out] at this)⟩
      clear hK K hHeld hNew
      have hHeld : (fun W => Below w.heap.size w W ∧ W.cell? ⟨w.heap.size, 0, none⟩ = some (.bool true) ∧ W.cell? ⟨w.heap.size, 1, none⟩ = some (.slice A1 l1.length c1) ∧ W.cell? ⟨w.heap.size, 2, none⟩ = some (.slice A2 l2.length c2) ∧ W.cell? ⟨w.heap.size, 3, none⟩ = some (.slice A3 l3.length c3) ∧ W.cell? ⟨g144, 0, none⟩ = some (.bool true) ∧ W.cell? ⟨g144, 1, none⟩ = some (.slice Ax140 P1.length cx141) ∧ W.cell? ⟨g144, 2, none⟩ = some (.slice none 0 0) ∧ W.cell? ⟨g144, 3, none⟩ = some (.slice none 0 0) ∧ W.cell? ⟨g149, 0, none⟩ = some (.bool true) ∧ W.cell? ⟨g149, 1, none⟩ = some (.slice (some ad) P2.length cx146) ∧ W.cell? ⟨g149, 2, none⟩ = some (.slice none 0 0) ∧ W.cell? ⟨g149, 3, none⟩ = some (.slice none 0 0) ∧ W.cell? ad = some (.string kx)) w151 := ⟨BB.out, blk_cell T_n.out 0, blk_cell T_n.out 1, blk_cell T_n.out 2, blk_cell T_n.out 3, blk_cell T_b1.out 0, blk_cell T_b1.out 1, blk_cell T_b1.out 2, blk_cell T_b1.out 3, blk_cell T_b2.out 0, blk_cell T_b2.out 1, blk_cell T_b2.out 2, blk_cell T_b2.out 3, (by have := row48_cell R_p2.out hp2; rwa [EK.out] at this)⟩
      refine nd_take 8 hHeld ?_
      refine wpAnyH_ready (rs := [9]) (by kernel_rfl) (by simp) ?_
      refine (AllReadyH.cons rfl (fun K hK => ?_) AllReadyH.nil)
      have c_q0 := bc T_q 0 rfl; have f_q0 := bf T_q 0; have c_q1 := bc T_q 1 rfl; have f_q1 := bf T_q 1; have c_q2 := bc T_q 2 rfl; have f_q2 := bf T_q 2; have c_q3 := bc T_q 3 rfl; have f_q3 := bf T_q 3
      go_simp
      clear c_q0 f_q0 c_q1 f_q1 c_q2 f_q2 c_q3 f_q3
      have hg := nd_grown4 w151 ((w.heap.size + 2)) (.bool true) (.slice (some ad) P2.length cx146) (.slice none 0 0) (.slice none 0 0)
      have tn := nd_put4 w151 ((w.heap.size + 2)) 26 _ _ _ _ (.bool true) (.slice (some ad) P2.length cx146) (.slice none 0 0) (.slice none 0 0) T_q.out
      obtain ⟨w152, hw152⟩ : ∃ x, x = ((((w151.setCell ⟨(w.heap.size + 2), 0, none⟩ (.bool true)).setCell ⟨(w.heap.size + 2), 1, none⟩ (.slice (some ad) P2.length cx146)).setCell ⟨(w.heap.size + 2), 2, none⟩ (.slice none 0 0)).setCell ⟨(w.heap.size + 2), 3, none⟩ (.slice none 0 0)) := ⟨_, rfl⟩
      rw [← hw152] at hg tn
      rw [← hw152]
      clear hw152
      replace R_p1 := rg hg T_q R_p1 (by decide)
      replace R_p2 := rg hg T_q R_p2 (by decide)
      replace T_n := bg hg T_n (by omega)
      replace T_r := bg hg T_r (by omega)
      replace T_b1 := bg hg T_b1 (fun e => NE_b1_q.out e.symm)
      replace T_b2 := bg hg T_b2 (fun e => NE_b2_q.out e.symm)
      replace BB := Aside0.mk (nd_grown_below hg BB.out BB.out.size (by omega))
      replace T_q := Aside0.mk tn
      clear tn hg
      refine hK.out _ _ ?_ (fun hNew => ?_)
      · try dsimp only
        exact ⟨BB.out, blk_cell T_n.out 0, blk_cell T_n.out 1, blk_cell T_n.out 2, blk_cell T_n.out 3, blk_cell T_b1.out 0, blk_cell T_b1.out 1, blk_cell T_b1.out 2, blk_cell T_b1.out 3, blk_cell T_b2.out 0, blk_cell T_b2.out 1, blk_cell T_b2.out 2, blk_cell T_b2.out 3, (by have := row48_cell R_p2.out hp2; rwa [EK.out] at this)⟩
      clear hK K hHeld hNew
      have hHeld : (fun W => Below w.heap.size w W ∧ W.cell? ⟨w.heap.size, 0, none⟩ = some (.bool true) ∧ W.cell? ⟨w.heap.size, 1, none⟩ = some (.slice A1 l1.length c1) ∧ W.cell? ⟨w.heap.size, 2, none⟩ = some (.slice A2 l2.length c2) ∧ W.cell? ⟨w.heap.size, 3, none⟩ = some (.slice A3 l3.length c3) ∧ W.cell? ⟨g144, 0, none⟩ = some (.bool true) ∧ W.cell? ⟨g144, 1, none⟩ = some (.slice Ax140 P1.length cx141) ∧ W.cell? ⟨g144, 2, none⟩ = some (.slice none 0 0) ∧ W.cell? ⟨g144, 3, none⟩ = some (.slice none 0 0) ∧ W.cell? ⟨g149, 0, none⟩ = some (.bool true) ∧ W.cell? ⟨g149, 1, none⟩ = some (.slice (some ad) P2.length cx146) ∧ W.cell? ⟨g149, 2, none⟩ = some (.slice none 0 0) ∧ W.cell? ⟨g149, 3, none⟩ = some (.slice none 0 0) ∧ W.cell? ad = some (.string kx)) w152 := ⟨BB.out, blk_cell T_n.out 0, blk_cell T_n.out 1, blk_cell T_n.out 2, blk_cell T_n.out 3, blk_cell T_b1.out 0, blk_cell T_b1.out 1, blk_cell T_b1.out 2, blk_cell T_b1.out 3, blk_cell T_b2.out 0, blk_cell T_b2.out 1, blk_cell T_b2.out 2, blk_cell T_b2.out 3, (by have := row48_cell R_p2.out hp2; rwa [EK.out] at this)⟩
      refine nd_take 10 hHeld ?_
      refine wpAnyH_done (by kernel_rfl) ?_ _
      clear hHeld
      go_wp2_with fail
      refine bodyPost_ret (results_ctct rfl _ _ (w.heap.size + 1) (w.heap.size + 2) 26 26 #[.bool true, .slice Ax140 P1.length cx141, .slice none 0 0, .slice none 0 0] #[.bool true, .slice (some ad) P2.length cx146, .slice none 0 0, .slice none 0 0] (0, 0) (0, 0) _ _ rfl T_r.out Try.underlying26 rfl (by kernel_rfl) rfl T_q.out Try.underlying26 rfl (by kernel_rfl)) rfl ?_
      exact ⟨_, _, _, _, _, _, rfl, R_p1.out, Kd.R_nil _ _ _ _ _, Kd.R_nil _ _ _ _ _, R_p2.out, Kd.R_nil _ _ _ _ _, Kd.R_nil _ _ _ _ _, BB.out⟩
def cisternref11_DocSplit.f (a : Bool) (l1 : List S48) (l2 : List ByteArray) (l3 : List Int) : Option SpR := some (splitV a l1 l2 l3)
theorem cisternref11_DocSplit.calls (a : Bool) (A1 : Option Addr) (c1 : Nat) (l1 : List S48) (A2 : Option Addr) (c2 : Nat) (l2 : List ByteArray) (A3 : Option Addr) (c3 : Nat) (l3 : List Int) (r1 : Bool) (r2 : List S48) (r3 : List ByteArray) (r4 : List Int) (rk : ByteArray) (s1 : Bool) (s2 : List S48) (s3 : List ByteArray) (s4 : List Int) (re : Int) (w : World) (hr1 : Kd.C k48 w A1 l1.length l1) (hc1 : l1.length ≤ c1) (hr2 : Kd.C Kd.string w A2 l2.length l2) (hc2 : l2.length ≤ c2) (hr3 : Kd.C (Kd.int .i64) w A3 l3.length l3) (hc3 : l3.length ≤ c3) (h : cisternref11_DocSplit.f a l1 l2 l3 = some (r1, r2, r3, r4, rk, s1, s2, s3, s4, re)) :
    Calls Try.prog 17 #[.agg #[.bool a, .slice A1 l1.length c1, .slice A2 l2.length c2, .slice A3 l3.length c3]] w fun e w' => ∃ v1_ v2_ v3_ u1_ u2_ u3_ : Value, e = .returned (.tuple #[.agg #[.bool r1, v1_, v2_, v3_], .string rk, .agg #[.bool s1, u1_, u2_, u3_], .int .i64 re]) ∧ Kd.R k48 48 w' w.heap.size (fun _ => True) v1_ r2 ∧ Kd.R Kd.string 9 w' w.heap.size (fun _ => True) v2_ r3 ∧ Kd.R (Kd.int .i64) 3 w' w.heap.size (fun _ => True) v3_ r4 ∧ Kd.R k48 48 w' w.heap.size (fun _ => True) u1_ s2 ∧ Kd.R Kd.string 9 w' w.heap.size (fun _ => True) u2_ s3 ∧ Kd.R (Kd.int .i64) 3 w' w.heap.size (fun _ => True) u3_ s4 ∧ Below w.heap.size w w' := by
  replace h := Option.some.inj h
  unfold splitV at h
  by_cases hf : (leafV a l1 l2 l3 || innerV a l1 l2 l3) = true
  · rw [if_pos hf] at h
    by_cases hm : (if a then l1.length < 2 else l3.length < 4)
    · rw [if_pos hm] at h
      cases h
      cases a
      · exact dsplit_few_false A1 c1 l1 A2 c2 l2 A3 c3 l3 w hr1 hc1 hr2 hc2 hr3 hc3 hf hm
      · exact dsplit_few_true A1 c1 l1 A2 c2 l2 A3 c3 l3 w hr1 hc1 hr2 hc2 hr3 hc3 hf hm
    · rw [if_neg hm] at h
      cases a
      · cases h
        exact dsplit_inner A1 c1 l1 A2 c2 l2 A3 c3 l3 w hr1 hc1 hr2 hc2 hr3 hc3 hf (by have : ¬ l3.length < 4 := hm; omega)
      · cases h
        exact dsplit_leaf A1 c1 l1 A2 c2 l2 A3 c3 l3 w hr1 hc1 hr2 hc2 hr3 hc3 hf (by have : ¬ l1.length < 2 := hm; omega)
  · rw [if_neg hf] at h
    cases h
    exact dsplit_bad a A1 c1 l1 A2 c2 l2 A3 c3 l3 w hr1 hc1 hr2 hc2 hr3 hc3 hf
end
end Go.Proofs.Ytjjfeoigjhbbpaa.PA
namespace Go.Proofs.Ytjjfeoigjhbbpaa.PA
section

open Go.RowKit Go.Proofs.YtjjfeoigjhbbpaaW.PrintWords Go.Proofs.YtjjfeoigjhbbpaaW.PrintLast Go.Proofs.YtjjfeoigjhbbpaaW.PrintMore
attribute [local go_sem] pr_leq pr_geq pr_gtr max2_int min2_int max_two min_two max_three min_three max_four min_four
set_option linter.unusedVariables false
set_option linter.unusedSimpArgs false
theorem split_len {a : Bool} {P : List S48} {K : List ByteArray} {D : List Int} {sb : Bool} {S1 : List S48} {S2 : List ByteArray} {S3 : List Int} {k : ByteArray} {tb : Bool} {T1 : List S48} {T2 : List ByteArray} {T3 : List Int} {e : Int} (h : splitV a P K D = (sb, S1, S2, S3, k, tb, T1, T2, T3, e)) : S1.length ≤ P.length ∧ S2.length ≤ K.length ∧ S3.length ≤ D.length ∧ T1.length ≤ P.length ∧ T2.length ≤ K.length ∧ T3.length ≤ D.length := by
  unfold splitV at h
  have z : (0 : Nat) ≤ P.length ∧ 0 ≤ K.length ∧ 0 ≤ D.length ∧ 0 ≤ P.length ∧ 0 ≤ K.length ∧ 0 ≤ D.length := ⟨Nat.zero_le _, Nat.zero_le _, Nat.zero_le _, Nat.zero_le _, Nat.zero_le _, Nat.zero_le _⟩
  by_cases hf : (leafV a P K D || innerV a P K D) = true
  · rw [if_pos hf] at h
    by_cases hm : (if a then P.length < 2 else D.length < 4)
    · rw [if_pos hm] at h
      cases h
      exact z
    · rw [if_neg hm] at h
      cases a
      · rw [if_neg (by decide)] at h
        cases h
        exact ⟨Nat.zero_le _, (List.take_sublist _ _).length_le, (List.take_sublist _ _).length_le, Nat.zero_le _, (List.drop_sublist _ _).length_le, (List.drop_sublist _ _).length_le⟩
      · rw [if_pos rfl] at h
        cases h
        exact ⟨(List.take_sublist _ _).length_le, Nat.zero_le _, Nat.zero_le _, (List.drop_sublist _ _).length_le, Nat.zero_le _, Nat.zero_le _⟩
  · rw [if_neg hf] at h
    cases h
    exact z
theorem merge_len {a : Bool} {P : List S48} {K : List ByteArray} {D : List Int} {k : ByteArray} {b : Bool} {P' : List S48} {K' : List ByteArray} {D' : List Int} {mb : Bool} {M1 : List S48} {M2 : List ByteArray} {M3 : List Int} {e : Int} (h : mergeV a P K D k b P' K' D' = (mb, M1, M2, M3, e)) : M1.length ≤ P.length + P'.length ∧ M2.length ≤ K.length + K'.length + 1 ∧ M3.length ≤ D.length + D'.length := by
  unfold mergeV at h
  split at h
  · cases h
    refine ⟨by rw [List.length_append]; omega, ?_, by rw [List.length_append]; omega⟩
    unfold mergeN
    split
    · exact Nat.zero_le _
    · rw [List.length_append, List.length_append, List.length_singleton]; omega
  · cases h; exact ⟨Nat.zero_le _, Nat.zero_le _, Nat.zero_le _⟩
set_option maxHeartbeats 4000000 in
set_option maxRecDepth 100000 in
theorem cisternlaw11_NodeHalves.walk (a : Bool) (A1 : Option Addr) (c1 : Nat) (l1 : List S48) (A2 : Option Addr) (c2 : Nat) (l2 : List ByteArray) (A3 : Option Addr) (c3 : Nat) (l3 : List Int) (key : ByteArray) (b : Bool) (B1 : Option Addr) (d1 : Nat) (m1 : List S48) (B2 : Option Addr) (d2 : Nat) (m2 : List ByteArray) (B3 : Option Addr) (d3 : Nat) (m3 : List Int) (w : World)
    (_wa0 : True ∧ (∀ x_ ∈ l1, (x_.f0.size ≤ maxLen) ∧ (x_.f1.size ≤ maxLen)) ∧ (∀ x_ ∈ l2, x_.size ≤ maxLen) ∧ (∀ x_ ∈ l3, (Lit.int .i64 x_).wf = true)) (hr1 : Kd.C k48 w A1 l1.length l1) (hc1 : l1.length ≤ c1) (y1 : l1.length * 32 ≤ 140737488351232) (hr2 : Kd.C Kd.string w A2 l2.length l2) (hc2 : l2.length ≤ c2) (y2 : l2.length * 16 ≤ 140737488351232) (hr3 : Kd.C (Kd.int .i64) w A3 l3.length l3) (hc3 : l3.length ≤ c3) (y3 : l3.length * 8 ≤ 140737488351232) (_wk : key.size ≤ 140737488351232) (_wb0 : True ∧ (∀ x_ ∈ m1, (x_.f0.size ≤ maxLen) ∧ (x_.f1.size ≤ maxLen)) ∧ (∀ x_ ∈ m2, x_.size ≤ maxLen) ∧ (∀ x_ ∈ m3, (Lit.int .i64 x_).wf = true)) (hs1 : Kd.C k48 w B1 m1.length m1) (hd1 : m1.length ≤ d1) (x1 : m1.length * 32 ≤ 140737488351232) (hs2 : Kd.C Kd.string w B2 m2.length m2) (hd2 : m2.length ≤ d2) (x2 : m2.length * 16 ≤ 140737488351232) (hs3 : Kd.C (Kd.int .i64) w B3 m3.length m3) (hd3 : m3.length ≤ d3) (x3 : m3.length * 8 ≤ 140737488351232) :
    Calls Try.prog 4 #[.agg #[.bool a, .slice A1 l1.length c1, .slice A2 l2.length c2, .slice A3 l3.length c3], .string key, .agg #[.bool b, .slice B1 m1.length d1, .slice B2 m2.length d2, .slice B3 m3.length d3]] w fun e w' => e = .returned (.bool true) ∧ Below w.heap.size w w' := by
  obtain ⟨KK, hK⟩ : ∃ K : Nat, K = 562949953421312 := ⟨_, rfl⟩
  have OF : Aside0 (cisternlaw11_of.f a l1 l2 l3 = some (a, l1, l2, l3)) := ⟨of_val a l1 l2 l3 y1 y2 y3⟩
  have OG : Aside0 (cisternlaw11_of.f b m1 m2 m3 = some (b, m1, m2, m3)) := ⟨of_val b m1 m2 m3 x1 x2 x3⟩
  obtain ⟨sb, S1, S2, S3, sk, tb, T1, T2, T3, se, hs⟩ : ∃ b x y z k b' x' y' z' e, splitV a l1 l2 l3 = (b, x, y, z, k, b', x', y', z', e) := ⟨_, _, _, _, _, _, _, _, _, _, rfl⟩
  obtain ⟨mb, M1, M2, M3, me, hm⟩ : ∃ r1 r2 r3 r4 r5, mergeV a l1 l2 l3 key b m1 m2 m3 = (r1, r2, r3, r4, r5) := ⟨_, _, _, _, _, rfl⟩
  have hsl := split_len hs
  have hml := merge_len hm
  have SSS : Aside0 (cisternref11_Same.f KK sb S1 S2 S3 sb S1 S2 S3 = some true) := ⟨same_self sb S1 S2 S3 (by omega) (by omega) (by omega) KK (by omega)⟩
  have SST : Aside0 (cisternref11_Same.f KK tb T1 T2 T3 tb T1 T2 T3 = some true) := ⟨same_self tb T1 T2 T3 (by omega) (by omega) (by omega) KK (by omega)⟩
  have SSM : Aside0 (cisternref11_Same.f KK mb M1 M2 M3 mb M1 M2 M3 = some true) := ⟨same_self mb M1 M2 M3 (by omega) (by omega) (by omega) KK (by omega)⟩
  have DV : Aside0 (cisternref11_DocSplit.f a l1 l2 l3 = some (sb, S1, S2, S3, sk, tb, T1, T2, T3, se)) := ⟨congrArg some hs⟩
  have SV : Aside0 (node_Split.f a l1 l2 l3 = some (sb, S1, S2, S3, sk, tb, T1, T2, T3, se)) := ⟨congrArg some hs⟩
  have DM : Aside0 (cisternref11_DocMerge.f a l1 l2 l3 key b m1 m2 m3 = some (mb, M1, M2, M3, me)) := ⟨congrArg some hm⟩
  have MV : Aside0 (node_Merge.f a l1 l2 l3 key b m1 m2 m3 = some (mb, M1, M2, M3, me)) := ⟨congrArg some hm⟩
  have HR1 := Aside0.mk hr1
  have HR2 := Aside0.mk hr2
  have HR3 := Aside0.mk hr3
  have HS1 := Aside0.mk hs1
  have HS2 := Aside0.mk hs2
  have HS3 := Aside0.mk hs3
  clear hs hm hsl hml hr1 hr2 hr3 hs1 hs2 hs3 y1 y2 y3 x1 x2 x3 _wa0 _wb0 _wk hK
  have BB0 := Below.refl w.heap.size w
  obtain ⟨wp0, hwp0⟩ : ∃ x, x = w.alloc (.cells #[.bool a, .slice A1 l1.length c1, .slice A2 l2.length c2, .slice A3 l3.length c3] 26) := ⟨_, rfl⟩
  have t_n := heap_alloc_new w (.cells #[.bool a, .slice A1 l1.length c1, .slice A2 l2.length c2, .slice A3 l3.length c3] 26)
  rw [← hwp0] at t_n
  have BB1 : Below w.heap.size w wp0 := by rw [hwp0]; exact below_alloc BB0 _
  have sz0 : wp0.heap.size = w.heap.size + 1 := by rw [hwp0]; simp
  obtain ⟨wp1, hwp1⟩ : ∃ x, x = wp0.alloc (.cells #[.bool b, .slice B1 m1.length d1, .slice B2 m2.length d2, .slice B3 m3.length d3] 26) := ⟨_, rfl⟩
  have t_m := heap_alloc_new wp0 (.cells #[.bool b, .slice B1 m1.length d1, .slice B2 m2.length d2, .slice B3 m3.length d3] 26)
  rw [← hwp1] at t_m
  rw [sz0] at t_m
  have BB2 : Below w.heap.size w wp1 := by rw [hwp1]; exact below_alloc BB1 _
  have sz1 : wp1.heap.size = w.heap.size + 2 := by rw [hwp1]; simp [sz0]
  replace t_n := (show wp1.heap[_]? = wp0.heap[_]? by rw [hwp1]; exact Lib.alloc_old wp0 (.cells #[.bool b, .slice B1 m1.length d1, .slice B2 m2.length d2, .slice B3 m3.length d3] 26) _ (blk_lt t_n)).trans t_n
  have HW0 : Aside0 (wp1 = ((w.alloc (.cells #[.bool a, .slice A1 l1.length c1, .slice A2 l2.length c2, .slice A3 l3.length c3] 26)).alloc (.cells #[.bool b, .slice B1 m1.length d1, .slice B2 m2.length d2, .slice B3 m3.length d3] 26))) := ⟨by rw [hwp1, hwp0]⟩
  have T_n := Aside0.mk t_n
  have T_m := Aside0.mk t_m
  have BB := Aside0.mk BB2
  have SZ0 := Aside0.mk sz1
  clear t_n t_m BB0 BB1 BB2 sz0 sz1 hwp0 hwp1
  go_enter Try.func4, Try.ntmps4
  go_wp2_with fail
  rw [← HW0.out]
  refine (cisternlaw11_known.calls true _ known_val).mono ?_
  rintro e w101 ⟨rfl, hB⟩
  replace T_n := bm hB T_n; replace T_m := bm hB T_m; replace BB := xm hB BB
  clear hB
  have c_n0 := bc T_n 0 rfl; have c_n1 := bc T_n 1 rfl; have c_n2 := bc T_n 2 rfl; have c_n3 := bc T_n 3 rfl
  go_wp2_with fail
  have BBo := BB
  refine (cisternref11_DocSplit.calls a A1 c1 l1 A2 c2 l2 A3 c3 l3 sb S1 S2 S3 sk tb T1 T2 T3 se _ (Kd.C_below HR1.out BB.out) hc1 (Kd.C_below HR2.out BB.out) hc2 (Kd.C_below HR3.out BB.out) hc3 DV.out).mono ?_
  rintro e w102 ⟨v1, v2, v3, u1, u2, u3, rfl, h1, h2, h3, h4, h5, h6, hB⟩
  replace T_n := bm hB T_n; replace T_m := bm hB T_m; replace BB := xm hB BB
  clear hB
  clear c_n0 c_n1 c_n2 c_n3
  obtain ⟨A103, c104, rfl⟩ := Kd.R_slice h1
  have R_p1 := Aside0.mk (Kd.R_lower h1 BBo.out.size)
  obtain ⟨A105, c106, rfl⟩ := Kd.R_slice h2
  have R_p2 := Aside0.mk (Kd.R_lower h2 BBo.out.size)
  obtain ⟨A107, c108, rfl⟩ := Kd.R_slice h3
  have R_p3 := Aside0.mk (Kd.R_lower h3 BBo.out.size)
  obtain ⟨A109, c110, rfl⟩ := Kd.R_slice h4
  have R_q1 := Aside0.mk (Kd.R_lower h4 BBo.out.size)
  obtain ⟨A111, c112, rfl⟩ := Kd.R_slice h5
  have R_q2 := Aside0.mk (Kd.R_lower h5 BBo.out.size)
  obtain ⟨A113, c114, rfl⟩ := Kd.R_slice h6
  have R_q3 := Aside0.mk (Kd.R_lower h6 BBo.out.size)
  clear BBo h1 h2 h3 h4 h5 h6
  go_upto_region 4 with fail
  have hsz : (w102.alloc (.cells #[.bool sb, .slice A103 (S1).length c104, .slice A105 (S2).length c106, .slice A107 (S3).length c108] 26)).heap.size = w102.heap.size + 1 := by simp
  obtain ⟨g116, hg116⟩ : ∃ n, n = w102.heap.size := ⟨_, rfl⟩
  obtain ⟨w115, hw115⟩ : ∃ x, x = w102.alloc (.cells #[.bool sb, .slice A103 (S1).length c104, .slice A105 (S2).length c106, .slice A107 (S3).length c108] 26) := ⟨_, rfl⟩
  have tn := heap_alloc_new w102 (.cells #[.bool sb, .slice A103 (S1).length c104, .slice A105 (S2).length c106, .slice A107 (S3).length c108] 26)
  have hB := below_alloc (Below.refl w102.heap.size w102) (.cells #[.bool sb, .slice A103 (S1).length c104, .slice A105 (S2).length c106, .slice A107 (S3).length c108] 26)
  rw [← hw115] at tn hB
  rw [← hg116] at tn
  have GBB_a : Aside0 (w.heap.size ≤ g116) := ⟨by rw [hg116]; exact BB.out.size⟩
  have NE_a_n : Aside0 (w.heap.size ≠ g116) := ⟨by have := blk_lt T_n.out; omega⟩
  have NE_a_m : Aside0 ((w.heap.size + 1) ≠ g116) := ⟨by have := blk_lt T_m.out; omega⟩
  rw [← hw115, ← hg116] at hsz
  replace T_n := bm hB T_n; replace T_m := bm hB T_m; replace R_p1 := rm hB R_p1; replace R_p2 := rm hB R_p2; replace R_p3 := rm hB R_p3; replace R_q1 := rm hB R_q1; replace R_q2 := rm hB R_q2; replace R_q3 := rm hB R_q3; replace BB := xm hB BB
  have T_a := Aside0.mk tn
  clear tn hB
  rw [← hw115]
  try rw [← hg116]
  clear hw115 hg116
  rw [← hsz]
  clear hsz
  obtain ⟨g118, hg118⟩ : ∃ n, n = w115.heap.size := ⟨_, rfl⟩
  obtain ⟨w117, hw117⟩ : ∃ x, x = w115.alloc (.cells #[.bool tb, .slice A109 (T1).length c110, .slice A111 (T2).length c112, .slice A113 (T3).length c114] 26) := ⟨_, rfl⟩
  have tn := heap_alloc_new w115 (.cells #[.bool tb, .slice A109 (T1).length c110, .slice A111 (T2).length c112, .slice A113 (T3).length c114] 26)
  have hB := below_alloc (Below.refl w115.heap.size w115) (.cells #[.bool tb, .slice A109 (T1).length c110, .slice A111 (T2).length c112, .slice A113 (T3).length c114] 26)
  rw [← hw117] at tn hB
  rw [← hg118] at tn
  have GBB_b : Aside0 (w.heap.size ≤ g118) := ⟨by rw [hg118]; exact BB.out.size⟩
  have NE_b_n : Aside0 (w.heap.size ≠ g118) := ⟨by have := blk_lt T_n.out; omega⟩
  have NE_b_m : Aside0 ((w.heap.size + 1) ≠ g118) := ⟨by have := blk_lt T_m.out; omega⟩
  have NE_b_a : Aside0 (g116 ≠ g118) := ⟨by have := blk_lt T_a.out; omega⟩
  replace T_n := bm hB T_n; replace T_m := bm hB T_m; replace T_a := bm hB T_a; replace R_p1 := rm hB R_p1; replace R_p2 := rm hB R_p2; replace R_p3 := rm hB R_p3; replace R_q1 := rm hB R_q1; replace R_q2 := rm hB R_q2; replace R_q3 := rm hB R_q3; replace BB := xm hB BB
  have T_b := Aside0.mk tn
  clear tn hB
  rw [← hw117]
  try rw [← hg118]
  clear hw117 hg118
  have c_n0 := bc T_n 0 rfl; have c_n1 := bc T_n 1 rfl; have c_n2 := bc T_n 2 rfl; have c_n3 := bc T_n 3 rfl
  go_wp2_with fail
  have BBo := BB
  refine (cisternlaw11_of.calls a A1 c1 l1 A2 c2 l2 A3 c3 l3 a l1 l2 l3 _ (Kd.C_below HR1.out BB.out) hc1 (Kd.C_below HR2.out BB.out) hc2 (Kd.C_below HR3.out BB.out) hc3 OF.out).mono ?_
  rintro e w119 ⟨v1, v2, v3, rfl, h1, h2, h3, hB⟩
  replace T_n := bm hB T_n; replace T_m := bm hB T_m; replace T_a := bm hB T_a; replace T_b := bm hB T_b; replace R_p1 := rm hB R_p1; replace R_p2 := rm hB R_p2; replace R_p3 := rm hB R_p3; replace R_q1 := rm hB R_q1; replace R_q2 := rm hB R_q2; replace R_q3 := rm hB R_q3; replace BB := xm hB BB
  clear hB
  clear c_n0 c_n1 c_n2 c_n3
  obtain ⟨A120, c121, rfl⟩ := Kd.R_slice h1
  have R_o1 := Aside0.mk (Kd.R_lower h1 BBo.out.size)
  obtain ⟨A122, c123, rfl⟩ := Kd.R_slice h2
  have R_o2 := Aside0.mk (Kd.R_lower h2 BBo.out.size)
  obtain ⟨A124, c125, rfl⟩ := Kd.R_slice h3
  have R_o3 := Aside0.mk (Kd.R_lower h3 BBo.out.size)
  clear BBo h1 h2 h3
  go_wp2_with fail
  have BBo := BB
  refine (node_Split.calls a A120 c121 l1 A122 c123 l2 A124 c125 l3 sb S1 S2 S3 sk tb T1 T2 T3 se _ (Kd.R_reads' R_o1.out).2.2 (Kd.R_reads' R_o1.out).2.1 (Kd.R_reads' R_o2.out).2.2 (Kd.R_reads' R_o2.out).2.1 (Kd.R_reads' R_o3.out).2.2 (Kd.R_reads' R_o3.out).2.1 SV.out).mono ?_
  rintro e w126 ⟨v1, v2, v3, u1, u2, u3, rfl, h1, h2, h3, h4, h5, h6, hB⟩
  replace T_n := bm hB T_n; replace T_m := bm hB T_m; replace T_a := bm hB T_a; replace T_b := bm hB T_b; replace R_p1 := rm hB R_p1; replace R_p2 := rm hB R_p2; replace R_p3 := rm hB R_p3; replace R_q1 := rm hB R_q1; replace R_q2 := rm hB R_q2; replace R_q3 := rm hB R_q3; replace R_o1 := rm hB R_o1; replace R_o2 := rm hB R_o2; replace R_o3 := rm hB R_o3; replace BB := xm hB BB
  clear hB
  clear R_o1 R_o2 R_o3
  obtain ⟨A127, c128, rfl⟩ := Kd.R_slice h1
  have R_c1 := Aside0.mk (Kd.R_lower h1 BBo.out.size)
  obtain ⟨A129, c130, rfl⟩ := Kd.R_slice h2
  have R_c2 := Aside0.mk (Kd.R_lower h2 BBo.out.size)
  obtain ⟨A131, c132, rfl⟩ := Kd.R_slice h3
  have R_c3 := Aside0.mk (Kd.R_lower h3 BBo.out.size)
  obtain ⟨A133, c134, rfl⟩ := Kd.R_slice h4
  have R_d1 := Aside0.mk (Kd.R_lower h4 BBo.out.size)
  obtain ⟨A135, c136, rfl⟩ := Kd.R_slice h5
  have R_d2 := Aside0.mk (Kd.R_lower h5 BBo.out.size)
  obtain ⟨A137, c138, rfl⟩ := Kd.R_slice h6
  have R_d3 := Aside0.mk (Kd.R_lower h6 BBo.out.size)
  clear BBo h1 h2 h3 h4 h5 h6
  go_upto_region 5 with fail
  have hsz : (w126.alloc (.cells #[.bool sb, .slice A127 (S1).length c128, .slice A129 (S2).length c130, .slice A131 (S3).length c132] 31)).heap.size = w126.heap.size + 1 := by simp
  obtain ⟨g140, hg140⟩ : ∃ n, n = w126.heap.size := ⟨_, rfl⟩
  obtain ⟨w139, hw139⟩ : ∃ x, x = w126.alloc (.cells #[.bool sb, .slice A127 (S1).length c128, .slice A129 (S2).length c130, .slice A131 (S3).length c132] 31) := ⟨_, rfl⟩
  have tn := heap_alloc_new w126 (.cells #[.bool sb, .slice A127 (S1).length c128, .slice A129 (S2).length c130, .slice A131 (S3).length c132] 31)
  have hB := below_alloc (Below.refl w126.heap.size w126) (.cells #[.bool sb, .slice A127 (S1).length c128, .slice A129 (S2).length c130, .slice A131 (S3).length c132] 31)
  rw [← hw139] at tn hB
  rw [← hg140] at tn
  have GBB_c : Aside0 (w.heap.size ≤ g140) := ⟨by rw [hg140]; exact BB.out.size⟩
  have NE_c_n : Aside0 (w.heap.size ≠ g140) := ⟨by have := blk_lt T_n.out; omega⟩
  have NE_c_m : Aside0 ((w.heap.size + 1) ≠ g140) := ⟨by have := blk_lt T_m.out; omega⟩
  have NE_c_a : Aside0 (g116 ≠ g140) := ⟨by have := blk_lt T_a.out; omega⟩
  have NE_c_b : Aside0 (g118 ≠ g140) := ⟨by have := blk_lt T_b.out; omega⟩
  rw [← hw139, ← hg140] at hsz
  replace T_n := bm hB T_n; replace T_m := bm hB T_m; replace T_a := bm hB T_a; replace T_b := bm hB T_b; replace R_p1 := rm hB R_p1; replace R_p2 := rm hB R_p2; replace R_p3 := rm hB R_p3; replace R_q1 := rm hB R_q1; replace R_q2 := rm hB R_q2; replace R_q3 := rm hB R_q3; replace R_c1 := rm hB R_c1; replace R_c2 := rm hB R_c2; replace R_c3 := rm hB R_c3; replace R_d1 := rm hB R_d1; replace R_d2 := rm hB R_d2; replace R_d3 := rm hB R_d3; replace BB := xm hB BB
  have T_c := Aside0.mk tn
  clear tn hB
  rw [← hw139]
  try rw [← hg140]
  clear hw139 hg140
  rw [← hsz]
  clear hsz
  obtain ⟨g142, hg142⟩ : ∃ n, n = w139.heap.size := ⟨_, rfl⟩
  obtain ⟨w141, hw141⟩ : ∃ x, x = w139.alloc (.cells #[.bool tb, .slice A133 (T1).length c134, .slice A135 (T2).length c136, .slice A137 (T3).length c138] 31) := ⟨_, rfl⟩
  have tn := heap_alloc_new w139 (.cells #[.bool tb, .slice A133 (T1).length c134, .slice A135 (T2).length c136, .slice A137 (T3).length c138] 31)
  have hB := below_alloc (Below.refl w139.heap.size w139) (.cells #[.bool tb, .slice A133 (T1).length c134, .slice A135 (T2).length c136, .slice A137 (T3).length c138] 31)
  rw [← hw141] at tn hB
  rw [← hg142] at tn
  have GBB_d : Aside0 (w.heap.size ≤ g142) := ⟨by rw [hg142]; exact BB.out.size⟩
  have NE_d_n : Aside0 (w.heap.size ≠ g142) := ⟨by have := blk_lt T_n.out; omega⟩
  have NE_d_m : Aside0 ((w.heap.size + 1) ≠ g142) := ⟨by have := blk_lt T_m.out; omega⟩
  have NE_d_a : Aside0 (g116 ≠ g142) := ⟨by have := blk_lt T_a.out; omega⟩
  have NE_d_b : Aside0 (g118 ≠ g142) := ⟨by have := blk_lt T_b.out; omega⟩
  have NE_d_c : Aside0 (g140 ≠ g142) := ⟨by have := blk_lt T_c.out; omega⟩
  replace T_n := bm hB T_n; replace T_m := bm hB T_m; replace T_a := bm hB T_a; replace T_b := bm hB T_b; replace T_c := bm hB T_c; replace R_p1 := rm hB R_p1; replace R_p2 := rm hB R_p2; replace R_p3 := rm hB R_p3; replace R_q1 := rm hB R_q1; replace R_q2 := rm hB R_q2; replace R_q3 := rm hB R_q3; replace R_c1 := rm hB R_c1; replace R_c2 := rm hB R_c2; replace R_c3 := rm hB R_c3; replace R_d1 := rm hB R_d1; replace R_d2 := rm hB R_d2; replace R_d3 := rm hB R_d3; replace BB := xm hB BB
  have T_d := Aside0.mk tn
  clear tn hB
  rw [← hw141]
  try rw [← hg142]
  clear hw141 hg142
  have c_a0 := bc T_a 0 rfl; have c_a1 := bc T_a 1 rfl; have c_a2 := bc T_a 2 rfl; have c_a3 := bc T_a 3 rfl
  have c_b0 := bc T_b 0 rfl; have c_b1 := bc T_b 1 rfl; have c_b2 := bc T_b 2 rfl; have c_b3 := bc T_b 3 rfl
  have c_c0 := bc T_c 0 rfl; have c_c1 := bc T_c 1 rfl; have c_c2 := bc T_c 2 rfl; have c_c3 := bc T_c 3 rfl
  have c_d0 := bc T_d 0 rfl; have c_d1 := bc T_d 1 rfl; have c_d2 := bc T_d 2 rfl; have c_d3 := bc T_d 3 rfl
  have MK : Aside0 (∀ W, Below w141.heap.size w141 W → Below w141.heap.size w141 W ∧ W.cell? ⟨g116, 0, none⟩ = some (.bool sb) ∧ W.cell? ⟨g116, 1, none⟩ = some (.slice A103 (S1).length c104) ∧ W.cell? ⟨g116, 2, none⟩ = some (.slice A105 (S2).length c106) ∧ W.cell? ⟨g116, 3, none⟩ = some (.slice A107 (S3).length c108) ∧ W.cell? ⟨g118, 0, none⟩ = some (.bool tb) ∧ W.cell? ⟨g118, 1, none⟩ = some (.slice A109 (T1).length c110) ∧ W.cell? ⟨g118, 2, none⟩ = some (.slice A111 (T2).length c112) ∧ W.cell? ⟨g118, 3, none⟩ = some (.slice A113 (T3).length c114) ∧ W.cell? ⟨g140, 0, none⟩ = some (.bool sb) ∧ W.cell? ⟨g140, 1, none⟩ = some (.slice A127 (S1).length c128) ∧ W.cell? ⟨g140, 2, none⟩ = some (.slice A129 (S2).length c130) ∧ W.cell? ⟨g140, 3, none⟩ = some (.slice A131 (S3).length c132) ∧ W.cell? ⟨g142, 0, none⟩ = some (.bool tb) ∧ W.cell? ⟨g142, 1, none⟩ = some (.slice A133 (T1).length c134) ∧ W.cell? ⟨g142, 2, none⟩ = some (.slice A135 (T2).length c136) ∧ W.cell? ⟨g142, 3, none⟩ = some (.slice A137 (T3).length c138)) := ⟨fun W hb => ⟨hb, nd_cell hb c_a0, nd_cell hb c_a1, nd_cell hb c_a2, nd_cell hb c_a3, nd_cell hb c_b0, nd_cell hb c_b1, nd_cell hb c_b2, nd_cell hb c_b3, nd_cell hb c_c0, nd_cell hb c_c1, nd_cell hb c_c2, nd_cell hb c_c3, nd_cell hb c_d0, nd_cell hb c_d1, nd_cell hb c_d2, nd_cell hb c_d3⟩⟩
  clear c_a0 c_a1 c_a2 c_a3 c_b0 c_b1 c_b2 c_b3 c_c0 c_c1 c_c2 c_c3 c_d0 c_d1 c_d2 c_d3
  have SB := Aside0.mk (Below.refl w141.heap.size w141)
  refine wp_region_held_drew (S := fun W => Below w141.heap.size w141 W ∧ W.cell? ⟨g116, 0, none⟩ = some (.bool sb) ∧ W.cell? ⟨g116, 1, none⟩ = some (.slice A103 (S1).length c104) ∧ W.cell? ⟨g116, 2, none⟩ = some (.slice A105 (S2).length c106) ∧ W.cell? ⟨g116, 3, none⟩ = some (.slice A107 (S3).length c108) ∧ W.cell? ⟨g118, 0, none⟩ = some (.bool tb) ∧ W.cell? ⟨g118, 1, none⟩ = some (.slice A109 (T1).length c110) ∧ W.cell? ⟨g118, 2, none⟩ = some (.slice A111 (T2).length c112) ∧ W.cell? ⟨g118, 3, none⟩ = some (.slice A113 (T3).length c114) ∧ W.cell? ⟨g140, 0, none⟩ = some (.bool sb) ∧ W.cell? ⟨g140, 1, none⟩ = some (.slice A127 (S1).length c128) ∧ W.cell? ⟨g140, 2, none⟩ = some (.slice A129 (S2).length c130) ∧ W.cell? ⟨g140, 3, none⟩ = some (.slice A131 (S3).length c132) ∧ W.cell? ⟨g142, 0, none⟩ = some (.bool tb) ∧ W.cell? ⟨g142, 1, none⟩ = some (.slice A133 (T1).length c134) ∧ W.cell? ⟨g142, 2, none⟩ = some (.slice A135 (T2).length c136) ∧ W.cell? ⟨g142, 3, none⟩ = some (.slice A137 (T3).length c138)) (by kernel_rfl) ?_ (fun hHeld => ?_)
  · try dsimp only
    exact MK.out _ (Below.drew (Below.refl _ _))
  have hB : Below w141.heap.size w141 w141.drew := below_drew1 (Below.refl _ _)
  clear hHeld
  obtain ⟨w143, hw143⟩ : ∃ x, x = w141.drew := ⟨_, rfl⟩
  rw [← hw143] at hB ⊢
  clear hw143
  replace T_n := bm hB T_n; replace T_m := bm hB T_m; replace T_a := bm hB T_a; replace T_b := bm hB T_b; replace T_c := bm hB T_c; replace T_d := bm hB T_d; replace R_p1 := rm hB R_p1; replace R_p2 := rm hB R_p2; replace R_p3 := rm hB R_p3; replace R_q1 := rm hB R_q1; replace R_q2 := rm hB R_q2; replace R_q3 := rm hB R_q3; replace R_c1 := rm hB R_c1; replace R_c2 := rm hB R_c2; replace R_c3 := rm hB R_c3; replace R_d1 := rm hB R_d1; replace R_d2 := rm hB R_d2; replace R_d3 := rm hB R_d3; replace BB := xm hB BB; replace SB := xm hB SB
  clear hB
  have hHeld := MK.out _ SB.out
  refine nd_take 0 hHeld ?_
  refine nd_take 1 hHeld ?_
  refine wpAnyH_ready (rs := [2]) (by kernel_rfl) (by simp) ?_
  refine (AllReadyH.cons rfl (fun K hK => ?_) AllReadyH.nil)
  go_simp
  refine (backW sb A127 _ c128 A129 _ c130 A131 _ c132 _).mono ?_
  rintro e w144 ⟨rfl, hB⟩
  replace T_n := bm hB T_n; replace T_m := bm hB T_m; replace T_a := bm hB T_a; replace T_b := bm hB T_b; replace T_c := bm hB T_c; replace T_d := bm hB T_d; replace R_p1 := rm hB R_p1; replace R_p2 := rm hB R_p2; replace R_p3 := rm hB R_p3; replace R_q1 := rm hB R_q1; replace R_q2 := rm hB R_q2; replace R_q3 := rm hB R_q3; replace R_c1 := rm hB R_c1; replace R_c2 := rm hB R_c2; replace R_c3 := rm hB R_c3; replace R_d1 := rm hB R_d1; replace R_d2 := rm hB R_d2; replace R_d3 := rm hB R_d3; replace BB := xm hB BB; replace SB := xm hB SB
  clear hB
  go_simp
  refine hK.out _ _ ?_ (fun hNew => ?_)
  · try dsimp only
    exact MK.out _ SB.out
  clear hK K hHeld hNew
  have hHeld := MK.out _ SB.out
  refine wpAnyH_ready (rs := [3]) (by kernel_rfl) (by simp) ?_
  refine (AllReadyH.cons rfl (fun K hK => ?_) AllReadyH.nil)
  go_simp
  refine (cisternref11_Same.calls KK sb A103 c104 S1 A105 c106 S2 A107 c108 S3 sb A127 c128 S1 A129 c130 S2 A131 c132 S3 true _ (Kd.R_reads' R_p1.out).2.2 (Kd.R_reads' R_p1.out).2.1 (Kd.R_reads' R_p2.out).2.2 (Kd.R_reads' R_p2.out).2.1 (Kd.R_reads' R_p3.out).2.2 (Kd.R_reads' R_p3.out).2.1 (Kd.R_reads' R_c1.out).2.2 (Kd.R_reads' R_c1.out).2.1 (Kd.R_reads' R_c2.out).2.2 (Kd.R_reads' R_c2.out).2.1 (Kd.R_reads' R_c3.out).2.2 (Kd.R_reads' R_c3.out).2.1 SSS.out).mono ?_
  rintro e w145 ⟨rfl, hB⟩
  replace T_n := bm hB T_n; replace T_m := bm hB T_m; replace T_a := bm hB T_a; replace T_b := bm hB T_b; replace T_c := bm hB T_c; replace T_d := bm hB T_d; replace R_p1 := rm hB R_p1; replace R_p2 := rm hB R_p2; replace R_p3 := rm hB R_p3; replace R_q1 := rm hB R_q1; replace R_q2 := rm hB R_q2; replace R_q3 := rm hB R_q3; replace R_c1 := rm hB R_c1; replace R_c2 := rm hB R_c2; replace R_c3 := rm hB R_c3; replace R_d1 := rm hB R_d1; replace R_d2 := rm hB R_d2; replace R_d3 := rm hB R_d3; replace BB := xm hB BB; replace SB := xm hB SB
  clear hB
  go_simp
  refine hK.out _ _ ?_ (fun hNew => ?_)
  · try dsimp only
    exact MK.out _ SB.out
  clear hK K hHeld hNew
  have hHeld := MK.out _ SB.out
  refine nd_take 4 hHeld ?_
  refine nd_take 5 hHeld ?_
  refine nd_take 6 hHeld ?_
  refine nd_take 7 hHeld ?_
  refine wpAnyH_ready (rs := [8]) (by kernel_rfl) (by simp) ?_
  refine (AllReadyH.cons rfl (fun K hK => ?_) AllReadyH.nil)
  go_simp
  refine (backW tb A133 _ c134 A135 _ c136 A137 _ c138 _).mono ?_
  rintro e w146 ⟨rfl, hB⟩
  replace T_n := bm hB T_n; replace T_m := bm hB T_m; replace T_a := bm hB T_a; replace T_b := bm hB T_b; replace T_c := bm hB T_c; replace T_d := bm hB T_d; replace R_p1 := rm hB R_p1; replace R_p2 := rm hB R_p2; replace R_p3 := rm hB R_p3; replace R_q1 := rm hB R_q1; replace R_q2 := rm hB R_q2; replace R_q3 := rm hB R_q3; replace R_c1 := rm hB R_c1; replace R_c2 := rm hB R_c2; replace R_c3 := rm hB R_c3; replace R_d1 := rm hB R_d1; replace R_d2 := rm hB R_d2; replace R_d3 := rm hB R_d3; replace BB := xm hB BB; replace SB := xm hB SB
  clear hB
  go_simp
  refine hK.out _ _ ?_ (fun hNew => ?_)
  · try dsimp only
    exact MK.out _ SB.out
  clear hK K hHeld hNew
  have hHeld := MK.out _ SB.out
  refine wpAnyH_ready (rs := [9]) (by kernel_rfl) (by simp) ?_
  refine (AllReadyH.cons rfl (fun K hK => ?_) AllReadyH.nil)
  go_simp
  refine (cisternref11_Same.calls KK tb A109 c110 T1 A111 c112 T2 A113 c114 T3 tb A133 c134 T1 A135 c136 T2 A137 c138 T3 true _ (Kd.R_reads' R_q1.out).2.2 (Kd.R_reads' R_q1.out).2.1 (Kd.R_reads' R_q2.out).2.2 (Kd.R_reads' R_q2.out).2.1 (Kd.R_reads' R_q3.out).2.2 (Kd.R_reads' R_q3.out).2.1 (Kd.R_reads' R_d1.out).2.2 (Kd.R_reads' R_d1.out).2.1 (Kd.R_reads' R_d2.out).2.2 (Kd.R_reads' R_d2.out).2.1 (Kd.R_reads' R_d3.out).2.2 (Kd.R_reads' R_d3.out).2.1 SST.out).mono ?_
  rintro e w147 ⟨rfl, hB⟩
  replace T_n := bm hB T_n; replace T_m := bm hB T_m; replace T_a := bm hB T_a; replace T_b := bm hB T_b; replace T_c := bm hB T_c; replace T_d := bm hB T_d; replace R_p1 := rm hB R_p1; replace R_p2 := rm hB R_p2; replace R_p3 := rm hB R_p3; replace R_q1 := rm hB R_q1; replace R_q2 := rm hB R_q2; replace R_q3 := rm hB R_q3; replace R_c1 := rm hB R_c1; replace R_c2 := rm hB R_c2; replace R_c3 := rm hB R_c3; replace R_d1 := rm hB R_d1; replace R_d2 := rm hB R_d2; replace R_d3 := rm hB R_d3; replace BB := xm hB BB; replace SB := xm hB SB
  clear hB
  go_simp
  refine hK.out _ _ ?_ (fun hNew => ?_)
  · try dsimp only
    exact MK.out _ SB.out
  clear hK K hHeld hNew
  have hHeld := MK.out _ SB.out
  refine nd_take 10 hHeld ?_
  refine nd_take 11 hHeld ?_
  refine nd_take 12 hHeld ?_
  refine nd_take 13 hHeld ?_
  refine nd_take 14 hHeld ?_
  refine nd_take 15 hHeld ?_
  refine nd_take 16 hHeld ?_
  refine nd_take 17 hHeld ?_
  refine nd_take 18 hHeld ?_
  refine nd_take 19 hHeld ?_
  refine nd_take 20 hHeld ?_
  refine nd_take 21 hHeld ?_
  refine wpAnyH_done (by kernel_rfl) ?_ _
  clear hHeld MK
  clear SB
  clear R_p1 R_p2 R_p3 R_q1 R_q2 R_q3 R_c1 R_c2 R_c3 R_d1 R_d2 R_d3
  have c_n0 := bc T_n 0 rfl; have c_n1 := bc T_n 1 rfl; have c_n2 := bc T_n 2 rfl; have c_n3 := bc T_n 3 rfl
  have c_m0 := bc T_m 0 rfl; have c_m1 := bc T_m 1 rfl; have c_m2 := bc T_m 2 rfl; have c_m3 := bc T_m 3 rfl
  go_wp2_with fail
  have BBo := BB
  refine (cisternref11_DocMerge.calls a A1 c1 l1 A2 c2 l2 A3 c3 l3 key b B1 d1 m1 B2 d2 m2 B3 d3 m3 mb M1 M2 M3 me _ (Kd.C_below HR1.out BB.out) hc1 (Kd.C_below HR2.out BB.out) hc2 (Kd.C_below HR3.out BB.out) hc3 (Kd.C_below HS1.out BB.out) hd1 (Kd.C_below HS2.out BB.out) hd2 (Kd.C_below HS3.out BB.out) hd3 DM.out).mono ?_
  rintro e w148 ⟨v1, v2, v3, rfl, h1, h2, h3, hB⟩
  replace T_n := bm hB T_n; replace T_m := bm hB T_m; replace T_a := bm hB T_a; replace T_b := bm hB T_b; replace T_c := bm hB T_c; replace T_d := bm hB T_d; replace BB := xm hB BB
  clear hB
  clear c_n0 c_n1 c_n2 c_n3 c_m0 c_m1 c_m2 c_m3
  obtain ⟨A149, c150, rfl⟩ := Kd.R_slice h1
  have R_x1 := Aside0.mk (Kd.R_lower h1 BBo.out.size)
  obtain ⟨A151, c152, rfl⟩ := Kd.R_slice h2
  have R_x2 := Aside0.mk (Kd.R_lower h2 BBo.out.size)
  obtain ⟨A153, c154, rfl⟩ := Kd.R_slice h3
  have R_x3 := Aside0.mk (Kd.R_lower h3 BBo.out.size)
  clear BBo h1 h2 h3
  have c_a0 := bc T_a 0 rfl; have f_a0 := bf T_a 0; have c_a1 := bc T_a 1 rfl; have f_a1 := bf T_a 1; have c_a2 := bc T_a 2 rfl; have f_a2 := bf T_a 2; have c_a3 := bc T_a 3 rfl; have f_a3 := bf T_a 3
  go_upto_region 8 with fail
  clear c_a0 f_a0 c_a1 f_a1 c_a2 f_a2 c_a3 f_a3
  have hg := nd_grown4 w148 (g116) (.bool mb) (.slice A149 (M1).length c150) (.slice A151 (M2).length c152) (.slice A153 (M3).length c154)
  have tn := nd_put4 w148 (g116) 26 _ _ _ _ (.bool mb) (.slice A149 (M1).length c150) (.slice A151 (M2).length c152) (.slice A153 (M3).length c154) T_a.out
  obtain ⟨w155, hw155⟩ : ∃ x, x = ((((w148.setCell ⟨g116, 0, none⟩ (.bool mb)).setCell ⟨g116, 1, none⟩ (.slice A149 (M1).length c150)).setCell ⟨g116, 2, none⟩ (.slice A151 (M2).length c152)).setCell ⟨g116, 3, none⟩ (.slice A153 (M3).length c154)) := ⟨_, rfl⟩
  rw [← hw155] at hg tn
  rw [← hw155]
  clear hw155
  replace R_x1 := rg hg T_a R_x1 (by decide)
  replace R_x2 := rg hg T_a R_x2 (by decide)
  replace R_x3 := rg hg T_a R_x3 (by decide)
  replace T_n := bg hg T_n NE_a_n.out
  replace T_m := bg hg T_m NE_a_m.out
  replace T_b := bg hg T_b (fun e => NE_b_a.out e.symm)
  replace T_c := bg hg T_c (fun e => NE_c_a.out e.symm)
  replace T_d := bg hg T_d (fun e => NE_d_a.out e.symm)
  replace BB := Aside0.mk (nd_grown_below hg BB.out BB.out.size GBB_a.out)
  replace T_a := Aside0.mk tn
  clear tn hg
  have hB : Below w155.heap.size w155 w155.drew := below_drew1 (Below.refl _ _)
  refine wp_region_held_drew (S := fun W => Below w.heap.size w W ∧ W.cell? ⟨w.heap.size, 0, none⟩ = some (.bool a) ∧ W.cell? ⟨w.heap.size, 1, none⟩ = some (.slice A1 l1.length c1) ∧ W.cell? ⟨w.heap.size, 2, none⟩ = some (.slice A2 l2.length c2) ∧ W.cell? ⟨w.heap.size, 3, none⟩ = some (.slice A3 l3.length c3) ∧ W.cell? ⟨(w.heap.size + 1), 0, none⟩ = some (.bool b) ∧ W.cell? ⟨(w.heap.size + 1), 1, none⟩ = some (.slice B1 m1.length d1) ∧ W.cell? ⟨(w.heap.size + 1), 2, none⟩ = some (.slice B2 m2.length d2) ∧ W.cell? ⟨(w.heap.size + 1), 3, none⟩ = some (.slice B3 m3.length d3)) (by kernel_rfl) ?_ (fun hHeld => ?_)
  · try dsimp only
    have BB' := BB.out.trans (hB.mono BB.out.size)
    exact ⟨BB', nd_cell hB (blk_cell T_n.out 0), nd_cell hB (blk_cell T_n.out 1), nd_cell hB (blk_cell T_n.out 2), nd_cell hB (blk_cell T_n.out 3), nd_cell hB (blk_cell T_m.out 0), nd_cell hB (blk_cell T_m.out 1), nd_cell hB (blk_cell T_m.out 2), nd_cell hB (blk_cell T_m.out 3)⟩
  clear hHeld
  obtain ⟨w156, hw156⟩ : ∃ x, x = w155.drew := ⟨_, rfl⟩
  rw [← hw156] at hB ⊢
  clear hw156
  replace T_n := bm hB T_n; replace T_m := bm hB T_m; replace T_a := bm hB T_a; replace T_b := bm hB T_b; replace T_c := bm hB T_c; replace T_d := bm hB T_d; replace R_x1 := rm hB R_x1; replace R_x2 := rm hB R_x2; replace R_x3 := rm hB R_x3; replace BB := xm hB BB
  clear hB
  have hHeld : (fun W => Below w.heap.size w W ∧ W.cell? ⟨w.heap.size, 0, none⟩ = some (.bool a) ∧ W.cell? ⟨w.heap.size, 1, none⟩ = some (.slice A1 l1.length c1) ∧ W.cell? ⟨w.heap.size, 2, none⟩ = some (.slice A2 l2.length c2) ∧ W.cell? ⟨w.heap.size, 3, none⟩ = some (.slice A3 l3.length c3) ∧ W.cell? ⟨(w.heap.size + 1), 0, none⟩ = some (.bool b) ∧ W.cell? ⟨(w.heap.size + 1), 1, none⟩ = some (.slice B1 m1.length d1) ∧ W.cell? ⟨(w.heap.size + 1), 2, none⟩ = some (.slice B2 m2.length d2) ∧ W.cell? ⟨(w.heap.size + 1), 3, none⟩ = some (.slice B3 m3.length d3)) w156 := ⟨BB.out, blk_cell T_n.out 0, blk_cell T_n.out 1, blk_cell T_n.out 2, blk_cell T_n.out 3, blk_cell T_m.out 0, blk_cell T_m.out 1, blk_cell T_m.out 2, blk_cell T_m.out 3⟩
  refine nd_take 0 hHeld ?_
  refine nd_take 2 hHeld ?_
  refine nd_take 3 hHeld ?_
  refine wpAnyH_ready (rs := [1]) (by kernel_rfl) (by simp) ?_
  refine (AllReadyH.cons rfl (fun K hK => ?_) AllReadyH.nil)
  have BBo := BB
  go_simp
  refine (cisternlaw11_of.calls a A1 c1 l1 A2 c2 l2 A3 c3 l3 a l1 l2 l3 _ (Kd.C_below HR1.out BB.out) hc1 (Kd.C_below HR2.out BB.out) hc2 (Kd.C_below HR3.out BB.out) hc3 OF.out).mono ?_
  rintro e w157 ⟨v1, v2, v3, rfl, h1, h2, h3, hB⟩
  replace T_n := bm hB T_n; replace T_m := bm hB T_m; replace T_a := bm hB T_a; replace T_b := bm hB T_b; replace T_c := bm hB T_c; replace T_d := bm hB T_d; replace R_x1 := rm hB R_x1; replace R_x2 := rm hB R_x2; replace R_x3 := rm hB R_x3; replace BB := xm hB BB
  clear hB
  obtain ⟨A158, c159, rfl⟩ := Kd.R_slice h1
  have R_u1 := Aside0.mk (Kd.R_lower h1 BBo.out.size)
  obtain ⟨A160, c161, rfl⟩ := Kd.R_slice h2
  have R_u2 := Aside0.mk (Kd.R_lower h2 BBo.out.size)
  obtain ⟨A162, c163, rfl⟩ := Kd.R_slice h3
  have R_u3 := Aside0.mk (Kd.R_lower h3 BBo.out.size)
  clear BBo h1 h2 h3
  go_simp
  refine hK.out _ _ ?_ (fun hNew => ?_)
  · try dsimp only
    exact ⟨BB.out, blk_cell T_n.out 0, blk_cell T_n.out 1, blk_cell T_n.out 2, blk_cell T_n.out 3, blk_cell T_m.out 0, blk_cell T_m.out 1, blk_cell T_m.out 2, blk_cell T_m.out 3⟩
  clear hK K hHeld hNew
  have hHeld : (fun W => Below w.heap.size w W ∧ W.cell? ⟨w.heap.size, 0, none⟩ = some (.bool a) ∧ W.cell? ⟨w.heap.size, 1, none⟩ = some (.slice A1 l1.length c1) ∧ W.cell? ⟨w.heap.size, 2, none⟩ = some (.slice A2 l2.length c2) ∧ W.cell? ⟨w.heap.size, 3, none⟩ = some (.slice A3 l3.length c3) ∧ W.cell? ⟨(w.heap.size + 1), 0, none⟩ = some (.bool b) ∧ W.cell? ⟨(w.heap.size + 1), 1, none⟩ = some (.slice B1 m1.length d1) ∧ W.cell? ⟨(w.heap.size + 1), 2, none⟩ = some (.slice B2 m2.length d2) ∧ W.cell? ⟨(w.heap.size + 1), 3, none⟩ = some (.slice B3 m3.length d3)) w157 := ⟨BB.out, blk_cell T_n.out 0, blk_cell T_n.out 1, blk_cell T_n.out 2, blk_cell T_n.out 3, blk_cell T_m.out 0, blk_cell T_m.out 1, blk_cell T_m.out 2, blk_cell T_m.out 3⟩
  refine wpAnyH_ready (rs := [4]) (by kernel_rfl) (by simp) ?_
  refine (AllReadyH.cons rfl (fun K hK => ?_) AllReadyH.nil)
  have BBo := BB
  go_simp
  refine (cisternlaw11_of.calls b B1 d1 m1 B2 d2 m2 B3 d3 m3 b m1 m2 m3 _ (Kd.C_below HS1.out BB.out) hd1 (Kd.C_below HS2.out BB.out) hd2 (Kd.C_below HS3.out BB.out) hd3 OG.out).mono ?_
  rintro e w164 ⟨v1, v2, v3, rfl, h1, h2, h3, hB⟩
  replace T_n := bm hB T_n; replace T_m := bm hB T_m; replace T_a := bm hB T_a; replace T_b := bm hB T_b; replace T_c := bm hB T_c; replace T_d := bm hB T_d; replace R_x1 := rm hB R_x1; replace R_x2 := rm hB R_x2; replace R_x3 := rm hB R_x3; replace R_u1 := rm hB R_u1; replace R_u2 := rm hB R_u2; replace R_u3 := rm hB R_u3; replace BB := xm hB BB
  clear hB
  obtain ⟨A165, c166, rfl⟩ := Kd.R_slice h1
  have R_v1 := Aside0.mk (Kd.R_lower h1 BBo.out.size)
  obtain ⟨A167, c168, rfl⟩ := Kd.R_slice h2
  have R_v2 := Aside0.mk (Kd.R_lower h2 BBo.out.size)
  obtain ⟨A169, c170, rfl⟩ := Kd.R_slice h3
  have R_v3 := Aside0.mk (Kd.R_lower h3 BBo.out.size)
  clear BBo h1 h2 h3
  go_simp
  refine hK.out _ _ ?_ (fun hNew => ?_)
  · try dsimp only
    exact ⟨BB.out, blk_cell T_n.out 0, blk_cell T_n.out 1, blk_cell T_n.out 2, blk_cell T_n.out 3, blk_cell T_m.out 0, blk_cell T_m.out 1, blk_cell T_m.out 2, blk_cell T_m.out 3⟩
  clear hK K hHeld hNew
  have hHeld : (fun W => Below w.heap.size w W ∧ W.cell? ⟨w.heap.size, 0, none⟩ = some (.bool a) ∧ W.cell? ⟨w.heap.size, 1, none⟩ = some (.slice A1 l1.length c1) ∧ W.cell? ⟨w.heap.size, 2, none⟩ = some (.slice A2 l2.length c2) ∧ W.cell? ⟨w.heap.size, 3, none⟩ = some (.slice A3 l3.length c3) ∧ W.cell? ⟨(w.heap.size + 1), 0, none⟩ = some (.bool b) ∧ W.cell? ⟨(w.heap.size + 1), 1, none⟩ = some (.slice B1 m1.length d1) ∧ W.cell? ⟨(w.heap.size + 1), 2, none⟩ = some (.slice B2 m2.length d2) ∧ W.cell? ⟨(w.heap.size + 1), 3, none⟩ = some (.slice B3 m3.length d3)) w164 := ⟨BB.out, blk_cell T_n.out 0, blk_cell T_n.out 1, blk_cell T_n.out 2, blk_cell T_n.out 3, blk_cell T_m.out 0, blk_cell T_m.out 1, blk_cell T_m.out 2, blk_cell T_m.out 3⟩
  refine wpAnyH_ready (rs := [5]) (by kernel_rfl) (by simp) ?_
  refine (AllReadyH.cons rfl (fun K hK => ?_) AllReadyH.nil)
  have BBo := BB
  go_simp
  refine (node_Merge.calls a A158 c159 l1 A160 c161 l2 A162 c163 l3 key b A165 c166 m1 A167 c168 m2 A169 c170 m3 mb M1 M2 M3 me _ (Kd.R_reads' R_u1.out).2.2 (Kd.R_reads' R_u1.out).2.1 (Kd.R_reads' R_u2.out).2.2 (Kd.R_reads' R_u2.out).2.1 (Kd.R_reads' R_u3.out).2.2 (Kd.R_reads' R_u3.out).2.1 (Kd.R_reads' R_v1.out).2.2 (Kd.R_reads' R_v1.out).2.1 (Kd.R_reads' R_v2.out).2.2 (Kd.R_reads' R_v2.out).2.1 (Kd.R_reads' R_v3.out).2.2 (Kd.R_reads' R_v3.out).2.1 MV.out).mono ?_
  rintro e w171 ⟨v1, v2, v3, rfl, h1, h2, h3, hB⟩
  replace T_n := bm hB T_n; replace T_m := bm hB T_m; replace T_a := bm hB T_a; replace T_b := bm hB T_b; replace T_c := bm hB T_c; replace T_d := bm hB T_d; replace R_x1 := rm hB R_x1; replace R_x2 := rm hB R_x2; replace R_x3 := rm hB R_x3; replace R_u1 := rm hB R_u1; replace R_u2 := rm hB R_u2; replace R_u3 := rm hB R_u3; replace R_v1 := rm hB R_v1; replace R_v2 := rm hB R_v2; replace R_v3 := rm hB R_v3; replace BB := xm hB BB
  clear hB
  obtain ⟨A172, c173, rfl⟩ := Kd.R_slice h1
  have R_m1 := Aside0.mk (Kd.R_lower h1 BBo.out.size)
  obtain ⟨A174, c175, rfl⟩ := Kd.R_slice h2
  have R_m2 := Aside0.mk (Kd.R_lower h2 BBo.out.size)
  obtain ⟨A176, c177, rfl⟩ := Kd.R_slice h3
  have R_m3 := Aside0.mk (Kd.R_lower h3 BBo.out.size)
  clear BBo h1 h2 h3
  go_simp
  refine hK.out _ _ ?_ (fun hNew => ?_)
  · try dsimp only
    exact ⟨BB.out, blk_cell T_n.out 0, blk_cell T_n.out 1, blk_cell T_n.out 2, blk_cell T_n.out 3, blk_cell T_m.out 0, blk_cell T_m.out 1, blk_cell T_m.out 2, blk_cell T_m.out 3⟩
  clear hK K hHeld hNew
  have hHeld : (fun W => Below w.heap.size w W ∧ W.cell? ⟨w.heap.size, 0, none⟩ = some (.bool a) ∧ W.cell? ⟨w.heap.size, 1, none⟩ = some (.slice A1 l1.length c1) ∧ W.cell? ⟨w.heap.size, 2, none⟩ = some (.slice A2 l2.length c2) ∧ W.cell? ⟨w.heap.size, 3, none⟩ = some (.slice A3 l3.length c3) ∧ W.cell? ⟨(w.heap.size + 1), 0, none⟩ = some (.bool b) ∧ W.cell? ⟨(w.heap.size + 1), 1, none⟩ = some (.slice B1 m1.length d1) ∧ W.cell? ⟨(w.heap.size + 1), 2, none⟩ = some (.slice B2 m2.length d2) ∧ W.cell? ⟨(w.heap.size + 1), 3, none⟩ = some (.slice B3 m3.length d3)) w171 := ⟨BB.out, blk_cell T_n.out 0, blk_cell T_n.out 1, blk_cell T_n.out 2, blk_cell T_n.out 3, blk_cell T_m.out 0, blk_cell T_m.out 1, blk_cell T_m.out 2, blk_cell T_m.out 3⟩
  refine nd_take 6 hHeld ?_
  refine nd_take 7 hHeld ?_
  refine nd_take 8 hHeld ?_
  refine wpAnyH_ready (rs := [9]) (by kernel_rfl) (by simp) ?_
  refine (AllReadyH.cons rfl (fun K hK => ?_) AllReadyH.nil)
  have c_c0 := bc T_c 0 rfl; have f_c0 := bf T_c 0; have c_c1 := bc T_c 1 rfl; have f_c1 := bf T_c 1; have c_c2 := bc T_c 2 rfl; have f_c2 := bf T_c 2; have c_c3 := bc T_c 3 rfl; have f_c3 := bf T_c 3
  go_simp
  clear c_c0 f_c0 c_c1 f_c1 c_c2 f_c2 c_c3 f_c3
  have hg := nd_grown4 w171 (g140) (.bool mb) (.slice A172 (M1).length c173) (.slice A174 (M2).length c175) (.slice A176 (M3).length c177)
  have tn := nd_put4 w171 (g140) 31 _ _ _ _ (.bool mb) (.slice A172 (M1).length c173) (.slice A174 (M2).length c175) (.slice A176 (M3).length c177) T_c.out
  obtain ⟨w178, hw178⟩ : ∃ x, x = ((((w171.setCell ⟨g140, 0, none⟩ (.bool mb)).setCell ⟨g140, 1, none⟩ (.slice A172 (M1).length c173)).setCell ⟨g140, 2, none⟩ (.slice A174 (M2).length c175)).setCell ⟨g140, 3, none⟩ (.slice A176 (M3).length c177)) := ⟨_, rfl⟩
  rw [← hw178] at hg tn
  rw [← hw178]
  clear hw178
  replace R_x1 := rg hg T_c R_x1 (by decide)
  replace R_x2 := rg hg T_c R_x2 (by decide)
  replace R_x3 := rg hg T_c R_x3 (by decide)
  replace R_u1 := rg hg T_c R_u1 (by decide)
  replace R_u2 := rg hg T_c R_u2 (by decide)
  replace R_u3 := rg hg T_c R_u3 (by decide)
  replace R_v1 := rg hg T_c R_v1 (by decide)
  replace R_v2 := rg hg T_c R_v2 (by decide)
  replace R_v3 := rg hg T_c R_v3 (by decide)
  replace R_m1 := rg hg T_c R_m1 (by decide)
  replace R_m2 := rg hg T_c R_m2 (by decide)
  replace R_m3 := rg hg T_c R_m3 (by decide)
  replace T_n := bg hg T_n NE_c_n.out
  replace T_m := bg hg T_m NE_c_m.out
  replace T_a := bg hg T_a NE_c_a.out
  replace T_b := bg hg T_b NE_c_b.out
  replace T_d := bg hg T_d (fun e => NE_d_c.out e.symm)
  replace BB := Aside0.mk (nd_grown_below hg BB.out BB.out.size GBB_c.out)
  replace T_c := Aside0.mk tn
  clear tn hg
  refine hK.out _ _ ?_ (fun hNew => ?_)
  · try dsimp only
    exact ⟨BB.out, blk_cell T_n.out 0, blk_cell T_n.out 1, blk_cell T_n.out 2, blk_cell T_n.out 3, blk_cell T_m.out 0, blk_cell T_m.out 1, blk_cell T_m.out 2, blk_cell T_m.out 3⟩
  clear hK K hHeld hNew
  have hHeld : (fun W => Below w.heap.size w W ∧ W.cell? ⟨w.heap.size, 0, none⟩ = some (.bool a) ∧ W.cell? ⟨w.heap.size, 1, none⟩ = some (.slice A1 l1.length c1) ∧ W.cell? ⟨w.heap.size, 2, none⟩ = some (.slice A2 l2.length c2) ∧ W.cell? ⟨w.heap.size, 3, none⟩ = some (.slice A3 l3.length c3) ∧ W.cell? ⟨(w.heap.size + 1), 0, none⟩ = some (.bool b) ∧ W.cell? ⟨(w.heap.size + 1), 1, none⟩ = some (.slice B1 m1.length d1) ∧ W.cell? ⟨(w.heap.size + 1), 2, none⟩ = some (.slice B2 m2.length d2) ∧ W.cell? ⟨(w.heap.size + 1), 3, none⟩ = some (.slice B3 m3.length d3)) w178 := ⟨BB.out, blk_cell T_n.out 0, blk_cell T_n.out 1, blk_cell T_n.out 2, blk_cell T_n.out 3, blk_cell T_m.out 0, blk_cell T_m.out 1, blk_cell T_m.out 2, blk_cell T_m.out 3⟩
  refine nd_take 10 hHeld ?_
  refine wpAnyH_done (by kernel_rfl) ?_ _
  clear hHeld
  clear R_u1 R_u2 R_u3 R_v1 R_v2 R_v3
  have c_a0 := bc T_a 0 rfl; have c_a1 := bc T_a 1 rfl; have c_a2 := bc T_a 2 rfl; have c_a3 := bc T_a 3 rfl
  have c_c0 := bc T_c 0 rfl; have c_c1 := bc T_c 1 rfl; have c_c2 := bc T_c 2 rfl; have c_c3 := bc T_c 3 rfl
  go_upto_region 9 with fail
  have MK : Aside0 (∀ W, Below w178.heap.size w178 W → Below w178.heap.size w178 W ∧ W.cell? ⟨g116, 0, none⟩ = some (.bool mb) ∧ W.cell? ⟨g116, 1, none⟩ = some (.slice A149 (M1).length c150) ∧ W.cell? ⟨g116, 2, none⟩ = some (.slice A151 (M2).length c152) ∧ W.cell? ⟨g116, 3, none⟩ = some (.slice A153 (M3).length c154) ∧ W.cell? ⟨g140, 0, none⟩ = some (.bool mb) ∧ W.cell? ⟨g140, 1, none⟩ = some (.slice A172 (M1).length c173) ∧ W.cell? ⟨g140, 2, none⟩ = some (.slice A174 (M2).length c175) ∧ W.cell? ⟨g140, 3, none⟩ = some (.slice A176 (M3).length c177)) := ⟨fun W hb => ⟨hb, nd_cell hb c_a0, nd_cell hb c_a1, nd_cell hb c_a2, nd_cell hb c_a3, nd_cell hb c_c0, nd_cell hb c_c1, nd_cell hb c_c2, nd_cell hb c_c3⟩⟩
  clear c_a0 c_a1 c_a2 c_a3 c_c0 c_c1 c_c2 c_c3
  have SB := Aside0.mk (Below.refl w178.heap.size w178)
  refine wp_region_held_drew (S := fun W => Below w178.heap.size w178 W ∧ W.cell? ⟨g116, 0, none⟩ = some (.bool mb) ∧ W.cell? ⟨g116, 1, none⟩ = some (.slice A149 (M1).length c150) ∧ W.cell? ⟨g116, 2, none⟩ = some (.slice A151 (M2).length c152) ∧ W.cell? ⟨g116, 3, none⟩ = some (.slice A153 (M3).length c154) ∧ W.cell? ⟨g140, 0, none⟩ = some (.bool mb) ∧ W.cell? ⟨g140, 1, none⟩ = some (.slice A172 (M1).length c173) ∧ W.cell? ⟨g140, 2, none⟩ = some (.slice A174 (M2).length c175) ∧ W.cell? ⟨g140, 3, none⟩ = some (.slice A176 (M3).length c177)) (by kernel_rfl) ?_ (fun hHeld => ?_)
  · try dsimp only
    exact MK.out _ (Below.drew (Below.refl _ _))
  have hB : Below w178.heap.size w178 w178.drew := below_drew1 (Below.refl _ _)
  clear hHeld
  obtain ⟨w179, hw179⟩ : ∃ x, x = w178.drew := ⟨_, rfl⟩
  rw [← hw179] at hB ⊢
  clear hw179
  replace T_n := bm hB T_n; replace T_m := bm hB T_m; replace T_a := bm hB T_a; replace T_b := bm hB T_b; replace T_c := bm hB T_c; replace T_d := bm hB T_d; replace R_x1 := rm hB R_x1; replace R_x2 := rm hB R_x2; replace R_x3 := rm hB R_x3; replace R_m1 := rm hB R_m1; replace R_m2 := rm hB R_m2; replace R_m3 := rm hB R_m3; replace BB := xm hB BB; replace SB := xm hB SB
  clear hB
  have hHeld := MK.out _ SB.out
  refine nd_take 0 hHeld ?_
  refine nd_take 1 hHeld ?_
  refine wpAnyH_ready (rs := [2]) (by kernel_rfl) (by simp) ?_
  refine (AllReadyH.cons rfl (fun K hK => ?_) AllReadyH.nil)
  go_simp
  refine (backW mb A172 _ c173 A174 _ c175 A176 _ c177 _).mono ?_
  rintro e w180 ⟨rfl, hB⟩
  replace T_n := bm hB T_n; replace T_m := bm hB T_m; replace T_a := bm hB T_a; replace T_b := bm hB T_b; replace T_c := bm hB T_c; replace T_d := bm hB T_d; replace R_x1 := rm hB R_x1; replace R_x2 := rm hB R_x2; replace R_x3 := rm hB R_x3; replace R_m1 := rm hB R_m1; replace R_m2 := rm hB R_m2; replace R_m3 := rm hB R_m3; replace BB := xm hB BB; replace SB := xm hB SB
  clear hB
  go_simp
  refine hK.out _ _ ?_ (fun hNew => ?_)
  · try dsimp only
    exact MK.out _ SB.out
  clear hK K hHeld hNew
  have hHeld := MK.out _ SB.out
  refine wpAnyH_ready (rs := [3]) (by kernel_rfl) (by simp) ?_
  refine (AllReadyH.cons rfl (fun K hK => ?_) AllReadyH.nil)
  go_simp
  refine (cisternref11_Same.calls KK mb A149 c150 M1 A151 c152 M2 A153 c154 M3 mb A172 c173 M1 A174 c175 M2 A176 c177 M3 true _ (Kd.R_reads' R_x1.out).2.2 (Kd.R_reads' R_x1.out).2.1 (Kd.R_reads' R_x2.out).2.2 (Kd.R_reads' R_x2.out).2.1 (Kd.R_reads' R_x3.out).2.2 (Kd.R_reads' R_x3.out).2.1 (Kd.R_reads' R_m1.out).2.2 (Kd.R_reads' R_m1.out).2.1 (Kd.R_reads' R_m2.out).2.2 (Kd.R_reads' R_m2.out).2.1 (Kd.R_reads' R_m3.out).2.2 (Kd.R_reads' R_m3.out).2.1 SSM.out).mono ?_
  rintro e w181 ⟨rfl, hB⟩
  replace T_n := bm hB T_n; replace T_m := bm hB T_m; replace T_a := bm hB T_a; replace T_b := bm hB T_b; replace T_c := bm hB T_c; replace T_d := bm hB T_d; replace R_x1 := rm hB R_x1; replace R_x2 := rm hB R_x2; replace R_x3 := rm hB R_x3; replace R_m1 := rm hB R_m1; replace R_m2 := rm hB R_m2; replace R_m3 := rm hB R_m3; replace BB := xm hB BB; replace SB := xm hB SB
  clear hB
  go_simp
  refine hK.out _ _ ?_ (fun hNew => ?_)
  · try dsimp only
    exact MK.out _ SB.out
  clear hK K hHeld hNew
  have hHeld := MK.out _ SB.out
  refine nd_take 4 hHeld ?_
  refine nd_take 5 hHeld ?_
  refine nd_take 6 hHeld ?_
  refine nd_take 7 hHeld ?_
  refine nd_take 8 hHeld ?_
  refine nd_take 9 hHeld ?_
  refine wpAnyH_done (by kernel_rfl) ?_ _
  clear hHeld MK
  clear SB
  go_wp2_with fail
  go_ret
  exact ⟨rfl, BB.out⟩
end
end Go.Proofs.Ytjjfeoigjhbbpaa.PA
