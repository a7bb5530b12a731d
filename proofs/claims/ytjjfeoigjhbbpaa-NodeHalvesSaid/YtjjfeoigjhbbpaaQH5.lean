/- Texts of this claim: contracts of the functions that the statement reaches, and plain laws of what they compute. -/
import Derived.Test.YtjjfeoigjhbbpaaQH4
set_option linter.unusedVariables false
set_option linter.unusedSimpArgs false
namespace Go.Proofs.Ytjjfeoigjhbbpaa.PA
section

open Go.RowKit Go.Proofs.YtjjfeoigjhbbpaaW.PrintWords Go.Proofs.YtjjfeoigjhbbpaaW.PrintLast Go.Proofs.YtjjfeoigjhbbpaaW.PrintMore
attribute [local go_sem] pr_leq pr_geq pr_gtr max2_int min2_int max_two min_two max_three min_three max_four min_four
set_option linter.unusedVariables false
set_option linter.unusedSimpArgs false
set_option maxHeartbeats 4000000 in
set_option maxRecDepth 100000 in
theorem dmerge_bad1 (a : Bool) (A1 : Option Addr) (c1 : Nat) (l1 : List S48) (A2 : Option Addr) (c2 : Nat) (l2 : List ByteArray) (A3 : Option Addr) (c3 : Nat) (l3 : List Int) (k : ByteArray) (b : Bool) (B1 : Option Addr) (d1 : Nat) (m1 : List S48) (B2 : Option Addr) (d2 : Nat) (m2 : List ByteArray) (B3 : Option Addr) (d3 : Nat) (m3 : List Int) (w : World) (hr1 : Kd.C k48 w A1 l1.length l1) (hc1 : l1.length ≤ c1) (hr2 : Kd.C Kd.string w A2 l2.length l2) (hc2 : l2.length ≤ c2) (hr3 : Kd.C (Kd.int .i64) w A3 l3.length l3) (hc3 : l3.length ≤ c3) (hs1 : Kd.C k48 w B1 m1.length m1) (hd1 : m1.length ≤ d1) (hs2 : Kd.C Kd.string w B2 m2.length m2) (hd2 : m2.length ≤ d2) (hs3 : Kd.C (Kd.int .i64) w B3 m3.length m3) (hd3 : m3.length ≤ d3) (hfa : ¬ (leafV a l1 l2 l3 || innerV a l1 l2 l3) = true) :
    Calls Try.prog 21 #[.agg #[.bool a, .slice A1 l1.length c1, .slice A2 l2.length c2, .slice A3 l3.length c3], .string k, .agg #[.bool b, .slice B1 m1.length d1, .slice B2 m2.length d2, .slice B3 m3.length d3]] w fun e w' => ∃ v1_ v2_ v3_ : Value, e = .returned (.tuple #[.agg #[.bool false, v1_, v2_, v3_], .int .i64 2]) ∧ Kd.R k48 48 w' w.heap.size (fun _ => True) v1_ ([] : List S48) ∧ Kd.R Kd.string 9 w' w.heap.size (fun _ => True) v2_ ([] : List ByteArray) ∧ Kd.R (Kd.int .i64) 3 w' w.heap.size (fun _ => True) v3_ ([] : List Int) ∧ Below w.heap.size w w' := by
  have CK := Aside0.mk (fun W hw => cisternref11_Right.calls a A1 c1 l1 A2 c2 l2 A3 c3 l3 false W (Kd.C_below hr1 hw) hc1 (Kd.C_below hr2 hw) hc2 (Kd.C_below hr3 hw) hc3 (by rw [right_val, Bool.eq_false_iff.2 hfa]))
  have HR1 := Aside0.mk hr1
  have HR2 := Aside0.mk hr2
  have HR3 := Aside0.mk hr3
  have HS1 := Aside0.mk hs1
  have HS2 := Aside0.mk hs2
  have HS3 := Aside0.mk hs3
  clear hr1 hr2 hr3 hs1 hs2 hs3
  clear hfa
  have BB0 := Below.refl w.heap.size w
  obtain ⟨wp0, hwp0⟩ : ∃ x, x = w.alloc (.cells #[.bool a, .slice A1 l1.length c1, .slice A2 l2.length c2, .slice A3 l3.length c3] 26) := ⟨_, rfl⟩
  have t_n := heap_alloc_new w (.cells #[.bool a, .slice A1 l1.length c1, .slice A2 l2.length c2, .slice A3 l3.length c3] 26)
  rw [← hwp0] at t_n
  have BB1 : Below w.heap.size w wp0 := by rw [hwp0]; exact below_alloc BB0 _
  have sz0 : wp0.heap.size = w.heap.size + 1 := by rw [hwp0]; simp
  obtain ⟨wp1, hwp1⟩ : ∃ x, x = wp0.alloc (.cells #[.bool b, .slice B1 m1.length d1, .slice B2 m2.length d2, .slice B3 m3.length d3] 26) := ⟨_, rfl⟩
  have t_m := heap_alloc_new wp0 (.cells #[.bool b, .slice B1 m1.length d1, .slice B2 m2.length d2, .slice B3 m3.length d3] 26)
  rw [← hwp1] at t_m
  rw [sz0] at t_m
  have BB2 : Below w.heap.size w wp1 := by rw [hwp1]; exact below_alloc BB1 _
  have sz1 : wp1.heap.size = w.heap.size + 2 := by rw [hwp1]; simp [sz0]
  replace t_n := (show wp1.heap[_]? = wp0.heap[_]? by rw [hwp1]; exact Lib.alloc_old wp0 (.cells #[.bool b, .slice B1 m1.length d1, .slice B2 m2.length d2, .slice B3 m3.length d3] 26) _ (blk_lt t_n)).trans t_n
  obtain ⟨wp2, hwp2⟩ : ∃ x, x = wp1.alloc (.cells #[.bool false, .slice none 0 0, .slice none 0 0, .slice none 0 0] 26) := ⟨_, rfl⟩
  have t_r := heap_alloc_new wp1 (.cells #[.bool false, .slice none 0 0, .slice none 0 0, .slice none 0 0] 26)
  rw [← hwp2] at t_r
  rw [sz1] at t_r
  have BB3 : Below w.heap.size w wp2 := by rw [hwp2]; exact below_alloc BB2 _
  have sz2 : wp2.heap.size = w.heap.size + 3 := by rw [hwp2]; simp [sz1]
  replace t_n := (show wp2.heap[_]? = wp1.heap[_]? by rw [hwp2]; exact Lib.alloc_old wp1 (.cells #[.bool false, .slice none 0 0, .slice none 0 0, .slice none 0 0] 26) _ (blk_lt t_n)).trans t_n
  replace t_m := (show wp2.heap[_]? = wp1.heap[_]? by rw [hwp2]; exact Lib.alloc_old wp1 (.cells #[.bool false, .slice none 0 0, .slice none 0 0, .slice none 0 0] 26) _ (blk_lt t_m)).trans t_m
  have HW0 : Aside0 (wp2 = (((w.alloc (.cells #[.bool a, .slice A1 l1.length c1, .slice A2 l2.length c2, .slice A3 l3.length c3] 26)).alloc (.cells #[.bool b, .slice B1 m1.length d1, .slice B2 m2.length d2, .slice B3 m3.length d3] 26)).alloc (.cells #[.bool false, .slice none 0 0, .slice none 0 0, .slice none 0 0] 26))) := ⟨by rw [hwp2, hwp1, hwp0]⟩
  have T_n := Aside0.mk t_n
  have T_m := Aside0.mk t_m
  have T_r := Aside0.mk t_r
  have BB := Aside0.mk BB3
  have SZ0 := Aside0.mk sz2
  clear t_n t_m t_r BB0 BB1 BB2 BB3 sz0 sz1 sz2 hwp0 hwp1 hwp2
  go_enter Try.func21, Try.ntmps21
  have c_n0 := bc T_n 0 rfl; have c_n1 := bc T_n 1 rfl; have c_n2 := bc T_n 2 rfl; have c_n3 := bc T_n 3 rfl
  have c_m0 := bc T_m 0 rfl; have c_m1 := bc T_m 1 rfl; have c_m2 := bc T_m 2 rfl; have c_m3 := bc T_m 3 rfl
  go_wp2_with fail
  rw [← HW0.out]
  refine (CK.out _ BB.out).mono ?_
  rintro e w1 ⟨rfl, hB⟩
  replace T_n := bm hB T_n; replace T_m := bm hB T_m; replace T_r := bm hB T_r; replace BB := xm hB BB
  clear hB
  clear c_n0 c_n1 c_n2 c_n3 c_m0 c_m1 c_m2 c_m3
  have c_r0 := bc T_r 0 rfl; have f_r0 := bf T_r 0; have c_r1 := bc T_r 1 rfl; have f_r1 := bf T_r 1; have c_r2 := bc T_r 2 rfl; have f_r2 := bf T_r 2; have c_r3 := bc T_r 3 rfl; have f_r3 := bf T_r 3
  go_wp2_with fail
  clear c_r0 f_r0 c_r1 f_r1 c_r2 f_r2 c_r3 f_r3
  have hg := nd_grown4 w1 (w.heap.size + 2) (.bool false) (.slice none 0 0) (.slice none 0 0) (.slice none 0 0)
  have tn := nd_put4 w1 (w.heap.size + 2) 26 _ _ _ _ (.bool false) (.slice none 0 0) (.slice none 0 0) (.slice none 0 0) T_r.out
  obtain ⟨w2, hw2⟩ : ∃ x, x = ((((w1.setCell ⟨(w.heap.size + 2), 0, none⟩ (.bool false)).setCell ⟨(w.heap.size + 2), 1, none⟩ (.slice none 0 0)).setCell ⟨(w.heap.size + 2), 2, none⟩ (.slice none 0 0)).setCell ⟨(w.heap.size + 2), 3, none⟩ (.slice none 0 0)) := ⟨_, rfl⟩
  rw [← hw2] at hg tn
  rw [← hw2]
  clear hw2
  replace T_n := bg hg T_n (by omega)
  replace T_m := bg hg T_m (by omega)
  replace BB := Aside0.mk (nd_grown_below hg BB.out BB.out.size (by omega))
  replace T_r := Aside0.mk tn
  clear tn hg
  refine bodyPost_ret (results_ct rfl _ _ (w.heap.size + 2) 26 #[.bool false, .slice none 0 0, .slice none 0 0, .slice none 0 0] (0, 0) _ rfl T_r.out Try.underlying26 rfl (by kernel_rfl)) rfl ?_
  exact ⟨_, _, _, rfl, Kd.R_nil _ _ _ _ _, Kd.R_nil _ _ _ _ _, Kd.R_nil _ _ _ _ _, BB.out⟩
set_option maxHeartbeats 4000000 in
set_option maxRecDepth 100000 in
theorem dmerge_bad2 (a : Bool) (A1 : Option Addr) (c1 : Nat) (l1 : List S48) (A2 : Option Addr) (c2 : Nat) (l2 : List ByteArray) (A3 : Option Addr) (c3 : Nat) (l3 : List Int) (k : ByteArray) (b : Bool) (B1 : Option Addr) (d1 : Nat) (m1 : List S48) (B2 : Option Addr) (d2 : Nat) (m2 : List ByteArray) (B3 : Option Addr) (d3 : Nat) (m3 : List Int) (w : World) (hr1 : Kd.C k48 w A1 l1.length l1) (hc1 : l1.length ≤ c1) (hr2 : Kd.C Kd.string w A2 l2.length l2) (hc2 : l2.length ≤ c2) (hr3 : Kd.C (Kd.int .i64) w A3 l3.length l3) (hc3 : l3.length ≤ c3) (hs1 : Kd.C k48 w B1 m1.length m1) (hd1 : m1.length ≤ d1) (hs2 : Kd.C Kd.string w B2 m2.length m2) (hd2 : m2.length ≤ d2) (hs3 : Kd.C (Kd.int .i64) w B3 m3.length m3) (hd3 : m3.length ≤ d3) (hfa : (leafV a l1 l2 l3 || innerV a l1 l2 l3) = true) (hfb : ¬ (leafV b m1 m2 m3 || innerV b m1 m2 m3) = true) :
    Calls Try.prog 21 #[.agg #[.bool a, .slice A1 l1.length c1, .slice A2 l2.length c2, .slice A3 l3.length c3], .string k, .agg #[.bool b, .slice B1 m1.length d1, .slice B2 m2.length d2, .slice B3 m3.length d3]] w fun e w' => ∃ v1_ v2_ v3_ : Value, e = .returned (.tuple #[.agg #[.bool false, v1_, v2_, v3_], .int .i64 2]) ∧ Kd.R k48 48 w' w.heap.size (fun _ => True) v1_ ([] : List S48) ∧ Kd.R Kd.string 9 w' w.heap.size (fun _ => True) v2_ ([] : List ByteArray) ∧ Kd.R (Kd.int .i64) 3 w' w.heap.size (fun _ => True) v3_ ([] : List Int) ∧ Below w.heap.size w w' := by
  have CK := Aside0.mk (fun W hw => cisternref11_Right.calls a A1 c1 l1 A2 c2 l2 A3 c3 l3 true W (Kd.C_below hr1 hw) hc1 (Kd.C_below hr2 hw) hc2 (Kd.C_below hr3 hw) hc3 (by rw [right_val, hfa]))
  have CKb := Aside0.mk (fun W hw => cisternref11_Right.calls b B1 d1 m1 B2 d2 m2 B3 d3 m3 false W (Kd.C_below hs1 hw) hd1 (Kd.C_below hs2 hw) hd2 (Kd.C_below hs3 hw) hd3 (by rw [right_val, Bool.eq_false_iff.2 hfb]))
  have HR1 := Aside0.mk hr1
  have HR2 := Aside0.mk hr2
  have HR3 := Aside0.mk hr3
  have HS1 := Aside0.mk hs1
  have HS2 := Aside0.mk hs2
  have HS3 := Aside0.mk hs3
  clear hr1 hr2 hr3 hs1 hs2 hs3
  clear hfa hfb
  have BB0 := Below.refl w.heap.size w
  obtain ⟨wp0, hwp0⟩ : ∃ x, x = w.alloc (.cells #[.bool a, .slice A1 l1.length c1, .slice A2 l2.length c2, .slice A3 l3.length c3] 26) := ⟨_, rfl⟩
  have t_n := heap_alloc_new w (.cells #[.bool a, .slice A1 l1.length c1, .slice A2 l2.length c2, .slice A3 l3.length c3] 26)
  rw [← hwp0] at t_n
  have BB1 : Below w.heap.size w wp0 := by rw [hwp0]; exact below_alloc BB0 _
  have sz0 : wp0.heap.size = w.heap.size + 1 := by rw [hwp0]; simp
  obtain ⟨wp1, hwp1⟩ : ∃ x, x = wp0.alloc (.cells #[.bool b, .slice B1 m1.length d1, .slice B2 m2.length d2, .slice B3 m3.length d3] 26) := ⟨_, rfl⟩
  have t_m := heap_alloc_new wp0 (.cells #[.bool b, .slice B1 m1.length d1, .slice B2 m2.length d2, .slice B3 m3.length d3] 26)
  rw [← hwp1] at t_m
  rw [sz0] at t_m
  have BB2 : Below w.heap.size w wp1 := by rw [hwp1]; exact below_alloc BB1 _
  have sz1 : wp1.heap.size = w.heap.size + 2 := by rw [hwp1]; simp [sz0]
  replace t_n := (show wp1.heap[_]? = wp0.heap[_]? by rw [hwp1]; exact Lib.alloc_old wp0 (.cells #[.bool b, .slice B1 m1.length d1, .slice B2 m2.length d2, .slice B3 m3.length d3] 26) _ (blk_lt t_n)).trans t_n
  obtain ⟨wp2, hwp2⟩ : ∃ x, x = wp1.alloc (.cells #[.bool false, .slice none 0 0, .slice none 0 0, .slice none 0 0] 26) := ⟨_, rfl⟩
  have t_r := heap_alloc_new wp1 (.cells #[.bool false, .slice none 0 0, .slice none 0 0, .slice none 0 0] 26)
  rw [← hwp2] at t_r
  rw [sz1] at t_r
  have BB3 : Below w.heap.size w wp2 := by rw [hwp2]; exact below_alloc BB2 _
  have sz2 : wp2.heap.size = w.heap.size + 3 := by rw [hwp2]; simp [sz1]
  replace t_n := (show wp2.heap[_]? = wp1.heap[_]? by rw [hwp2]; exact Lib.alloc_old wp1 (.cells #[.bool false, .slice none 0 0, .slice none 0 0, .slice none 0 0] 26) _ (blk_lt t_n)).trans t_n
  replace t_m := (show wp2.heap[_]? = wp1.heap[_]? by rw [hwp2]; exact Lib.alloc_old wp1 (.cells #[.bool false, .slice none 0 0, .slice none 0 0, .slice none 0 0] 26) _ (blk_lt t_m)).trans t_m
  have HW0 : Aside0 (wp2 = (((w.alloc (.cells #[.bool a, .slice A1 l1.length c1, .slice A2 l2.length c2, .slice A3 l3.length c3] 26)).alloc (.cells #[.bool b, .slice B1 m1.length d1, .slice B2 m2.length d2, .slice B3 m3.length d3] 26)).alloc (.cells #[.bool false, .slice none 0 0, .slice none 0 0, .slice none 0 0] 26))) := ⟨by rw [hwp2, hwp1, hwp0]⟩
  have T_n := Aside0.mk t_n
  have T_m := Aside0.mk t_m
  have T_r := Aside0.mk t_r
  have BB := Aside0.mk BB3
  have SZ0 := Aside0.mk sz2
  clear t_n t_m t_r BB0 BB1 BB2 BB3 sz0 sz1 sz2 hwp0 hwp1 hwp2
  go_enter Try.func21, Try.ntmps21
  have c_n0 := bc T_n 0 rfl; have c_n1 := bc T_n 1 rfl; have c_n2 := bc T_n 2 rfl; have c_n3 := bc T_n 3 rfl
  have c_m0 := bc T_m 0 rfl; have c_m1 := bc T_m 1 rfl; have c_m2 := bc T_m 2 rfl; have c_m3 := bc T_m 3 rfl
  go_wp2_with fail
  rw [← HW0.out]
  refine (CK.out _ BB.out).mono ?_
  rintro e w3 ⟨rfl, hB⟩
  replace T_n := bm hB T_n; replace T_m := bm hB T_m; replace T_r := bm hB T_r; replace BB := xm hB BB
  clear hB
  clear c_n0 c_n1 c_n2 c_n3 c_m0 c_m1 c_m2 c_m3
  have c_n0 := bc T_n 0 rfl; have c_n1 := bc T_n 1 rfl; have c_n2 := bc T_n 2 rfl; have c_n3 := bc T_n 3 rfl
  have c_m0 := bc T_m 0 rfl; have c_m1 := bc T_m 1 rfl; have c_m2 := bc T_m 2 rfl; have c_m3 := bc T_m 3 rfl
  go_wp2_with fail
  refine (CKb.out _ BB.out).mono ?_
  rintro e w4 ⟨rfl, hB⟩
  replace T_n := bm hB T_n; replace T_m := bm hB T_m; replace T_r := bm hB T_r; replace BB := xm hB BB
  clear hB
  clear c_n0 c_n1 c_n2 c_n3 c_m0 c_m1 c_m2 c_m3
  have c_r0 := bc T_r 0 rfl; have f_r0 := bf T_r 0; have c_r1 := bc T_r 1 rfl; have f_r1 := bf T_r 1; have c_r2 := bc T_r 2 rfl; have f_r2 := bf T_r 2; have c_r3 := bc T_r 3 rfl; have f_r3 := bf T_r 3
  go_wp2_with fail
  clear c_r0 f_r0 c_r1 f_r1 c_r2 f_r2 c_r3 f_r3
  have hg := nd_grown4 w4 (w.heap.size + 2) (.bool false) (.slice none 0 0) (.slice none 0 0) (.slice none 0 0)
  have tn := nd_put4 w4 (w.heap.size + 2) 26 _ _ _ _ (.bool false) (.slice none 0 0) (.slice none 0 0) (.slice none 0 0) T_r.out
  obtain ⟨w5, hw5⟩ : ∃ x, x = ((((w4.setCell ⟨(w.heap.size + 2), 0, none⟩ (.bool false)).setCell ⟨(w.heap.size + 2), 1, none⟩ (.slice none 0 0)).setCell ⟨(w.heap.size + 2), 2, none⟩ (.slice none 0 0)).setCell ⟨(w.heap.size + 2), 3, none⟩ (.slice none 0 0)) := ⟨_, rfl⟩
  rw [← hw5] at hg tn
  rw [← hw5]
  clear hw5
  replace T_n := bg hg T_n (by omega)
  replace T_m := bg hg T_m (by omega)
  replace BB := Aside0.mk (nd_grown_below hg BB.out BB.out.size (by omega))
  replace T_r := Aside0.mk tn
  clear tn hg
  refine bodyPost_ret (results_ct rfl _ _ (w.heap.size + 2) 26 #[.bool false, .slice none 0 0, .slice none 0 0, .slice none 0 0] (0, 0) _ rfl T_r.out Try.underlying26 rfl (by kernel_rfl)) rfl ?_
  exact ⟨_, _, _, rfl, Kd.R_nil _ _ _ _ _, Kd.R_nil _ _ _ _ _, Kd.R_nil _ _ _ _ _, BB.out⟩
set_option maxHeartbeats 4000000 in
set_option maxRecDepth 100000 in
theorem dmerge_bad3 (a : Bool) (A1 : Option Addr) (c1 : Nat) (l1 : List S48) (A2 : Option Addr) (c2 : Nat) (l2 : List ByteArray) (A3 : Option Addr) (c3 : Nat) (l3 : List Int) (k : ByteArray) (b : Bool) (B1 : Option Addr) (d1 : Nat) (m1 : List S48) (B2 : Option Addr) (d2 : Nat) (m2 : List ByteArray) (B3 : Option Addr) (d3 : Nat) (m3 : List Int) (w : World) (hr1 : Kd.C k48 w A1 l1.length l1) (hc1 : l1.length ≤ c1) (hr2 : Kd.C Kd.string w A2 l2.length l2) (hc2 : l2.length ≤ c2) (hr3 : Kd.C (Kd.int .i64) w A3 l3.length l3) (hc3 : l3.length ≤ c3) (hs1 : Kd.C k48 w B1 m1.length m1) (hd1 : m1.length ≤ d1) (hs2 : Kd.C Kd.string w B2 m2.length m2) (hd2 : m2.length ≤ d2) (hs3 : Kd.C (Kd.int .i64) w B3 m3.length m3) (hd3 : m3.length ≤ d3) (hfa : (leafV a l1 l2 l3 || innerV a l1 l2 l3) = true) (hfb : (leafV b m1 m2 m3 || innerV b m1 m2 m3) = true) (hab : ¬ a = b) :
    Calls Try.prog 21 #[.agg #[.bool a, .slice A1 l1.length c1, .slice A2 l2.length c2, .slice A3 l3.length c3], .string k, .agg #[.bool b, .slice B1 m1.length d1, .slice B2 m2.length d2, .slice B3 m3.length d3]] w fun e w' => ∃ v1_ v2_ v3_ : Value, e = .returned (.tuple #[.agg #[.bool false, v1_, v2_, v3_], .int .i64 2]) ∧ Kd.R k48 48 w' w.heap.size (fun _ => True) v1_ ([] : List S48) ∧ Kd.R Kd.string 9 w' w.heap.size (fun _ => True) v2_ ([] : List ByteArray) ∧ Kd.R (Kd.int .i64) 3 w' w.heap.size (fun _ => True) v3_ ([] : List Int) ∧ Below w.heap.size w w' := by
  have CK := Aside0.mk (fun W hw => cisternref11_Right.calls a A1 c1 l1 A2 c2 l2 A3 c3 l3 true W (Kd.C_below hr1 hw) hc1 (Kd.C_below hr2 hw) hc2 (Kd.C_below hr3 hw) hc3 (by rw [right_val, hfa]))
  have CKb := Aside0.mk (fun W hw => cisternref11_Right.calls b B1 d1 m1 B2 d2 m2 B3 d3 m3 true W (Kd.C_below hs1 hw) hd1 (Kd.C_below hs2 hw) hd2 (Kd.C_below hs3 hw) hd3 (by rw [right_val, hfb]))
  have HR1 := Aside0.mk hr1
  have HR2 := Aside0.mk hr2
  have HR3 := Aside0.mk hr3
  have HS1 := Aside0.mk hs1
  have HS2 := Aside0.mk hs2
  have HS3 := Aside0.mk hs3
  clear hr1 hr2 hr3 hs1 hs2 hs3
  clear hfa hfb
  have hne : (a != b) = true := by simpa using hab
  have BB0 := Below.refl w.heap.size w
  obtain ⟨wp0, hwp0⟩ : ∃ x, x = w.alloc (.cells #[.bool a, .slice A1 l1.length c1, .slice A2 l2.length c2, .slice A3 l3.length c3] 26) := ⟨_, rfl⟩
  have t_n := heap_alloc_new w (.cells #[.bool a, .slice A1 l1.length c1, .slice A2 l2.length c2, .slice A3 l3.length c3] 26)
  rw [← hwp0] at t_n
  have BB1 : Below w.heap.size w wp0 := by rw [hwp0]; exact below_alloc BB0 _
  have sz0 : wp0.heap.size = w.heap.size + 1 := by rw [hwp0]; simp
  obtain ⟨wp1, hwp1⟩ : ∃ x, x = wp0.alloc (.cells #[.bool b, .slice B1 m1.length d1, .slice B2 m2.length d2, .slice B3 m3.length d3] 26) := ⟨_, rfl⟩
  have t_m := heap_alloc_new wp0 (.cells #[.bool b, .slice B1 m1.length d1, .slice B2 m2.length d2, .slice B3 m3.length d3] 26)
  rw [← hwp1] at t_m
  rw [sz0] at t_m
  have BB2 : Below w.heap.size w wp1 := by rw [hwp1]; exact below_alloc BB1 _
  have sz1 : wp1.heap.size = w.heap.size + 2 := by rw [hwp1]; simp [sz0]
  replace t_n := (show wp1.heap[_]? = wp0.heap[_]? by rw [hwp1]; exact Lib.alloc_old wp0 (.cells #[.bool b, .slice B1 m1.length d1, .slice B2 m2.length d2, .slice B3 m3.length d3] 26) _ (blk_lt t_n)).trans t_n
  obtain ⟨wp2, hwp2⟩ : ∃ x, x = wp1.alloc (.cells #[.bool false, .slice none 0 0, .slice none 0 0, .slice none 0 0] 26) := ⟨_, rfl⟩
  have t_r := heap_alloc_new wp1 (.cells #[.bool false, .slice none 0 0, .slice none 0 0, .slice none 0 0] 26)
  rw [← hwp2] at t_r
  rw [sz1] at t_r
  have BB3 : Below w.heap.size w wp2 := by rw [hwp2]; exact below_alloc BB2 _
  have sz2 : wp2.heap.size = w.heap.size + 3 := by rw [hwp2]; simp [sz1]
  replace t_n := (show wp2.heap[_]? = wp1.heap[_]? by rw [hwp2]; exact Lib.alloc_old wp1 (.cells #[.bool false, .slice none 0 0, .slice none 0 0, .slice none 0 0] 26) _ (blk_lt t_n)).trans t_n
  replace t_m := (show wp2.heap[_]? = wp1.heap[_]? by rw [hwp2]; exact Lib.alloc_old wp1 (.cells #[.bool false, .slice none 0 0, .slice none 0 0, .slice none 0 0] 26) _ (blk_lt t_m)).trans t_m
  have HW0 : Aside0 (wp2 = (((w.alloc (.cells #[.bool a, .slice A1 l1.length c1, .slice A2 l2.length c2, .slice A3 l3.length c3] 26)).alloc (.cells #[.bool b, .slice B1 m1.length d1, .slice B2 m2.length d2, .slice B3 m3.length d3] 26)).alloc (.cells #[.bool false, .slice none 0 0, .slice none 0 0, .slice none 0 0] 26))) := ⟨by rw [hwp2, hwp1, hwp0]⟩
  have T_n := Aside0.mk t_n
  have T_m := Aside0.mk t_m
  have T_r := Aside0.mk t_r
  have BB := Aside0.mk BB3
  have SZ0 := Aside0.mk sz2
  clear t_n t_m t_r BB0 BB1 BB2 BB3 sz0 sz1 sz2 hwp0 hwp1 hwp2
  go_enter Try.func21, Try.ntmps21
  have c_n0 := bc T_n 0 rfl; have c_n1 := bc T_n 1 rfl; have c_n2 := bc T_n 2 rfl; have c_n3 := bc T_n 3 rfl
  have c_m0 := bc T_m 0 rfl; have c_m1 := bc T_m 1 rfl; have c_m2 := bc T_m 2 rfl; have c_m3 := bc T_m 3 rfl
  go_wp2_with fail
  rw [← HW0.out]
  refine (CK.out _ BB.out).mono ?_
  rintro e w6 ⟨rfl, hB⟩
  replace T_n := bm hB T_n; replace T_m := bm hB T_m; replace T_r := bm hB T_r; replace BB := xm hB BB
  clear hB
  clear c_n0 c_n1 c_n2 c_n3 c_m0 c_m1 c_m2 c_m3
  have c_n0 := bc T_n 0 rfl; have c_n1 := bc T_n 1 rfl; have c_n2 := bc T_n 2 rfl; have c_n3 := bc T_n 3 rfl
  have c_m0 := bc T_m 0 rfl; have c_m1 := bc T_m 1 rfl; have c_m2 := bc T_m 2 rfl; have c_m3 := bc T_m 3 rfl
  go_wp2_with fail
  refine (CKb.out _ BB.out).mono ?_
  rintro e w7 ⟨rfl, hB⟩
  replace T_n := bm hB T_n; replace T_m := bm hB T_m; replace T_r := bm hB T_r; replace BB := xm hB BB
  clear hB
  clear c_n0 c_n1 c_n2 c_n3 c_m0 c_m1 c_m2 c_m3
  have c_n0 := bc T_n 0 rfl; have c_n1 := bc T_n 1 rfl; have c_n2 := bc T_n 2 rfl; have c_n3 := bc T_n 3 rfl
  have c_m0 := bc T_m 0 rfl; have c_m1 := bc T_m 1 rfl; have c_m2 := bc T_m 2 rfl; have c_m3 := bc T_m 3 rfl
  have c_r0 := bc T_r 0 rfl; have f_r0 := bf T_r 0; have c_r1 := bc T_r 1 rfl; have f_r1 := bf T_r 1; have c_r2 := bc T_r 2 rfl; have f_r2 := bf T_r 2; have c_r3 := bc T_r 3 rfl; have f_r3 := bf T_r 3
  go_wp2_with fail
  clear c_r0 f_r0 c_r1 f_r1 c_r2 f_r2 c_r3 f_r3
  have hg := nd_grown4 w7 (w.heap.size + 2) (.bool false) (.slice none 0 0) (.slice none 0 0) (.slice none 0 0)
  have tn := nd_put4 w7 (w.heap.size + 2) 26 _ _ _ _ (.bool false) (.slice none 0 0) (.slice none 0 0) (.slice none 0 0) T_r.out
  obtain ⟨w8, hw8⟩ : ∃ x, x = ((((w7.setCell ⟨(w.heap.size + 2), 0, none⟩ (.bool false)).setCell ⟨(w.heap.size + 2), 1, none⟩ (.slice none 0 0)).setCell ⟨(w.heap.size + 2), 2, none⟩ (.slice none 0 0)).setCell ⟨(w.heap.size + 2), 3, none⟩ (.slice none 0 0)) := ⟨_, rfl⟩
  rw [← hw8] at hg tn
  rw [← hw8]
  clear hw8
  replace T_n := bg hg T_n (by omega)
  replace T_m := bg hg T_m (by omega)
  replace BB := Aside0.mk (nd_grown_below hg BB.out BB.out.size (by omega))
  replace T_r := Aside0.mk tn
  clear tn hg
  refine bodyPost_ret (results_ct rfl _ _ (w.heap.size + 2) 26 #[.bool false, .slice none 0 0, .slice none 0 0, .slice none 0 0] (0, 0) _ rfl T_r.out Try.underlying26 rfl (by kernel_rfl)) rfl ?_
  exact ⟨_, _, _, rfl, Kd.R_nil _ _ _ _ _, Kd.R_nil _ _ _ _ _, Kd.R_nil _ _ _ _ _, BB.out⟩
set_option maxHeartbeats 4000000 in
set_option maxRecDepth 100000 in
theorem dmerge_bad4 (a : Bool) (A1 : Option Addr) (c1 : Nat) (l1 : List S48) (A2 : Option Addr) (c2 : Nat) (l2 : List ByteArray) (A3 : Option Addr) (c3 : Nat) (l3 : List Int) (k : ByteArray) (B1 : Option Addr) (d1 : Nat) (m1 : List S48) (B2 : Option Addr) (d2 : Nat) (m2 : List ByteArray) (B3 : Option Addr) (d3 : Nat) (m3 : List Int) (w : World) (hr1 : Kd.C k48 w A1 l1.length l1) (hc1 : l1.length ≤ c1) (hr2 : Kd.C Kd.string w A2 l2.length l2) (hc2 : l2.length ≤ c2) (hr3 : Kd.C (Kd.int .i64) w A3 l3.length l3) (hc3 : l3.length ≤ c3) (hs1 : Kd.C k48 w B1 m1.length m1) (hd1 : m1.length ≤ d1) (hs2 : Kd.C Kd.string w B2 m2.length m2) (hd2 : m2.length ≤ d2) (hs3 : Kd.C (Kd.int .i64) w B3 m3.length m3) (hd3 : m3.length ≤ d3) (hfa : (leafV a l1 l2 l3 || innerV a l1 l2 l3) = true) (hfb : (leafV a m1 m2 m3 || innerV a m1 m2 m3) = true) (hk : keyB k = false) :
    Calls Try.prog 21 #[.agg #[.bool a, .slice A1 l1.length c1, .slice A2 l2.length c2, .slice A3 l3.length c3], .string k, .agg #[.bool a, .slice B1 m1.length d1, .slice B2 m2.length d2, .slice B3 m3.length d3]] w fun e w' => ∃ v1_ v2_ v3_ : Value, e = .returned (.tuple #[.agg #[.bool false, v1_, v2_, v3_], .int .i64 2]) ∧ Kd.R k48 48 w' w.heap.size (fun _ => True) v1_ ([] : List S48) ∧ Kd.R Kd.string 9 w' w.heap.size (fun _ => True) v2_ ([] : List ByteArray) ∧ Kd.R (Kd.int .i64) 3 w' w.heap.size (fun _ => True) v3_ ([] : List Int) ∧ Below w.heap.size w w' := by
  have KY := Aside0.mk (fun W => (cisternref11_Key.calls k (keyB k) W (key_val k)).mono (fun e W' h => (⟨h.1, h.2.below⟩ : e = .returned (.bool (keyB k)) ∧ Below W.heap.size W W')))
  rw [hk] at KY
  clear hk
  have CK := Aside0.mk (fun W hw => cisternref11_Right.calls a A1 c1 l1 A2 c2 l2 A3 c3 l3 true W (Kd.C_below hr1 hw) hc1 (Kd.C_below hr2 hw) hc2 (Kd.C_below hr3 hw) hc3 (by rw [right_val, hfa]))
  have CKb := Aside0.mk (fun W hw => cisternref11_Right.calls a B1 d1 m1 B2 d2 m2 B3 d3 m3 true W (Kd.C_below hs1 hw) hd1 (Kd.C_below hs2 hw) hd2 (Kd.C_below hs3 hw) hd3 (by rw [right_val, hfb]))
  have HR1 := Aside0.mk hr1
  have HR2 := Aside0.mk hr2
  have HR3 := Aside0.mk hr3
  have HS1 := Aside0.mk hs1
  have HS2 := Aside0.mk hs2
  have HS3 := Aside0.mk hs3
  clear hr1 hr2 hr3 hs1 hs2 hs3
  clear hfa hfb
  have BB0 := Below.refl w.heap.size w
  obtain ⟨wp0, hwp0⟩ : ∃ x, x = w.alloc (.cells #[.bool a, .slice A1 l1.length c1, .slice A2 l2.length c2, .slice A3 l3.length c3] 26) := ⟨_, rfl⟩
  have t_n := heap_alloc_new w (.cells #[.bool a, .slice A1 l1.length c1, .slice A2 l2.length c2, .slice A3 l3.length c3] 26)
  rw [← hwp0] at t_n
  have BB1 : Below w.heap.size w wp0 := by rw [hwp0]; exact below_alloc BB0 _
  have sz0 : wp0.heap.size = w.heap.size + 1 := by rw [hwp0]; simp
  obtain ⟨wp1, hwp1⟩ : ∃ x, x = wp0.alloc (.cells #[.bool a, .slice B1 m1.length d1, .slice B2 m2.length d2, .slice B3 m3.length d3] 26) := ⟨_, rfl⟩
  have t_m := heap_alloc_new wp0 (.cells #[.bool a, .slice B1 m1.length d1, .slice B2 m2.length d2, .slice B3 m3.length d3] 26)
  rw [← hwp1] at t_m
  rw [sz0] at t_m
  have BB2 : Below w.heap.size w wp1 := by rw [hwp1]; exact below_alloc BB1 _
  have sz1 : wp1.heap.size = w.heap.size + 2 := by rw [hwp1]; simp [sz0]
  replace t_n := (show wp1.heap[_]? = wp0.heap[_]? by rw [hwp1]; exact Lib.alloc_old wp0 (.cells #[.bool a, .slice B1 m1.length d1, .slice B2 m2.length d2, .slice B3 m3.length d3] 26) _ (blk_lt t_n)).trans t_n
  obtain ⟨wp2, hwp2⟩ : ∃ x, x = wp1.alloc (.cells #[.bool false, .slice none 0 0, .slice none 0 0, .slice none 0 0] 26) := ⟨_, rfl⟩
  have t_r := heap_alloc_new wp1 (.cells #[.bool false, .slice none 0 0, .slice none 0 0, .slice none 0 0] 26)
  rw [← hwp2] at t_r
  rw [sz1] at t_r
  have BB3 : Below w.heap.size w wp2 := by rw [hwp2]; exact below_alloc BB2 _
  have sz2 : wp2.heap.size = w.heap.size + 3 := by rw [hwp2]; simp [sz1]
  replace t_n := (show wp2.heap[_]? = wp1.heap[_]? by rw [hwp2]; exact Lib.alloc_old wp1 (.cells #[.bool false, .slice none 0 0, .slice none 0 0, .slice none 0 0] 26) _ (blk_lt t_n)).trans t_n
  replace t_m := (show wp2.heap[_]? = wp1.heap[_]? by rw [hwp2]; exact Lib.alloc_old wp1 (.cells #[.bool false, .slice none 0 0, .slice none 0 0, .slice none 0 0] 26) _ (blk_lt t_m)).trans t_m
  have HW0 : Aside0 (wp2 = (((w.alloc (.cells #[.bool a, .slice A1 l1.length c1, .slice A2 l2.length c2, .slice A3 l3.length c3] 26)).alloc (.cells #[.bool a, .slice B1 m1.length d1, .slice B2 m2.length d2, .slice B3 m3.length d3] 26)).alloc (.cells #[.bool false, .slice none 0 0, .slice none 0 0, .slice none 0 0] 26))) := ⟨by rw [hwp2, hwp1, hwp0]⟩
  have T_n := Aside0.mk t_n
  have T_m := Aside0.mk t_m
  have T_r := Aside0.mk t_r
  have BB := Aside0.mk BB3
  have SZ0 := Aside0.mk sz2
  clear t_n t_m t_r BB0 BB1 BB2 BB3 sz0 sz1 sz2 hwp0 hwp1 hwp2
  go_enter Try.func21, Try.ntmps21
  have c_n0 := bc T_n 0 rfl; have c_n1 := bc T_n 1 rfl; have c_n2 := bc T_n 2 rfl; have c_n3 := bc T_n 3 rfl
  have c_m0 := bc T_m 0 rfl; have c_m1 := bc T_m 1 rfl; have c_m2 := bc T_m 2 rfl; have c_m3 := bc T_m 3 rfl
  go_wp2_with fail
  rw [← HW0.out]
  refine (CK.out _ BB.out).mono ?_
  rintro e w9 ⟨rfl, hB⟩
  replace T_n := bm hB T_n; replace T_m := bm hB T_m; replace T_r := bm hB T_r; replace BB := xm hB BB
  clear hB
  clear c_n0 c_n1 c_n2 c_n3 c_m0 c_m1 c_m2 c_m3
  have c_n0 := bc T_n 0 rfl; have c_n1 := bc T_n 1 rfl; have c_n2 := bc T_n 2 rfl; have c_n3 := bc T_n 3 rfl
  have c_m0 := bc T_m 0 rfl; have c_m1 := bc T_m 1 rfl; have c_m2 := bc T_m 2 rfl; have c_m3 := bc T_m 3 rfl
  go_wp2_with fail
  refine (CKb.out _ BB.out).mono ?_
  rintro e w10 ⟨rfl, hB⟩
  replace T_n := bm hB T_n; replace T_m := bm hB T_m; replace T_r := bm hB T_r; replace BB := xm hB BB
  clear hB
  clear c_n0 c_n1 c_n2 c_n3 c_m0 c_m1 c_m2 c_m3
  have c_n0 := bc T_n 0 rfl; have c_n1 := bc T_n 1 rfl; have c_n2 := bc T_n 2 rfl; have c_n3 := bc T_n 3 rfl
  have c_m0 := bc T_m 0 rfl; have c_m1 := bc T_m 1 rfl; have c_m2 := bc T_m 2 rfl; have c_m3 := bc T_m 3 rfl
  go_wp2_with fail
  clear c_n0 c_n1 c_n2 c_n3 c_m0 c_m1 c_m2 c_m3
  refine (KY.out _).mono ?_
  rintro e w11 ⟨rfl, hB⟩
  replace T_n := bm hB T_n; replace T_m := bm hB T_m; replace T_r := bm hB T_r; replace BB := xm hB BB
  clear hB
  have c_r0 := bc T_r 0 rfl; have f_r0 := bf T_r 0; have c_r1 := bc T_r 1 rfl; have f_r1 := bf T_r 1; have c_r2 := bc T_r 2 rfl; have f_r2 := bf T_r 2; have c_r3 := bc T_r 3 rfl; have f_r3 := bf T_r 3
  go_wp2_with fail
  clear c_r0 f_r0 c_r1 f_r1 c_r2 f_r2 c_r3 f_r3
  have hg := nd_grown4 w11 (w.heap.size + 2) (.bool false) (.slice none 0 0) (.slice none 0 0) (.slice none 0 0)
  have tn := nd_put4 w11 (w.heap.size + 2) 26 _ _ _ _ (.bool false) (.slice none 0 0) (.slice none 0 0) (.slice none 0 0) T_r.out
  obtain ⟨w12, hw12⟩ : ∃ x, x = ((((w11.setCell ⟨(w.heap.size + 2), 0, none⟩ (.bool false)).setCell ⟨(w.heap.size + 2), 1, none⟩ (.slice none 0 0)).setCell ⟨(w.heap.size + 2), 2, none⟩ (.slice none 0 0)).setCell ⟨(w.heap.size + 2), 3, none⟩ (.slice none 0 0)) := ⟨_, rfl⟩
  rw [← hw12] at hg tn
  rw [← hw12]
  clear hw12
  replace T_n := bg hg T_n (by omega)
  replace T_m := bg hg T_m (by omega)
  replace BB := Aside0.mk (nd_grown_below hg BB.out BB.out.size (by omega))
  replace T_r := Aside0.mk tn
  clear tn hg
  refine bodyPost_ret (results_ct rfl _ _ (w.heap.size + 2) 26 #[.bool false, .slice none 0 0, .slice none 0 0, .slice none 0 0] (0, 0) _ rfl T_r.out Try.underlying26 rfl (by kernel_rfl)) rfl ?_
  exact ⟨_, _, _, rfl, Kd.R_nil _ _ _ _ _, Kd.R_nil _ _ _ _ _, Kd.R_nil _ _ _ _ _, BB.out⟩
set_option maxHeartbeats 4000000 in
set_option maxRecDepth 100000 in
theorem dmerge_ok (a : Bool) (A1 : Option Addr) (c1 : Nat) (l1 : List S48) (A2 : Option Addr) (c2 : Nat) (l2 : List ByteArray) (A3 : Option Addr) (c3 : Nat) (l3 : List Int) (k : ByteArray) (B1 : Option Addr) (d1 : Nat) (m1 : List S48) (B2 : Option Addr) (d2 : Nat) (m2 : List ByteArray) (B3 : Option Addr) (d3 : Nat) (m3 : List Int) (r1 : Bool) (r2 : List S48) (r3 : List ByteArray) (r4 : List Int) (re : Int) (w : World) (hr1 : Kd.C k48 w A1 l1.length l1) (hc1 : l1.length ≤ c1) (hr2 : Kd.C Kd.string w A2 l2.length l2) (hc2 : l2.length ≤ c2) (hr3 : Kd.C (Kd.int .i64) w A3 l3.length l3) (hc3 : l3.length ≤ c3) (hs1 : Kd.C k48 w B1 m1.length m1) (hd1 : m1.length ≤ d1) (hs2 : Kd.C Kd.string w B2 m2.length m2) (hd2 : m2.length ≤ d2) (hs3 : Kd.C (Kd.int .i64) w B3 m3.length m3) (hd3 : m3.length ≤ d3) (hfa : (leafV a l1 l2 l3 || innerV a l1 l2 l3) = true) (hfb : (leafV a m1 m2 m3 || innerV a m1 m2 m3) = true) (hk : keyB k = true) (hres : (if (leafV a (l1 ++ m1) (mergeN a l2 k m2) (l3 ++ m3) || innerV a (l1 ++ m1) (mergeN a l2 k m2) (l3 ++ m3)) = true then (a, l1 ++ m1, mergeN a l2 k m2, l3 ++ m3, 0) else (false, [], [], [], 2) : MgR) = (r1, r2, r3, r4, re)) :
    Calls Try.prog 21 #[.agg #[.bool a, .slice A1 l1.length c1, .slice A2 l2.length c2, .slice A3 l3.length c3], .string k, .agg #[.bool a, .slice B1 m1.length d1, .slice B2 m2.length d2, .slice B3 m3.length d3]] w fun e w' => ∃ v1_ v2_ v3_ : Value, e = .returned (.tuple #[.agg #[.bool r1, v1_, v2_, v3_], .int .i64 re]) ∧ Kd.R k48 48 w' w.heap.size (fun _ => True) v1_ r2 ∧ Kd.R Kd.string 9 w' w.heap.size (fun _ => True) v2_ r3 ∧ Kd.R (Kd.int .i64) 3 w' w.heap.size (fun _ => True) v3_ r4 ∧ Below w.heap.size w w' := by
  have KY := Aside0.mk (fun W => (cisternref11_Key.calls k (keyB k) W (key_val k)).mono (fun e W' h => (⟨h.1, h.2.below⟩ : e = .returned (.bool (keyB k)) ∧ Below W.heap.size W W')))
  rw [hk] at KY
  clear hk
  have HLEN : Aside0 (l1.length ≤ 255 ∧ l2.length ≤ 255 ∧ l3.length ≤ 255 ∧ m1.length ≤ 255 ∧ m2.length ≤ 255 ∧ m3.length ≤ 255) := ⟨by have x := valid_len hfa; have y := valid_len hfb; exact ⟨x.1, x.2.1, x.2.2, y.1, y.2.1, y.2.2⟩⟩
  have CK := Aside0.mk (fun W hw => cisternref11_Right.calls a A1 c1 l1 A2 c2 l2 A3 c3 l3 true W (Kd.C_below hr1 hw) hc1 (Kd.C_below hr2 hw) hc2 (Kd.C_below hr3 hw) hc3 (by rw [right_val, hfa]))
  have CKb := Aside0.mk (fun W hw => cisternref11_Right.calls a B1 d1 m1 B2 d2 m2 B3 d3 m3 true W (Kd.C_below hs1 hw) hd1 (Kd.C_below hs2 hw) hd2 (Kd.C_below hs3 hw) hd3 (by rw [right_val, hfb]))
  have HR1 := Aside0.mk hr1
  have HR2 := Aside0.mk hr2
  have HR3 := Aside0.mk hr3
  have HS1 := Aside0.mk hs1
  have HS2 := Aside0.mk hs2
  have HS3 := Aside0.mk hs3
  clear hr1 hr2 hr3 hs1 hs2 hs3
  clear hfa hfb
  obtain ⟨v, hv⟩ : ∃ x : Bool, (leafV a (l1 ++ m1) (mergeN a l2 k m2) (l3 ++ m3) || innerV a (l1 ++ m1) (mergeN a l2 k m2) (l3 ++ m3)) = x := ⟨_, rfl⟩
  have HCV0 := right_val a (l1 ++ m1) (mergeN a l2 k m2) (l3 ++ m3)
  rw [hv] at HCV0 hres
  have HV : Aside0 ((v = true ∧ a = r1 ∧ l1 ++ m1 = r2 ∧ mergeN a l2 k m2 = r3 ∧ l3 ++ m3 = r4 ∧ 0 = re) ∨ (v = false ∧ false = r1 ∧ [] = r2 ∧ [] = r3 ∧ [] = r4 ∧ 2 = re)) := ⟨by
    cases v
    · rw [if_neg (by decide)] at hres
      injection hres with e1 e2; injection e2 with e2 e3; injection e3 with e3 e4; injection e4 with e4 e5
      exact .inr ⟨rfl, e1, e2, e3, e4, e5⟩
    · rw [if_pos rfl] at hres
      injection hres with e1 e2; injection e2 with e2 e3; injection e3 with e3 e4; injection e4 with e4 e5
      exact .inl ⟨rfl, e1, e2, e3, e4, e5⟩⟩
  clear hv hres
  obtain ⟨PP, hPP⟩ : ∃ x, l1 ++ m1 = x := ⟨_, rfl⟩
  obtain ⟨DD, hDD⟩ : ∃ x, l3 ++ m3 = x := ⟨_, rfl⟩
  obtain ⟨NN, hNN⟩ : ∃ x, mergeN a l2 k m2 = x := ⟨_, rfl⟩
  obtain ⟨LK, hLK⟩ : ∃ x, l2 ++ [k] = x := ⟨_, rfl⟩
  have LKL : Aside0 (LK.length = l2.length + 1) := ⟨by rw [← hLK, List.length_append]; rfl⟩
  rw [hPP, hDD, hNN] at HCV0 HV
  have HCV := Aside0.mk HCV0
  have PPE := Aside0.mk hPP
  have DDE := Aside0.mk hDD
  have KNE := Aside0.mk hNN
  have LKE := Aside0.mk hLK
  clear HCV0 hPP hDD hNN hLK
  have BB0 := Below.refl w.heap.size w
  obtain ⟨wp0, hwp0⟩ : ∃ x, x = w.alloc (.cells #[.bool a, .slice A1 l1.length c1, .slice A2 l2.length c2, .slice A3 l3.length c3] 26) := ⟨_, rfl⟩
  have t_n := heap_alloc_new w (.cells #[.bool a, .slice A1 l1.length c1, .slice A2 l2.length c2, .slice A3 l3.length c3] 26)
  rw [← hwp0] at t_n
  have BB1 : Below w.heap.size w wp0 := by rw [hwp0]; exact below_alloc BB0 _
  have sz0 : wp0.heap.size = w.heap.size + 1 := by rw [hwp0]; simp
  obtain ⟨wp1, hwp1⟩ : ∃ x, x = wp0.alloc (.cells #[.bool a, .slice B1 m1.length d1, .slice B2 m2.length d2, .slice B3 m3.length d3] 26) := ⟨_, rfl⟩
  have t_m := heap_alloc_new wp0 (.cells #[.bool a, .slice B1 m1.length d1, .slice B2 m2.length d2, .slice B3 m3.length d3] 26)
  rw [← hwp1] at t_m
  rw [sz0] at t_m
  have BB2 : Below w.heap.size w wp1 := by rw [hwp1]; exact below_alloc BB1 _
  have sz1 : wp1.heap.size = w.heap.size + 2 := by rw [hwp1]; simp [sz0]
  replace t_n := (show wp1.heap[_]? = wp0.heap[_]? by rw [hwp1]; exact Lib.alloc_old wp0 (.cells #[.bool a, .slice B1 m1.length d1, .slice B2 m2.length d2, .slice B3 m3.length d3] 26) _ (blk_lt t_n)).trans t_n
  obtain ⟨wp2, hwp2⟩ : ∃ x, x = wp1.alloc (.cells #[.bool false, .slice none 0 0, .slice none 0 0, .slice none 0 0] 26) := ⟨_, rfl⟩
  have t_r := heap_alloc_new wp1 (.cells #[.bool false, .slice none 0 0, .slice none 0 0, .slice none 0 0] 26)
  rw [← hwp2] at t_r
  rw [sz1] at t_r
  have BB3 : Below w.heap.size w wp2 := by rw [hwp2]; exact below_alloc BB2 _
  have sz2 : wp2.heap.size = w.heap.size + 3 := by rw [hwp2]; simp [sz1]
  replace t_n := (show wp2.heap[_]? = wp1.heap[_]? by rw [hwp2]; exact Lib.alloc_old wp1 (.cells #[.bool false, .slice none 0 0, .slice none 0 0, .slice none 0 0] 26) _ (blk_lt t_n)).trans t_n
  replace t_m := (show wp2.heap[_]? = wp1.heap[_]? by rw [hwp2]; exact Lib.alloc_old wp1 (.cells #[.bool false, .slice none 0 0, .slice none 0 0, .slice none 0 0] 26) _ (blk_lt t_m)).trans t_m
  have HW0 : Aside0 (wp2 = (((w.alloc (.cells #[.bool a, .slice A1 l1.length c1, .slice A2 l2.length c2, .slice A3 l3.length c3] 26)).alloc (.cells #[.bool a, .slice B1 m1.length d1, .slice B2 m2.length d2, .slice B3 m3.length d3] 26)).alloc (.cells #[.bool false, .slice none 0 0, .slice none 0 0, .slice none 0 0] 26))) := ⟨by rw [hwp2, hwp1, hwp0]⟩
  have T_n := Aside0.mk t_n
  have T_m := Aside0.mk t_m
  have T_r := Aside0.mk t_r
  have BB := Aside0.mk BB3
  have SZ0 := Aside0.mk sz2
  clear t_n t_m t_r BB0 BB1 BB2 BB3 sz0 sz1 sz2 hwp0 hwp1 hwp2
  go_enter Try.func21, Try.ntmps21
  have c_n0 := bc T_n 0 rfl; have c_n1 := bc T_n 1 rfl; have c_n2 := bc T_n 2 rfl; have c_n3 := bc T_n 3 rfl
  have c_m0 := bc T_m 0 rfl; have c_m1 := bc T_m 1 rfl; have c_m2 := bc T_m 2 rfl; have c_m3 := bc T_m 3 rfl
  go_wp2_with fail
  rw [← HW0.out]
  refine (CK.out _ BB.out).mono ?_
  rintro e w13 ⟨rfl, hB⟩
  replace T_n := bm hB T_n; replace T_m := bm hB T_m; replace T_r := bm hB T_r; replace BB := xm hB BB
  clear hB
  clear c_n0 c_n1 c_n2 c_n3 c_m0 c_m1 c_m2 c_m3
  have c_n0 := bc T_n 0 rfl; have c_n1 := bc T_n 1 rfl; have c_n2 := bc T_n 2 rfl; have c_n3 := bc T_n 3 rfl
  have c_m0 := bc T_m 0 rfl; have c_m1 := bc T_m 1 rfl; have c_m2 := bc T_m 2 rfl; have c_m3 := bc T_m 3 rfl
  go_wp2_with fail
  refine (CKb.out _ BB.out).mono ?_
  rintro e w14 ⟨rfl, hB⟩
  replace T_n := bm hB T_n; replace T_m := bm hB T_m; replace T_r := bm hB T_r; replace BB := xm hB BB
  clear hB
  clear c_n0 c_n1 c_n2 c_n3 c_m0 c_m1 c_m2 c_m3
  have c_n0 := bc T_n 0 rfl; have c_n1 := bc T_n 1 rfl; have c_n2 := bc T_n 2 rfl; have c_n3 := bc T_n 3 rfl
  have c_m0 := bc T_m 0 rfl; have c_m1 := bc T_m 1 rfl; have c_m2 := bc T_m 2 rfl; have c_m3 := bc T_m 3 rfl
  go_wp2_with fail
  clear c_n0 c_n1 c_n2 c_n3 c_m0 c_m1 c_m2 c_m3
  refine (KY.out _).mono ?_
  rintro e w15 ⟨rfl, hB⟩
  replace T_n := bm hB T_n; replace T_m := bm hB T_m; replace T_r := bm hB T_r; replace BB := xm hB BB
  clear hB
  have c_n0 := bc T_n 0 rfl; have c_n1 := bc T_n 1 rfl; have c_n2 := bc T_n 2 rfl; have c_n3 := bc T_n 3 rfl
  have c_m0 := bc T_m 0 rfl; have c_m1 := bc T_m 1 rfl; have c_m2 := bc T_m 2 rfl; have c_m3 := bc T_m 3 rfl
  go_upto_region 3 with fail
  clear c_n0 c_n1 c_n2 c_n3 c_m0 c_m1 c_m2 c_m3
  have hB : Below w15.heap.size w15 w15.drew := below_drew1 (Below.refl _ _)
  have MK0 : ∀ W, Below w15.drew.heap.size w15.drew W → Below w.heap.size w W ∧ W.cell? ⟨w.heap.size, 0, none⟩ = some (.bool a) ∧ W.cell? ⟨w.heap.size, 1, none⟩ = some (.slice A1 l1.length c1) ∧ W.cell? ⟨w.heap.size, 2, none⟩ = some (.slice A2 l2.length c2) ∧ W.cell? ⟨w.heap.size, 3, none⟩ = some (.slice A3 l3.length c3) ∧ W.cell? ⟨(w.heap.size + 1), 0, none⟩ = some (.bool a) ∧ W.cell? ⟨(w.heap.size + 1), 1, none⟩ = some (.slice B1 m1.length d1) ∧ W.cell? ⟨(w.heap.size + 1), 2, none⟩ = some (.slice B2 m2.length d2) ∧ W.cell? ⟨(w.heap.size + 1), 3, none⟩ = some (.slice B3 m3.length d3) := fun W hb => ⟨(xm hb (xm hB BB)).out, nd_cell hb (bc (bm hB T_n) 0 rfl), nd_cell hb (bc (bm hB T_n) 1 rfl), nd_cell hb (bc (bm hB T_n) 2 rfl), nd_cell hb (bc (bm hB T_n) 3 rfl), nd_cell hb (bc (bm hB T_m) 0 rfl), nd_cell hb (bc (bm hB T_m) 1 rfl), nd_cell hb (bc (bm hB T_m) 2 rfl), nd_cell hb (bc (bm hB T_m) 3 rfl)⟩
  refine wp_region_held_drew (S := fun W => Below w.heap.size w W ∧ W.cell? ⟨w.heap.size, 0, none⟩ = some (.bool a) ∧ W.cell? ⟨w.heap.size, 1, none⟩ = some (.slice A1 l1.length c1) ∧ W.cell? ⟨w.heap.size, 2, none⟩ = some (.slice A2 l2.length c2) ∧ W.cell? ⟨w.heap.size, 3, none⟩ = some (.slice A3 l3.length c3) ∧ W.cell? ⟨(w.heap.size + 1), 0, none⟩ = some (.bool a) ∧ W.cell? ⟨(w.heap.size + 1), 1, none⟩ = some (.slice B1 m1.length d1) ∧ W.cell? ⟨(w.heap.size + 1), 2, none⟩ = some (.slice B2 m2.length d2) ∧ W.cell? ⟨(w.heap.size + 1), 3, none⟩ = some (.slice B3 m3.length d3)) (by kernel_rfl) (MK0 _ (Below.refl _ _)) (fun hHeld => ?_)
  clear hHeld
  have MK := Aside0.mk MK0
  clear MK0
  obtain ⟨w16, hw16⟩ : ∃ x, x = w15.drew := ⟨_, rfl⟩
  rw [← hw16] at hB MK ⊢
  clear hw16
  replace T_n := bm hB T_n; replace T_m := bm hB T_m; replace T_r := bm hB T_r; replace BB := xm hB BB
  clear hB
  have SB := Aside0.mk (Below.refl w16.heap.size w16)
  have hHeld := MK.out _ SB.out
  refine nd_take 0 hHeld ?_
  refine nd_take 1 hHeld ?_
  refine nd_take 3 hHeld ?_
  refine nd_take 4 hHeld ?_
  refine nd_take 6 hHeld ?_
  refine nd_take 7 hHeld ?_
  refine nd_take 10 hHeld ?_
  refine nd_take 11 hHeld ?_
  refine nd_take 13 hHeld ?_
  refine nd_take 14 hHeld ?_
  clear hHeld
  refine wpAnyH_dag (fun A0 qf ql qa W => (qf = 9 ∧ ql = #[true, true, false, true, true, false, true, true, false, false, true, true, false, true, true, false, false, false, false] ∧ qa = A0 ∧ Aside0 (Below w16.heap.size w16 W))
   ∨ (∃ (g2 : Nat), qf = 8 ∧ ql = #[true, true, true, true, true, false, true, true, false, false, true, true, false, true, true, false, false, false, false] ∧ qa = (A0.put (some 32) (.slice (some ⟨g2, 0, none⟩) 0 0)) ∧ Aside0 (Below w16.heap.size w16 W) ∧ Aside0 (Kd.R k48 48 W w16.heap.size (fun _ => True) (.slice (some ⟨g2, 0, none⟩) 0 0) ([] : List S48)))
   ∨ (∃ (g9 : Nat), qf = 8 ∧ ql = #[true, true, false, true, true, false, true, true, false, true, true, true, false, true, true, false, false, false, false] ∧ qa = (A0.put (some 39) (.slice (some ⟨g9, 0, none⟩) 0 0)) ∧ Aside0 (Below w16.heap.size w16 W) ∧ Aside0 (Kd.R (Kd.int .i64) 3 W w16.heap.size (fun _ => True) (.slice (some ⟨g9, 0, none⟩) 0 0) ([] : List Int)))
   ∨ (∃ (g17 : Nat), qf = 8 ∧ ql = #[true, true, false, true, true, false, true, true, false, false, true, true, false, true, true, false, false, true, false] ∧ qa = (A0.put (some 8) (.pointer (some ⟨g17, 0, none⟩))) ∧ Aside0 (Below w16.heap.size w16 W) ∧ Aside0 (W.heap[g17]? = some (.cells #[.bool false, .slice none 0 0, .slice none 0 0, .slice none 0 0] 26 (0, 0))) ∧ Aside0 (w16.heap.size ≤ g17))
   ∨ (∃ (g2 : Nat) (A5_ : Option Addr) (c5_ : Nat), qf = 7 ∧ ql = #[true, true, true, true, true, true, true, true, false, false, true, true, false, true, true, false, false, false, false] ∧ qa = ((A0.put (some 32) (.slice (some ⟨g2, 0, none⟩) 0 0)).put (some 35) (.slice A5_ l1.length c5_)) ∧ Aside0 (Below w16.heap.size w16 W) ∧ Aside0 (Kd.R k48 48 W w16.heap.size (fun _ => True) (.slice A5_ l1.length c5_) l1))
   ∨ (∃ (g2 : Nat) (g9 : Nat), qf = 7 ∧ ql = #[true, true, true, true, true, false, true, true, false, true, true, true, false, true, true, false, false, false, false] ∧ qa = ((A0.put (some 32) (.slice (some ⟨g2, 0, none⟩) 0 0)).put (some 39) (.slice (some ⟨g9, 0, none⟩) 0 0)) ∧ Aside0 (Below w16.heap.size w16 W) ∧ Aside0 (Kd.R k48 48 W w16.heap.size (fun _ => True) (.slice (some ⟨g2, 0, none⟩) 0 0) ([] : List S48)) ∧ Aside0 (Kd.R (Kd.int .i64) 3 W w16.heap.size (fun _ => True) (.slice (some ⟨g9, 0, none⟩) 0 0) ([] : List Int)))
   ∨ (∃ (g2 : Nat) (g17 : Nat), qf = 7 ∧ ql = #[true, true, true, true, true, false, true, true, false, false, true, true, false, true, true, false, false, true, false] ∧ qa = ((A0.put (some 32) (.slice (some ⟨g2, 0, none⟩) 0 0)).put (some 8) (.pointer (some ⟨g17, 0, none⟩))) ∧ Aside0 (Below w16.heap.size w16 W) ∧ Aside0 (W.heap[g17]? = some (.cells #[.bool false, .slice none 0 0, .slice none 0 0, .slice none 0 0] 26 (0, 0))) ∧ Aside0 (w16.heap.size ≤ g17) ∧ Aside0 (Kd.R k48 48 W w16.heap.size (fun _ => True) (.slice (some ⟨g2, 0, none⟩) 0 0) ([] : List S48)))
   ∨ (∃ (g9 : Nat) (g17 : Nat), qf = 7 ∧ ql = #[true, true, false, true, true, false, true, true, false, true, true, true, false, true, true, false, false, true, false] ∧ qa = ((A0.put (some 39) (.slice (some ⟨g9, 0, none⟩) 0 0)).put (some 8) (.pointer (some ⟨g17, 0, none⟩))) ∧ Aside0 (Below w16.heap.size w16 W) ∧ Aside0 (W.heap[g17]? = some (.cells #[.bool false, .slice none 0 0, .slice none 0 0, .slice none 0 0] 26 (0, 0))) ∧ Aside0 (w16.heap.size ≤ g17) ∧ Aside0 (Kd.R (Kd.int .i64) 3 W w16.heap.size (fun _ => True) (.slice (some ⟨g9, 0, none⟩) 0 0) ([] : List Int)))
   ∨ (∃ (g2 : Nat) (A5_ : Option Addr) (c5_ : Nat) (A8_ : Option Addr) (c8_ : Nat), qf = 6 ∧ ql = #[true, true, true, true, true, true, true, true, true, false, true, true, false, true, true, false, false, false, false] ∧ qa = (((A0.put (some 32) (.slice (some ⟨g2, 0, none⟩) 0 0)).put (some 35) (.slice A5_ l1.length c5_)).put (some 38) (.slice A8_ PP.length c8_)) ∧ Aside0 (Below w16.heap.size w16 W) ∧ Aside0 (Kd.R k48 48 W w16.heap.size (fun _ => True) (.slice A8_ PP.length c8_) PP))
   ∨ (∃ (g2 : Nat) (A5_ : Option Addr) (c5_ : Nat) (g9 : Nat), qf = 6 ∧ ql = #[true, true, true, true, true, true, true, true, false, true, true, true, false, true, true, false, false, false, false] ∧ qa = (((A0.put (some 32) (.slice (some ⟨g2, 0, none⟩) 0 0)).put (some 35) (.slice A5_ l1.length c5_)).put (some 39) (.slice (some ⟨g9, 0, none⟩) 0 0)) ∧ Aside0 (Below w16.heap.size w16 W) ∧ Aside0 (Kd.R k48 48 W w16.heap.size (fun _ => True) (.slice A5_ l1.length c5_) l1) ∧ Aside0 (Kd.R (Kd.int .i64) 3 W w16.heap.size (fun _ => True) (.slice (some ⟨g9, 0, none⟩) 0 0) ([] : List Int)))
   ∨ (∃ (g2 : Nat) (A5_ : Option Addr) (c5_ : Nat) (g17 : Nat), qf = 6 ∧ ql = #[true, true, true, true, true, true, true, true, false, false, true, true, false, true, true, false, false, true, false] ∧ qa = (((A0.put (some 32) (.slice (some ⟨g2, 0, none⟩) 0 0)).put (some 35) (.slice A5_ l1.length c5_)).put (some 8) (.pointer (some ⟨g17, 0, none⟩))) ∧ Aside0 (Below w16.heap.size w16 W) ∧ Aside0 (W.heap[g17]? = some (.cells #[.bool false, .slice none 0 0, .slice none 0 0, .slice none 0 0] 26 (0, 0))) ∧ Aside0 (w16.heap.size ≤ g17) ∧ Aside0 (Kd.R k48 48 W w16.heap.size (fun _ => True) (.slice A5_ l1.length c5_) l1))
   ∨ (∃ (g2 : Nat) (g9 : Nat) (g17 : Nat), qf = 6 ∧ ql = #[true, true, true, true, true, false, true, true, false, true, true, true, false, true, true, false, false, true, false] ∧ qa = (((A0.put (some 32) (.slice (some ⟨g2, 0, none⟩) 0 0)).put (some 39) (.slice (some ⟨g9, 0, none⟩) 0 0)).put (some 8) (.pointer (some ⟨g17, 0, none⟩))) ∧ Aside0 (Below w16.heap.size w16 W) ∧ Aside0 (W.heap[g17]? = some (.cells #[.bool false, .slice none 0 0, .slice none 0 0, .slice none 0 0] 26 (0, 0))) ∧ Aside0 (w16.heap.size ≤ g17) ∧ Aside0 (Kd.R k48 48 W w16.heap.size (fun _ => True) (.slice (some ⟨g2, 0, none⟩) 0 0) ([] : List S48)) ∧ Aside0 (Kd.R (Kd.int .i64) 3 W w16.heap.size (fun _ => True) (.slice (some ⟨g9, 0, none⟩) 0 0) ([] : List Int)))
   ∨ (∃ (g2 : Nat) (A5_ : Option Addr) (c5_ : Nat) (A8_ : Option Addr) (c8_ : Nat) (g9 : Nat), qf = 5 ∧ ql = #[true, true, true, true, true, true, true, true, true, true, true, true, false, true, true, false, false, false, false] ∧ qa = ((((A0.put (some 32) (.slice (some ⟨g2, 0, none⟩) 0 0)).put (some 35) (.slice A5_ l1.length c5_)).put (some 38) (.slice A8_ PP.length c8_)).put (some 39) (.slice (some ⟨g9, 0, none⟩) 0 0)) ∧ Aside0 (Below w16.heap.size w16 W) ∧ Aside0 (Kd.R k48 48 W w16.heap.size (fun _ => True) (.slice A8_ PP.length c8_) PP) ∧ Aside0 (Kd.R (Kd.int .i64) 3 W w16.heap.size (fun _ => True) (.slice (some ⟨g9, 0, none⟩) 0 0) ([] : List Int)))
   ∨ (∃ (g2 : Nat) (A5_ : Option Addr) (c5_ : Nat) (A8_ : Option Addr) (c8_ : Nat) (g17 : Nat), qf = 5 ∧ ql = #[true, true, true, true, true, true, true, true, true, false, true, true, false, true, true, false, false, true, false] ∧ qa = ((((A0.put (some 32) (.slice (some ⟨g2, 0, none⟩) 0 0)).put (some 35) (.slice A5_ l1.length c5_)).put (some 38) (.slice A8_ PP.length c8_)).put (some 8) (.pointer (some ⟨g17, 0, none⟩))) ∧ Aside0 (Below w16.heap.size w16 W) ∧ Aside0 (W.heap[g17]? = some (.cells #[.bool false, .slice none 0 0, .slice none 0 0, .slice none 0 0] 26 (0, 0))) ∧ Aside0 (w16.heap.size ≤ g17) ∧ Aside0 (Kd.R k48 48 W w16.heap.size (fun _ => True) (.slice A8_ PP.length c8_) PP))
   ∨ (∃ (g2 : Nat) (A5_ : Option Addr) (c5_ : Nat) (g9 : Nat) (g17 : Nat), qf = 5 ∧ ql = #[true, true, true, true, true, true, true, true, false, true, true, true, false, true, true, false, false, true, false] ∧ qa = ((((A0.put (some 32) (.slice (some ⟨g2, 0, none⟩) 0 0)).put (some 35) (.slice A5_ l1.length c5_)).put (some 39) (.slice (some ⟨g9, 0, none⟩) 0 0)).put (some 8) (.pointer (some ⟨g17, 0, none⟩))) ∧ Aside0 (Below w16.heap.size w16 W) ∧ Aside0 (W.heap[g17]? = some (.cells #[.bool false, .slice none 0 0, .slice none 0 0, .slice none 0 0] 26 (0, 0))) ∧ Aside0 (w16.heap.size ≤ g17) ∧ Aside0 (Kd.R k48 48 W w16.heap.size (fun _ => True) (.slice A5_ l1.length c5_) l1) ∧ Aside0 (Kd.R (Kd.int .i64) 3 W w16.heap.size (fun _ => True) (.slice (some ⟨g9, 0, none⟩) 0 0) ([] : List Int)))
   ∨ (∃ (g2 : Nat) (A5_ : Option Addr) (c5_ : Nat) (A8_ : Option Addr) (c8_ : Nat) (g9 : Nat) (A12_ : Option Addr) (c12_ : Nat), qf = 4 ∧ ql = #[true, true, true, true, true, true, true, true, true, true, true, true, true, true, true, false, false, false, false] ∧ qa = (((((A0.put (some 32) (.slice (some ⟨g2, 0, none⟩) 0 0)).put (some 35) (.slice A5_ l1.length c5_)).put (some 38) (.slice A8_ PP.length c8_)).put (some 39) (.slice (some ⟨g9, 0, none⟩) 0 0)).put (some 42) (.slice A12_ l3.length c12_)) ∧ Aside0 (Below w16.heap.size w16 W) ∧ Aside0 (Kd.R k48 48 W w16.heap.size (fun _ => True) (.slice A8_ PP.length c8_) PP) ∧ Aside0 (Kd.R (Kd.int .i64) 3 W w16.heap.size (fun _ => True) (.slice A12_ l3.length c12_) l3))
   ∨ (∃ (g2 : Nat) (A5_ : Option Addr) (c5_ : Nat) (A8_ : Option Addr) (c8_ : Nat) (g9 : Nat) (g17 : Nat), qf = 4 ∧ ql = #[true, true, true, true, true, true, true, true, true, true, true, true, false, true, true, false, false, true, false] ∧ qa = (((((A0.put (some 32) (.slice (some ⟨g2, 0, none⟩) 0 0)).put (some 35) (.slice A5_ l1.length c5_)).put (some 38) (.slice A8_ PP.length c8_)).put (some 39) (.slice (some ⟨g9, 0, none⟩) 0 0)).put (some 8) (.pointer (some ⟨g17, 0, none⟩))) ∧ Aside0 (Below w16.heap.size w16 W) ∧ Aside0 (W.heap[g17]? = some (.cells #[.bool false, .slice none 0 0, .slice none 0 0, .slice none 0 0] 26 (0, 0))) ∧ Aside0 (w16.heap.size ≤ g17) ∧ Aside0 (Kd.R k48 48 W w16.heap.size (fun _ => True) (.slice A8_ PP.length c8_) PP) ∧ Aside0 (Kd.R (Kd.int .i64) 3 W w16.heap.size (fun _ => True) (.slice (some ⟨g9, 0, none⟩) 0 0) ([] : List Int)))
   ∨ (∃ (g2 : Nat) (A5_ : Option Addr) (c5_ : Nat) (A8_ : Option Addr) (c8_ : Nat) (g9 : Nat) (A12_ : Option Addr) (c12_ : Nat) (A15_ : Option Addr) (c15_ : Nat), qf = 2 ∧ ql = #[true, true, true, true, true, true, true, true, true, true, true, true, true, true, true, true, true, false, false] ∧ qa = (((((((A0.put (some 32) (.slice (some ⟨g2, 0, none⟩) 0 0)).put (some 35) (.slice A5_ l1.length c5_)).put (some 38) (.slice A8_ PP.length c8_)).put (some 39) (.slice (some ⟨g9, 0, none⟩) 0 0)).put (some 42) (.slice A12_ l3.length c12_)).put (some 45) (.slice A15_ DD.length c15_)).put (some 46) (.agg #[.bool a, .slice A8_ PP.length c8_, .slice none 0 0, .slice A15_ DD.length c15_])) ∧ Aside0 (Below w16.heap.size w16 W) ∧ Aside0 (Kd.R k48 48 W w16.heap.size (fun _ => True) (.slice A8_ PP.length c8_) PP) ∧ Aside0 (Kd.R (Kd.int .i64) 3 W w16.heap.size (fun _ => True) (.slice A15_ DD.length c15_) DD))
   ∨ (∃ (g2 : Nat) (A5_ : Option Addr) (c5_ : Nat) (A8_ : Option Addr) (c8_ : Nat) (g9 : Nat) (A12_ : Option Addr) (c12_ : Nat) (g17 : Nat), qf = 3 ∧ ql = #[true, true, true, true, true, true, true, true, true, true, true, true, true, true, true, false, false, true, false] ∧ qa = ((((((A0.put (some 32) (.slice (some ⟨g2, 0, none⟩) 0 0)).put (some 35) (.slice A5_ l1.length c5_)).put (some 38) (.slice A8_ PP.length c8_)).put (some 39) (.slice (some ⟨g9, 0, none⟩) 0 0)).put (some 42) (.slice A12_ l3.length c12_)).put (some 8) (.pointer (some ⟨g17, 0, none⟩))) ∧ Aside0 (Below w16.heap.size w16 W) ∧ Aside0 (W.heap[g17]? = some (.cells #[.bool false, .slice none 0 0, .slice none 0 0, .slice none 0 0] 26 (0, 0))) ∧ Aside0 (w16.heap.size ≤ g17) ∧ Aside0 (Kd.R k48 48 W w16.heap.size (fun _ => True) (.slice A8_ PP.length c8_) PP) ∧ Aside0 (Kd.R (Kd.int .i64) 3 W w16.heap.size (fun _ => True) (.slice A12_ l3.length c12_) l3))
   ∨ (∃ (g2 : Nat) (A5_ : Option Addr) (c5_ : Nat) (A8_ : Option Addr) (c8_ : Nat) (g9 : Nat) (A12_ : Option Addr) (c12_ : Nat) (A15_ : Option Addr) (c15_ : Nat) (g17 : Nat), qf = 1 ∧ ql = #[true, true, true, true, true, true, true, true, true, true, true, true, true, true, true, true, true, true, false] ∧ qa = ((((((((A0.put (some 32) (.slice (some ⟨g2, 0, none⟩) 0 0)).put (some 35) (.slice A5_ l1.length c5_)).put (some 38) (.slice A8_ PP.length c8_)).put (some 39) (.slice (some ⟨g9, 0, none⟩) 0 0)).put (some 42) (.slice A12_ l3.length c12_)).put (some 45) (.slice A15_ DD.length c15_)).put (some 8) (.pointer (some ⟨g17, 0, none⟩))).put (some 46) (.agg #[.bool a, .slice A8_ PP.length c8_, .slice none 0 0, .slice A15_ DD.length c15_])) ∧ Aside0 (Below w16.heap.size w16 W) ∧ Aside0 (W.heap[g17]? = some (.cells #[.bool false, .slice none 0 0, .slice none 0 0, .slice none 0 0] 26 (0, 0))) ∧ Aside0 (w16.heap.size ≤ g17) ∧ Aside0 (Kd.R k48 48 W w16.heap.size (fun _ => True) (.slice A8_ PP.length c8_) PP) ∧ Aside0 (Kd.R (Kd.int .i64) 3 W w16.heap.size (fun _ => True) (.slice A15_ DD.length c15_) DD))) ?_ (.inl ⟨rfl, by kernel_rfl, rfl, SB⟩)
  clear SB
  intro qf ql qa W hJ ih
  rcases hJ with J | J | J | J | J | J | J | J | J | J | J | J | J | J | J | J | J | J | J | J
  · obtain ⟨rfl, rfl, rfl, SB⟩ := J
    refine wpAnyH_ready (rs := [2, 9, 17]) (by kernel_rfl) (by simp) ?_
    refine (AllReadyH.cons rfl (fun K hK => ?_) (AllReadyH.cons rfl (fun K hK => ?_) (AllReadyH.cons rfl (fun K hK => ?_) AllReadyH.nil)))
    · go_simp
      obtain ⟨g18, hg18⟩ : ∃ n, n = W.heap.size := ⟨_, rfl⟩
      obtain ⟨w17, hw17⟩ : ∃ x, x = W.alloc (.cells #[] 48) := ⟨_, rfl⟩
      have tn := heap_alloc_new W (.cells #[] 48)
      have hB := below_alloc (Below.refl W.heap.size W) (.cells #[] 48)
      rw [← hw17] at tn hB
      rw [← hg18] at tn
      have GSB_row_ : Aside0 (w16.heap.size ≤ g18) := ⟨by rw [hg18]; exact SB.out.size⟩
      replace SB := xm hB SB
      have T_row_ := Aside0.mk tn
      clear tn hB
      rw [← hw17]
      try rw [← hg18]
      clear hw17 hg18
      have R_p := Aside0.mk (row_nil k48 (ok := fun _ => True) T_row_.out GSB_row_.out trivial)
      refine hK.out _ _ (MK.out _ SB.out) (fun hNew => ?_)
      clear hK K hNew
      exact ih _ _ _ _ (by decide) (.inr (.inl ⟨g18, rfl, by kernel_rfl, by simp only [Act.put, List.getElem_toArray, List.getElem_cons_zero, List.getElem_cons_succ, List.setIfInBounds_toArray, List.set_cons_zero, List.set_cons_succ], SB, R_p⟩))
    · go_simp
      obtain ⟨g20, hg20⟩ : ∃ n, n = W.heap.size := ⟨_, rfl⟩
      obtain ⟨w19, hw19⟩ : ∃ x, x = W.alloc (.cells #[] 3) := ⟨_, rfl⟩
      have tn := heap_alloc_new W (.cells #[] 3)
      have hB := below_alloc (Below.refl W.heap.size W) (.cells #[] 3)
      rw [← hw19] at tn hB
      rw [← hg20] at tn
      have GSB_row_ : Aside0 (w16.heap.size ≤ g20) := ⟨by rw [hg20]; exact SB.out.size⟩
      replace SB := xm hB SB
      have T_row_ := Aside0.mk tn
      clear tn hB
      rw [← hw19]
      try rw [← hg20]
      clear hw19 hg20
      have R_d := Aside0.mk (row_nil (Kd.int .i64) (ok := fun _ => True) T_row_.out GSB_row_.out trivial)
      refine hK.out _ _ (MK.out _ SB.out) (fun hNew => ?_)
      clear hK K hNew
      exact ih _ _ _ _ (by decide) (.inr (.inr (.inl ⟨g20, rfl, by kernel_rfl, by simp only [Act.put, List.getElem_toArray, List.getElem_cons_zero, List.getElem_cons_succ, List.setIfInBounds_toArray, List.set_cons_zero, List.set_cons_succ], SB, R_d⟩)))
    · go_simp
      obtain ⟨g22, hg22⟩ : ∃ n, n = W.heap.size := ⟨_, rfl⟩
      obtain ⟨w21, hw21⟩ : ∃ x, x = W.alloc (.cells #[.bool false, .slice none 0 0, .slice none 0 0, .slice none 0 0] 26) := ⟨_, rfl⟩
      have tn := heap_alloc_new W (.cells #[.bool false, .slice none 0 0, .slice none 0 0, .slice none 0 0] 26)
      have hB := below_alloc (Below.refl W.heap.size W) (.cells #[.bool false, .slice none 0 0, .slice none 0 0, .slice none 0 0] 26)
      rw [← hw21] at tn hB
      rw [← hg22] at tn
      have GSB_g8 : Aside0 (w16.heap.size ≤ g22) := ⟨by rw [hg22]; exact SB.out.size⟩
      replace SB := xm hB SB
      have T_g8 := Aside0.mk tn
      clear tn hB
      rw [← hw21]
      try rw [← hg22]
      clear hw21 hg22
      refine hK.out _ _ (MK.out _ SB.out) (fun hNew => ?_)
      clear hK K hNew
      exact ih _ _ _ _ (by decide) (.inr (.inr (.inr (.inl ⟨g22, rfl, by kernel_rfl, by simp only [Act.put, List.getElem_toArray, List.getElem_cons_zero, List.getElem_cons_succ, List.setIfInBounds_toArray, List.set_cons_zero, List.set_cons_succ], SB, T_g8, GSB_g8⟩))))
  · obtain ⟨g2, rfl, rfl, rfl, SB, R_p⟩ := J
    simp only [Act.put, List.getElem_toArray, List.getElem_cons_zero, List.getElem_cons_succ, List.setIfInBounds_toArray, List.set_cons_zero, List.set_cons_succ]
    refine wpAnyH_ready (rs := [5, 9, 17]) (by kernel_rfl) (by simp) ?_
    refine (AllReadyH.cons rfl (fun K hK => ?_) (AllReadyH.cons rfl (fun K hK => ?_) (AllReadyH.cons rfl (fun K hK => ?_) AllReadyH.nil)))
    · refine Kd.R_append_rows_step k48 (w0 := w16) w16.heap.size (by rfl) (.tmp 32) (.tmp 34) 22 48 (.agg #[(.string ⟨#[]⟩), (.string ⟨#[]⟩)]) 32 rfl Try.underlying22 info48 rfl (by decide) (by decide) (.slice (some ⟨g2, 0, none⟩) 0 0) ([] : List S48) l1 A1 l1.length c1 (fun _ => True) (fun _ => False) rfl rfl R_p.out ((Kd.C_below HR1.out (BB.out.trans (SB.out.mono BB.out.size)))) (fun _ _ h => h) (fun _ h => h.elim) (fun _ _ => trivial) SB.out SB.out.size (by have := HLEN.out; (try simp only [List.length_nil]); omega) ?_
      intro v1 w25 ho hb hg hat
      rw [List.nil_append] at ho
      obtain ⟨Ax23, cx24, rfl⟩ := Kd.R_slice ho
      replace R_p := Aside0.mk ho
      replace SB := Aside0.mk hb
      clear ho hb hg hat
      refine hK.out _ _ (MK.out _ SB.out) (fun hNew => ?_)
      clear hK K hNew
      exact ih _ _ _ _ (by decide) (.inr (.inr (.inr (.inr (.inl ⟨g2, Ax23, cx24, rfl, by kernel_rfl, by simp only [Act.put, List.getElem_toArray, List.getElem_cons_zero, List.getElem_cons_succ, List.setIfInBounds_toArray, List.set_cons_zero, List.set_cons_succ], SB, R_p⟩)))))
    · go_simp
      obtain ⟨g27, hg27⟩ : ∃ n, n = W.heap.size := ⟨_, rfl⟩
      obtain ⟨w26, hw26⟩ : ∃ x, x = W.alloc (.cells #[] 3) := ⟨_, rfl⟩
      have tn := heap_alloc_new W (.cells #[] 3)
      have hB := below_alloc (Below.refl W.heap.size W) (.cells #[] 3)
      rw [← hw26] at tn hB
      rw [← hg27] at tn
      have GSB_row_ : Aside0 (w16.heap.size ≤ g27) := ⟨by rw [hg27]; exact SB.out.size⟩
      replace R_p := rm hB R_p; replace SB := xm hB SB
      have T_row_ := Aside0.mk tn
      clear tn hB
      rw [← hw26]
      try rw [← hg27]
      clear hw26 hg27
      have R_d := Aside0.mk (row_nil (Kd.int .i64) (ok := fun _ => True) T_row_.out GSB_row_.out trivial)
      refine hK.out _ _ (MK.out _ SB.out) (fun hNew => ?_)
      clear hK K hNew
      exact ih _ _ _ _ (by decide) (.inr (.inr (.inr (.inr (.inr (.inl ⟨g2, g27, rfl, by kernel_rfl, by simp only [Act.put, List.getElem_toArray, List.getElem_cons_zero, List.getElem_cons_succ, List.setIfInBounds_toArray, List.set_cons_zero, List.set_cons_succ], SB, R_p, R_d⟩))))))
    · go_simp
      obtain ⟨g29, hg29⟩ : ∃ n, n = W.heap.size := ⟨_, rfl⟩
      obtain ⟨w28, hw28⟩ : ∃ x, x = W.alloc (.cells #[.bool false, .slice none 0 0, .slice none 0 0, .slice none 0 0] 26) := ⟨_, rfl⟩
      have tn := heap_alloc_new W (.cells #[.bool false, .slice none 0 0, .slice none 0 0, .slice none 0 0] 26)
      have hB := below_alloc (Below.refl W.heap.size W) (.cells #[.bool false, .slice none 0 0, .slice none 0 0, .slice none 0 0] 26)
      rw [← hw28] at tn hB
      rw [← hg29] at tn
      have GSB_g8 : Aside0 (w16.heap.size ≤ g29) := ⟨by rw [hg29]; exact SB.out.size⟩
      replace R_p := rm hB R_p; replace SB := xm hB SB
      have T_g8 := Aside0.mk tn
      clear tn hB
      rw [← hw28]
      try rw [← hg29]
      clear hw28 hg29
      refine hK.out _ _ (MK.out _ SB.out) (fun hNew => ?_)
      clear hK K hNew
      exact ih _ _ _ _ (by decide) (.inr (.inr (.inr (.inr (.inr (.inr (.inl ⟨g2, g29, rfl, by kernel_rfl, by simp only [Act.put, List.getElem_toArray, List.getElem_cons_zero, List.getElem_cons_succ, List.setIfInBounds_toArray, List.set_cons_zero, List.set_cons_succ], SB, T_g8, GSB_g8, R_p⟩)))))))
  · obtain ⟨g9, rfl, rfl, rfl, SB, R_d⟩ := J
    simp only [Act.put, List.getElem_toArray, List.getElem_cons_zero, List.getElem_cons_succ, List.setIfInBounds_toArray, List.set_cons_zero, List.set_cons_succ]
    refine wpAnyH_ready (rs := [2, 17]) (by kernel_rfl) (by simp) ?_
    refine (AllReadyH.cons rfl (fun K hK => ?_) (AllReadyH.cons rfl (fun K hK => ?_) AllReadyH.nil))
    · go_simp
      obtain ⟨g31, hg31⟩ : ∃ n, n = W.heap.size := ⟨_, rfl⟩
      obtain ⟨w30, hw30⟩ : ∃ x, x = W.alloc (.cells #[] 48) := ⟨_, rfl⟩
      have tn := heap_alloc_new W (.cells #[] 48)
      have hB := below_alloc (Below.refl W.heap.size W) (.cells #[] 48)
      rw [← hw30] at tn hB
      rw [← hg31] at tn
      have GSB_row_ : Aside0 (w16.heap.size ≤ g31) := ⟨by rw [hg31]; exact SB.out.size⟩
      replace R_d := rm hB R_d; replace SB := xm hB SB
      have T_row_ := Aside0.mk tn
      clear tn hB
      rw [← hw30]
      try rw [← hg31]
      clear hw30 hg31
      have R_p := Aside0.mk (row_nil k48 (ok := fun _ => True) T_row_.out GSB_row_.out trivial)
      refine hK.out _ _ (MK.out _ SB.out) (fun hNew => ?_)
      clear hK K hNew
      exact ih _ _ _ _ (by decide) (.inr (.inr (.inr (.inr (.inr (.inl ⟨g31, g9, rfl, by kernel_rfl, by simp only [Act.put, List.getElem_toArray, List.getElem_cons_zero, List.getElem_cons_succ, List.setIfInBounds_toArray, List.set_cons_zero, List.set_cons_succ], SB, R_p, R_d⟩))))))
    · go_simp
      obtain ⟨g33, hg33⟩ : ∃ n, n = W.heap.size := ⟨_, rfl⟩
      obtain ⟨w32, hw32⟩ : ∃ x, x = W.alloc (.cells #[.bool false, .slice none 0 0, .slice none 0 0, .slice none 0 0] 26) := ⟨_, rfl⟩
      have tn := heap_alloc_new W (.cells #[.bool false, .slice none 0 0, .slice none 0 0, .slice none 0 0] 26)
      have hB := below_alloc (Below.refl W.heap.size W) (.cells #[.bool false, .slice none 0 0, .slice none 0 0, .slice none 0 0] 26)
      rw [← hw32] at tn hB
      rw [← hg33] at tn
      have GSB_g8 : Aside0 (w16.heap.size ≤ g33) := ⟨by rw [hg33]; exact SB.out.size⟩
      replace R_d := rm hB R_d; replace SB := xm hB SB
      have T_g8 := Aside0.mk tn
      clear tn hB
      rw [← hw32]
      try rw [← hg33]
      clear hw32 hg33
      refine hK.out _ _ (MK.out _ SB.out) (fun hNew => ?_)
      clear hK K hNew
      exact ih _ _ _ _ (by decide) (.inr (.inr (.inr (.inr (.inr (.inr (.inr (.inl ⟨g9, g33, rfl, by kernel_rfl, by simp only [Act.put, List.getElem_toArray, List.getElem_cons_zero, List.getElem_cons_succ, List.setIfInBounds_toArray, List.set_cons_zero, List.set_cons_succ], SB, T_g8, GSB_g8, R_d⟩))))))))
  · obtain ⟨g17, rfl, rfl, rfl, SB, T_g8, GSB_g8⟩ := J
    simp only [Act.put, List.getElem_toArray, List.getElem_cons_zero, List.getElem_cons_succ, List.setIfInBounds_toArray, List.set_cons_zero, List.set_cons_succ]
    refine wpAnyH_ready (rs := [2, 9]) (by kernel_rfl) (by simp) ?_
    refine (AllReadyH.cons rfl (fun K hK => ?_) (AllReadyH.cons rfl (fun K hK => ?_) AllReadyH.nil))
    · go_simp
      obtain ⟨g35, hg35⟩ : ∃ n, n = W.heap.size := ⟨_, rfl⟩
      obtain ⟨w34, hw34⟩ : ∃ x, x = W.alloc (.cells #[] 48) := ⟨_, rfl⟩
      have tn := heap_alloc_new W (.cells #[] 48)
      have hB := below_alloc (Below.refl W.heap.size W) (.cells #[] 48)
      rw [← hw34] at tn hB
      rw [← hg35] at tn
      have GSB_row_ : Aside0 (w16.heap.size ≤ g35) := ⟨by rw [hg35]; exact SB.out.size⟩
      have NE_row__g8 : Aside0 (g17 ≠ g35) := ⟨by have := blk_lt T_g8.out; omega⟩
      replace T_g8 := bm hB T_g8; replace SB := xm hB SB
      have T_row_ := Aside0.mk tn
      clear tn hB
      rw [← hw34]
      try rw [← hg35]
      clear hw34 hg35
      have R_p := Aside0.mk (row_nil k48 (ok := fun _ => True) T_row_.out GSB_row_.out trivial)
      refine hK.out _ _ (MK.out _ SB.out) (fun hNew => ?_)
      clear hK K hNew
      exact ih _ _ _ _ (by decide) (.inr (.inr (.inr (.inr (.inr (.inr (.inl ⟨g35, g17, rfl, by kernel_rfl, by simp only [Act.put, List.getElem_toArray, List.getElem_cons_zero, List.getElem_cons_succ, List.setIfInBounds_toArray, List.set_cons_zero, List.set_cons_succ], SB, T_g8, GSB_g8, R_p⟩)))))))
    · go_simp
      obtain ⟨g37, hg37⟩ : ∃ n, n = W.heap.size := ⟨_, rfl⟩
      obtain ⟨w36, hw36⟩ : ∃ x, x = W.alloc (.cells #[] 3) := ⟨_, rfl⟩
      have tn := heap_alloc_new W (.cells #[] 3)
      have hB := below_alloc (Below.refl W.heap.size W) (.cells #[] 3)
      rw [← hw36] at tn hB
      rw [← hg37] at tn
      have GSB_row_ : Aside0 (w16.heap.size ≤ g37) := ⟨by rw [hg37]; exact SB.out.size⟩
      have NE_row__g8 : Aside0 (g17 ≠ g37) := ⟨by have := blk_lt T_g8.out; omega⟩
      replace T_g8 := bm hB T_g8; replace SB := xm hB SB
      have T_row_ := Aside0.mk tn
      clear tn hB
      rw [← hw36]
      try rw [← hg37]
      clear hw36 hg37
      have R_d := Aside0.mk (row_nil (Kd.int .i64) (ok := fun _ => True) T_row_.out GSB_row_.out trivial)
      refine hK.out _ _ (MK.out _ SB.out) (fun hNew => ?_)
      clear hK K hNew
      exact ih _ _ _ _ (by decide) (.inr (.inr (.inr (.inr (.inr (.inr (.inr (.inl ⟨g37, g17, rfl, by kernel_rfl, by simp only [Act.put, List.getElem_toArray, List.getElem_cons_zero, List.getElem_cons_succ, List.setIfInBounds_toArray, List.set_cons_zero, List.set_cons_succ], SB, T_g8, GSB_g8, R_d⟩))))))))
  · obtain ⟨g2, A5_, c5_, rfl, rfl, rfl, SB, R_p⟩ := J
    simp only [Act.put, List.getElem_toArray, List.getElem_cons_zero, List.getElem_cons_succ, List.setIfInBounds_toArray, List.set_cons_zero, List.set_cons_succ]
    refine wpAnyH_ready (rs := [8, 9, 17]) (by kernel_rfl) (by simp) ?_
    refine (AllReadyH.cons rfl (fun K hK => ?_) (AllReadyH.cons rfl (fun K hK => ?_) (AllReadyH.cons rfl (fun K hK => ?_) AllReadyH.nil)))
    · refine Kd.R_append_rows_step k48 (w0 := w16) w16.heap.size (by rfl) (.tmp 35) (.tmp 37) 22 48 (.agg #[(.string ⟨#[]⟩), (.string ⟨#[]⟩)]) 32 rfl Try.underlying22 info48 rfl (by decide) (by decide) (.slice A5_ l1.length c5_) l1 m1 B1 m1.length d1 (fun _ => True) (fun _ => False) rfl rfl R_p.out ((Kd.C_below HS1.out (BB.out.trans (SB.out.mono BB.out.size)))) (fun _ _ h => h) (fun _ h => h.elim) (fun _ _ => trivial) SB.out SB.out.size (by have := HLEN.out; (try simp only [List.length_nil]); omega) ?_
      intro v1 w40 ho hb hg hat
      rw [PPE.out] at ho
      obtain ⟨Ax38, cx39, rfl⟩ := Kd.R_slice ho
      replace R_p := Aside0.mk ho
      replace SB := Aside0.mk hb
      clear ho hb hg hat
      refine hK.out _ _ (MK.out _ SB.out) (fun hNew => ?_)
      clear hK K hNew
      exact ih _ _ _ _ (by decide) (.inr (.inr (.inr (.inr (.inr (.inr (.inr (.inr (.inl ⟨g2, A5_, c5_, Ax38, cx39, rfl, by kernel_rfl, by simp only [Act.put, List.getElem_toArray, List.getElem_cons_zero, List.getElem_cons_succ, List.setIfInBounds_toArray, List.set_cons_zero, List.set_cons_succ], SB, R_p⟩)))))))))
    · go_simp
      obtain ⟨g42, hg42⟩ : ∃ n, n = W.heap.size := ⟨_, rfl⟩
      obtain ⟨w41, hw41⟩ : ∃ x, x = W.alloc (.cells #[] 3) := ⟨_, rfl⟩
      have tn := heap_alloc_new W (.cells #[] 3)
      have hB := below_alloc (Below.refl W.heap.size W) (.cells #[] 3)
      rw [← hw41] at tn hB
      rw [← hg42] at tn
      have GSB_row_ : Aside0 (w16.heap.size ≤ g42) := ⟨by rw [hg42]; exact SB.out.size⟩
      replace R_p := rm hB R_p; replace SB := xm hB SB
      have T_row_ := Aside0.mk tn
      clear tn hB
      rw [← hw41]
      try rw [← hg42]
      clear hw41 hg42
      have R_d := Aside0.mk (row_nil (Kd.int .i64) (ok := fun _ => True) T_row_.out GSB_row_.out trivial)
      refine hK.out _ _ (MK.out _ SB.out) (fun hNew => ?_)
      clear hK K hNew
      exact ih _ _ _ _ (by decide) (.inr (.inr (.inr (.inr (.inr (.inr (.inr (.inr (.inr (.inl ⟨g2, A5_, c5_, g42, rfl, by kernel_rfl, by simp only [Act.put, List.getElem_toArray, List.getElem_cons_zero, List.getElem_cons_succ, List.setIfInBounds_toArray, List.set_cons_zero, List.set_cons_succ], SB, R_p, R_d⟩))))))))))
    · go_simp
      obtain ⟨g44, hg44⟩ : ∃ n, n = W.heap.size := ⟨_, rfl⟩
      obtain ⟨w43, hw43⟩ : ∃ x, x = W.alloc (.cells #[.bool false, .slice none 0 0, .slice none 0 0, .slice none 0 0] 26) := ⟨_, rfl⟩
      have tn := heap_alloc_new W (.cells #[.bool false, .slice none 0 0, .slice none 0 0, .slice none 0 0] 26)
      have hB := below_alloc (Below.refl W.heap.size W) (.cells #[.bool false, .slice none 0 0, .slice none 0 0, .slice none 0 0] 26)
      rw [← hw43] at tn hB
      rw [← hg44] at tn
      have GSB_g8 : Aside0 (w16.heap.size ≤ g44) := ⟨by rw [hg44]; exact SB.out.size⟩
      replace R_p := rm hB R_p; replace SB := xm hB SB
      have T_g8 := Aside0.mk tn
      clear tn hB
      rw [← hw43]
      try rw [← hg44]
      clear hw43 hg44
      refine hK.out _ _ (MK.out _ SB.out) (fun hNew => ?_)
      clear hK K hNew
      exact ih _ _ _ _ (by decide) (.inr (.inr (.inr (.inr (.inr (.inr (.inr (.inr (.inr (.inr (.inl ⟨g2, A5_, c5_, g44, rfl, by kernel_rfl, by simp only [Act.put, List.getElem_toArray, List.getElem_cons_zero, List.getElem_cons_succ, List.setIfInBounds_toArray, List.set_cons_zero, List.set_cons_succ], SB, T_g8, GSB_g8, R_p⟩)))))))))))
  · obtain ⟨g2, g9, rfl, rfl, rfl, SB, R_p, R_d⟩ := J
    simp only [Act.put, List.getElem_toArray, List.getElem_cons_zero, List.getElem_cons_succ, List.setIfInBounds_toArray, List.set_cons_zero, List.set_cons_succ]
    refine wpAnyH_ready (rs := [5, 17]) (by kernel_rfl) (by simp) ?_
    refine (AllReadyH.cons rfl (fun K hK => ?_) (AllReadyH.cons rfl (fun K hK => ?_) AllReadyH.nil))
    · refine Kd.R_append_rows_step k48 (w0 := w16) w16.heap.size (by rfl) (.tmp 32) (.tmp 34) 22 48 (.agg #[(.string ⟨#[]⟩), (.string ⟨#[]⟩)]) 32 rfl Try.underlying22 info48 rfl (by decide) (by decide) (.slice (some ⟨g2, 0, none⟩) 0 0) ([] : List S48) l1 A1 l1.length c1 (fun _ => True) (fun _ => False) rfl rfl R_p.out ((Kd.C_below HR1.out (BB.out.trans (SB.out.mono BB.out.size)))) (fun _ _ h => h) (fun _ h => h.elim) (fun _ _ => trivial) SB.out SB.out.size (by have := HLEN.out; (try simp only [List.length_nil]); omega) ?_
      intro v1 w47 ho hb hg hat
      rw [List.nil_append] at ho
      obtain ⟨Ax45, cx46, rfl⟩ := Kd.R_slice ho
      replace R_d := Aside0.mk (Kd.R_over R_d.out R_p.out (by decide) hg)
      replace R_p := Aside0.mk ho
      replace SB := Aside0.mk hb
      clear ho hb hg hat
      refine hK.out _ _ (MK.out _ SB.out) (fun hNew => ?_)
      clear hK K hNew
      exact ih _ _ _ _ (by decide) (.inr (.inr (.inr (.inr (.inr (.inr (.inr (.inr (.inr (.inl ⟨g2, Ax45, cx46, g9, rfl, by kernel_rfl, by simp only [Act.put, List.getElem_toArray, List.getElem_cons_zero, List.getElem_cons_succ, List.setIfInBounds_toArray, List.set_cons_zero, List.set_cons_succ], SB, R_p, R_d⟩))))))))))
    · go_simp
      obtain ⟨g49, hg49⟩ : ∃ n, n = W.heap.size := ⟨_, rfl⟩
      obtain ⟨w48, hw48⟩ : ∃ x, x = W.alloc (.cells #[.bool false, .slice none 0 0, .slice none 0 0, .slice none 0 0] 26) := ⟨_, rfl⟩
      have tn := heap_alloc_new W (.cells #[.bool false, .slice none 0 0, .slice none 0 0, .slice none 0 0] 26)
      have hB := below_alloc (Below.refl W.heap.size W) (.cells #[.bool false, .slice none 0 0, .slice none 0 0, .slice none 0 0] 26)
      rw [← hw48] at tn hB
      rw [← hg49] at tn
      have GSB_g8 : Aside0 (w16.heap.size ≤ g49) := ⟨by rw [hg49]; exact SB.out.size⟩
      replace R_p := rm hB R_p; replace R_d := rm hB R_d; replace SB := xm hB SB
      have T_g8 := Aside0.mk tn
      clear tn hB
      rw [← hw48]
      try rw [← hg49]
      clear hw48 hg49
      refine hK.out _ _ (MK.out _ SB.out) (fun hNew => ?_)
      clear hK K hNew
      exact ih _ _ _ _ (by decide) (.inr (.inr (.inr (.inr (.inr (.inr (.inr (.inr (.inr (.inr (.inr (.inl ⟨g2, g9, g49, rfl, by kernel_rfl, by simp only [Act.put, List.getElem_toArray, List.getElem_cons_zero, List.getElem_cons_succ, List.setIfInBounds_toArray, List.set_cons_zero, List.set_cons_succ], SB, T_g8, GSB_g8, R_p, R_d⟩))))))))))))
  · obtain ⟨g2, g17, rfl, rfl, rfl, SB, T_g8, GSB_g8, R_p⟩ := J
    simp only [Act.put, List.getElem_toArray, List.getElem_cons_zero, List.getElem_cons_succ, List.setIfInBounds_toArray, List.set_cons_zero, List.set_cons_succ]
    refine wpAnyH_ready (rs := [5, 9]) (by kernel_rfl) (by simp) ?_
    refine (AllReadyH.cons rfl (fun K hK => ?_) (AllReadyH.cons rfl (fun K hK => ?_) AllReadyH.nil))
    · refine Kd.R_append_rows_step k48 (w0 := w16) w16.heap.size (by rfl) (.tmp 32) (.tmp 34) 22 48 (.agg #[(.string ⟨#[]⟩), (.string ⟨#[]⟩)]) 32 rfl Try.underlying22 info48 rfl (by decide) (by decide) (.slice (some ⟨g2, 0, none⟩) 0 0) ([] : List S48) l1 A1 l1.length c1 (fun _ => True) (fun _ => False) rfl rfl R_p.out ((Kd.C_below HR1.out (BB.out.trans (SB.out.mono BB.out.size)))) (fun _ _ h => h) (fun _ h => h.elim) (fun _ _ => trivial) SB.out SB.out.size (by have := HLEN.out; (try simp only [List.length_nil]); omega) ?_
      intro v1 w52 ho hb hg hat
      rw [List.nil_append] at ho
      obtain ⟨Ax50, cx51, rfl⟩ := Kd.R_slice ho
      replace T_g8 := Aside0.mk (blk_grown T_g8.out hg (Kd.R_ne R_p.out T_g8.out (by decide)))
      replace R_p := Aside0.mk ho
      replace SB := Aside0.mk hb
      clear ho hb hg hat
      refine hK.out _ _ (MK.out _ SB.out) (fun hNew => ?_)
      clear hK K hNew
      exact ih _ _ _ _ (by decide) (.inr (.inr (.inr (.inr (.inr (.inr (.inr (.inr (.inr (.inr (.inl ⟨g2, Ax50, cx51, g17, rfl, by kernel_rfl, by simp only [Act.put, List.getElem_toArray, List.getElem_cons_zero, List.getElem_cons_succ, List.setIfInBounds_toArray, List.set_cons_zero, List.set_cons_succ], SB, T_g8, GSB_g8, R_p⟩)))))))))))
    · go_simp
      obtain ⟨g54, hg54⟩ : ∃ n, n = W.heap.size := ⟨_, rfl⟩
      obtain ⟨w53, hw53⟩ : ∃ x, x = W.alloc (.cells #[] 3) := ⟨_, rfl⟩
      have tn := heap_alloc_new W (.cells #[] 3)
      have hB := below_alloc (Below.refl W.heap.size W) (.cells #[] 3)
      rw [← hw53] at tn hB
      rw [← hg54] at tn
      have GSB_row_ : Aside0 (w16.heap.size ≤ g54) := ⟨by rw [hg54]; exact SB.out.size⟩
      have NE_row__g8 : Aside0 (g17 ≠ g54) := ⟨by have := blk_lt T_g8.out; omega⟩
      replace T_g8 := bm hB T_g8; replace R_p := rm hB R_p; replace SB := xm hB SB
      have T_row_ := Aside0.mk tn
      clear tn hB
      rw [← hw53]
      try rw [← hg54]
      clear hw53 hg54
      have R_d := Aside0.mk (row_nil (Kd.int .i64) (ok := fun _ => True) T_row_.out GSB_row_.out trivial)
      refine hK.out _ _ (MK.out _ SB.out) (fun hNew => ?_)
      clear hK K hNew
      exact ih _ _ _ _ (by decide) (.inr (.inr (.inr (.inr (.inr (.inr (.inr (.inr (.inr (.inr (.inr (.inl ⟨g2, g54, g17, rfl, by kernel_rfl, by simp only [Act.put, List.getElem_toArray, List.getElem_cons_zero, List.getElem_cons_succ, List.setIfInBounds_toArray, List.set_cons_zero, List.set_cons_succ], SB, T_g8, GSB_g8, R_p, R_d⟩))))))))))))
  · obtain ⟨g9, g17, rfl, rfl, rfl, SB, T_g8, GSB_g8, R_d⟩ := J
    simp only [Act.put, List.getElem_toArray, List.getElem_cons_zero, List.getElem_cons_succ, List.setIfInBounds_toArray, List.set_cons_zero, List.set_cons_succ]
    refine wpAnyH_ready (rs := [2]) (by kernel_rfl) (by simp) ?_
    refine (AllReadyH.cons rfl (fun K hK => ?_) AllReadyH.nil)
    go_simp
    obtain ⟨g56, hg56⟩ : ∃ n, n = W.heap.size := ⟨_, rfl⟩
    obtain ⟨w55, hw55⟩ : ∃ x, x = W.alloc (.cells #[] 48) := ⟨_, rfl⟩
    have tn := heap_alloc_new W (.cells #[] 48)
    have hB := below_alloc (Below.refl W.heap.size W) (.cells #[] 48)
    rw [← hw55] at tn hB
    rw [← hg56] at tn
    have GSB_row_ : Aside0 (w16.heap.size ≤ g56) := ⟨by rw [hg56]; exact SB.out.size⟩
    have NE_row__g8 : Aside0 (g17 ≠ g56) := ⟨by have := blk_lt T_g8.out; omega⟩
    replace T_g8 := bm hB T_g8; replace R_d := rm hB R_d; replace SB := xm hB SB
    have T_row_ := Aside0.mk tn
    clear tn hB
    rw [← hw55]
    try rw [← hg56]
    clear hw55 hg56
    have R_p := Aside0.mk (row_nil k48 (ok := fun _ => True) T_row_.out GSB_row_.out trivial)
    refine hK.out _ _ (MK.out _ SB.out) (fun hNew => ?_)
    clear hK K hNew
    exact ih _ _ _ _ (by decide) (.inr (.inr (.inr (.inr (.inr (.inr (.inr (.inr (.inr (.inr (.inr (.inl ⟨g56, g9, g17, rfl, by kernel_rfl, by simp only [Act.put, List.getElem_toArray, List.getElem_cons_zero, List.getElem_cons_succ, List.setIfInBounds_toArray, List.set_cons_zero, List.set_cons_succ], SB, T_g8, GSB_g8, R_p, R_d⟩))))))))))))
  · obtain ⟨g2, A5_, c5_, A8_, c8_, rfl, rfl, rfl, SB, R_p⟩ := J
    simp only [Act.put, List.getElem_toArray, List.getElem_cons_zero, List.getElem_cons_succ, List.setIfInBounds_toArray, List.set_cons_zero, List.set_cons_succ]
    refine wpAnyH_ready (rs := [9, 17]) (by kernel_rfl) (by simp) ?_
    refine (AllReadyH.cons rfl (fun K hK => ?_) (AllReadyH.cons rfl (fun K hK => ?_) AllReadyH.nil))
    · go_simp
      obtain ⟨g58, hg58⟩ : ∃ n, n = W.heap.size := ⟨_, rfl⟩
      obtain ⟨w57, hw57⟩ : ∃ x, x = W.alloc (.cells #[] 3) := ⟨_, rfl⟩
      have tn := heap_alloc_new W (.cells #[] 3)
      have hB := below_alloc (Below.refl W.heap.size W) (.cells #[] 3)
      rw [← hw57] at tn hB
      rw [← hg58] at tn
      have GSB_row_ : Aside0 (w16.heap.size ≤ g58) := ⟨by rw [hg58]; exact SB.out.size⟩
      replace R_p := rm hB R_p; replace SB := xm hB SB
      have T_row_ := Aside0.mk tn
      clear tn hB
      rw [← hw57]
      try rw [← hg58]
      clear hw57 hg58
      have R_d := Aside0.mk (row_nil (Kd.int .i64) (ok := fun _ => True) T_row_.out GSB_row_.out trivial)
      refine hK.out _ _ (MK.out _ SB.out) (fun hNew => ?_)
      clear hK K hNew
      exact ih _ _ _ _ (by decide) (.inr (.inr (.inr (.inr (.inr (.inr (.inr (.inr (.inr (.inr (.inr (.inr (.inl ⟨g2, A5_, c5_, A8_, c8_, g58, rfl, by kernel_rfl, by simp only [Act.put, List.getElem_toArray, List.getElem_cons_zero, List.getElem_cons_succ, List.setIfInBounds_toArray, List.set_cons_zero, List.set_cons_succ], SB, R_p, R_d⟩)))))))))))))
    · go_simp
      obtain ⟨g60, hg60⟩ : ∃ n, n = W.heap.size := ⟨_, rfl⟩
      obtain ⟨w59, hw59⟩ : ∃ x, x = W.alloc (.cells #[.bool false, .slice none 0 0, .slice none 0 0, .slice none 0 0] 26) := ⟨_, rfl⟩
      have tn := heap_alloc_new W (.cells #[.bool false, .slice none 0 0, .slice none 0 0, .slice none 0 0] 26)
      have hB := below_alloc (Below.refl W.heap.size W) (.cells #[.bool false, .slice none 0 0, .slice none 0 0, .slice none 0 0] 26)
      rw [← hw59] at tn hB
      rw [← hg60] at tn
      have GSB_g8 : Aside0 (w16.heap.size ≤ g60) := ⟨by rw [hg60]; exact SB.out.size⟩
      replace R_p := rm hB R_p; replace SB := xm hB SB
      have T_g8 := Aside0.mk tn
      clear tn hB
      rw [← hw59]
      try rw [← hg60]
      clear hw59 hg60
      refine hK.out _ _ (MK.out _ SB.out) (fun hNew => ?_)
      clear hK K hNew
      exact ih _ _ _ _ (by decide) (.inr (.inr (.inr (.inr (.inr (.inr (.inr (.inr (.inr (.inr (.inr (.inr (.inr (.inl ⟨g2, A5_, c5_, A8_, c8_, g60, rfl, by kernel_rfl, by simp only [Act.put, List.getElem_toArray, List.getElem_cons_zero, List.getElem_cons_succ, List.setIfInBounds_toArray, List.set_cons_zero, List.set_cons_succ], SB, T_g8, GSB_g8, R_p⟩))))))))))))))
  · obtain ⟨g2, A5_, c5_, g9, rfl, rfl, rfl, SB, R_p, R_d⟩ := J
    simp only [Act.put, List.getElem_toArray, List.getElem_cons_zero, List.getElem_cons_succ, List.setIfInBounds_toArray, List.set_cons_zero, List.set_cons_succ]
    refine wpAnyH_ready (rs := [8, 17]) (by kernel_rfl) (by simp) ?_
    refine (AllReadyH.cons rfl (fun K hK => ?_) (AllReadyH.cons rfl (fun K hK => ?_) AllReadyH.nil))
    · refine Kd.R_append_rows_step k48 (w0 := w16) w16.heap.size (by rfl) (.tmp 35) (.tmp 37) 22 48 (.agg #[(.string ⟨#[]⟩), (.string ⟨#[]⟩)]) 32 rfl Try.underlying22 info48 rfl (by decide) (by decide) (.slice A5_ l1.length c5_) l1 m1 B1 m1.length d1 (fun _ => True) (fun _ => False) rfl rfl R_p.out ((Kd.C_below HS1.out (BB.out.trans (SB.out.mono BB.out.size)))) (fun _ _ h => h) (fun _ h => h.elim) (fun _ _ => trivial) SB.out SB.out.size (by have := HLEN.out; (try simp only [List.length_nil]); omega) ?_
      intro v1 w63 ho hb hg hat
      rw [PPE.out] at ho
      obtain ⟨Ax61, cx62, rfl⟩ := Kd.R_slice ho
      replace R_d := Aside0.mk (Kd.R_over R_d.out R_p.out (by decide) hg)
      replace R_p := Aside0.mk ho
      replace SB := Aside0.mk hb
      clear ho hb hg hat
      refine hK.out _ _ (MK.out _ SB.out) (fun hNew => ?_)
      clear hK K hNew
      exact ih _ _ _ _ (by decide) (.inr (.inr (.inr (.inr (.inr (.inr (.inr (.inr (.inr (.inr (.inr (.inr (.inl ⟨g2, A5_, c5_, Ax61, cx62, g9, rfl, by kernel_rfl, by simp only [Act.put, List.getElem_toArray, List.getElem_cons_zero, List.getElem_cons_succ, List.setIfInBounds_toArray, List.set_cons_zero, List.set_cons_succ], SB, R_p, R_d⟩)))))))))))))
    · go_simp
      obtain ⟨g65, hg65⟩ : ∃ n, n = W.heap.size := ⟨_, rfl⟩
      obtain ⟨w64, hw64⟩ : ∃ x, x = W.alloc (.cells #[.bool false, .slice none 0 0, .slice none 0 0, .slice none 0 0] 26) := ⟨_, rfl⟩
      have tn := heap_alloc_new W (.cells #[.bool false, .slice none 0 0, .slice none 0 0, .slice none 0 0] 26)
      have hB := below_alloc (Below.refl W.heap.size W) (.cells #[.bool false, .slice none 0 0, .slice none 0 0, .slice none 0 0] 26)
      rw [← hw64] at tn hB
      rw [← hg65] at tn
      have GSB_g8 : Aside0 (w16.heap.size ≤ g65) := ⟨by rw [hg65]; exact SB.out.size⟩
      replace R_p := rm hB R_p; replace R_d := rm hB R_d; replace SB := xm hB SB
      have T_g8 := Aside0.mk tn
      clear tn hB
      rw [← hw64]
      try rw [← hg65]
      clear hw64 hg65
      refine hK.out _ _ (MK.out _ SB.out) (fun hNew => ?_)
      clear hK K hNew
      exact ih _ _ _ _ (by decide) (.inr (.inr (.inr (.inr (.inr (.inr (.inr (.inr (.inr (.inr (.inr (.inr (.inr (.inr (.inl ⟨g2, A5_, c5_, g9, g65, rfl, by kernel_rfl, by simp only [Act.put, List.getElem_toArray, List.getElem_cons_zero, List.getElem_cons_succ, List.setIfInBounds_toArray, List.set_cons_zero, List.set_cons_succ], SB, T_g8, GSB_g8, R_p, R_d⟩)))))))))))))))
  · obtain ⟨g2, A5_, c5_, g17, rfl, rfl, rfl, SB, T_g8, GSB_g8, R_p⟩ := J
    simp only [Act.put, List.getElem_toArray, List.getElem_cons_zero, List.getElem_cons_succ, List.setIfInBounds_toArray, List.set_cons_zero, List.set_cons_succ]
    refine wpAnyH_ready (rs := [8, 9]) (by kernel_rfl) (by simp) ?_
    refine (AllReadyH.cons rfl (fun K hK => ?_) (AllReadyH.cons rfl (fun K hK => ?_) AllReadyH.nil))
    · refine Kd.R_append_rows_step k48 (w0 := w16) w16.heap.size (by rfl) (.tmp 35) (.tmp 37) 22 48 (.agg #[(.string ⟨#[]⟩), (.string ⟨#[]⟩)]) 32 rfl Try.underlying22 info48 rfl (by decide) (by decide) (.slice A5_ l1.length c5_) l1 m1 B1 m1.length d1 (fun _ => True) (fun _ => False) rfl rfl R_p.out ((Kd.C_below HS1.out (BB.out.trans (SB.out.mono BB.out.size)))) (fun _ _ h => h) (fun _ h => h.elim) (fun _ _ => trivial) SB.out SB.out.size (by have := HLEN.out; (try simp only [List.length_nil]); omega) ?_
      intro v1 w68 ho hb hg hat
      rw [PPE.out] at ho
      obtain ⟨Ax66, cx67, rfl⟩ := Kd.R_slice ho
      replace T_g8 := Aside0.mk (blk_grown T_g8.out hg (Kd.R_ne R_p.out T_g8.out (by decide)))
      replace R_p := Aside0.mk ho
      replace SB := Aside0.mk hb
      clear ho hb hg hat
      refine hK.out _ _ (MK.out _ SB.out) (fun hNew => ?_)
      clear hK K hNew
      exact ih _ _ _ _ (by decide) (.inr (.inr (.inr (.inr (.inr (.inr (.inr (.inr (.inr (.inr (.inr (.inr (.inr (.inl ⟨g2, A5_, c5_, Ax66, cx67, g17, rfl, by kernel_rfl, by simp only [Act.put, List.getElem_toArray, List.getElem_cons_zero, List.getElem_cons_succ, List.setIfInBounds_toArray, List.set_cons_zero, List.set_cons_succ], SB, T_g8, GSB_g8, R_p⟩))))))))))))))
    · go_simp
      obtain ⟨g70, hg70⟩ : ∃ n, n = W.heap.size := ⟨_, rfl⟩
      obtain ⟨w69, hw69⟩ : ∃ x, x = W.alloc (.cells #[] 3) := ⟨_, rfl⟩
      have tn := heap_alloc_new W (.cells #[] 3)
      have hB := below_alloc (Below.refl W.heap.size W) (.cells #[] 3)
      rw [← hw69] at tn hB
      rw [← hg70] at tn
      have GSB_row_ : Aside0 (w16.heap.size ≤ g70) := ⟨by rw [hg70]; exact SB.out.size⟩
      have NE_row__g8 : Aside0 (g17 ≠ g70) := ⟨by have := blk_lt T_g8.out; omega⟩
      replace T_g8 := bm hB T_g8; replace R_p := rm hB R_p; replace SB := xm hB SB
      have T_row_ := Aside0.mk tn
      clear tn hB
      rw [← hw69]
      try rw [← hg70]
      clear hw69 hg70
      have R_d := Aside0.mk (row_nil (Kd.int .i64) (ok := fun _ => True) T_row_.out GSB_row_.out trivial)
      refine hK.out _ _ (MK.out _ SB.out) (fun hNew => ?_)
      clear hK K hNew
      exact ih _ _ _ _ (by decide) (.inr (.inr (.inr (.inr (.inr (.inr (.inr (.inr (.inr (.inr (.inr (.inr (.inr (.inr (.inl ⟨g2, A5_, c5_, g70, g17, rfl, by kernel_rfl, by simp only [Act.put, List.getElem_toArray, List.getElem_cons_zero, List.getElem_cons_succ, List.setIfInBounds_toArray, List.set_cons_zero, List.set_cons_succ], SB, T_g8, GSB_g8, R_p, R_d⟩)))))))))))))))
  · obtain ⟨g2, g9, g17, rfl, rfl, rfl, SB, T_g8, GSB_g8, R_p, R_d⟩ := J
    simp only [Act.put, List.getElem_toArray, List.getElem_cons_zero, List.getElem_cons_succ, List.setIfInBounds_toArray, List.set_cons_zero, List.set_cons_succ]
    refine wpAnyH_ready (rs := [5]) (by kernel_rfl) (by simp) ?_
    refine (AllReadyH.cons rfl (fun K hK => ?_) AllReadyH.nil)
    refine Kd.R_append_rows_step k48 (w0 := w16) w16.heap.size (by rfl) (.tmp 32) (.tmp 34) 22 48 (.agg #[(.string ⟨#[]⟩), (.string ⟨#[]⟩)]) 32 rfl Try.underlying22 info48 rfl (by decide) (by decide) (.slice (some ⟨g2, 0, none⟩) 0 0) ([] : List S48) l1 A1 l1.length c1 (fun _ => True) (fun _ => False) rfl rfl R_p.out ((Kd.C_below HR1.out (BB.out.trans (SB.out.mono BB.out.size)))) (fun _ _ h => h) (fun _ h => h.elim) (fun _ _ => trivial) SB.out SB.out.size (by have := HLEN.out; (try simp only [List.length_nil]); omega) ?_
    intro v1 w73 ho hb hg hat
    rw [List.nil_append] at ho
    obtain ⟨Ax71, cx72, rfl⟩ := Kd.R_slice ho
    replace T_g8 := Aside0.mk (blk_grown T_g8.out hg (Kd.R_ne R_p.out T_g8.out (by decide)))
    replace R_d := Aside0.mk (Kd.R_over R_d.out R_p.out (by decide) hg)
    replace R_p := Aside0.mk ho
    replace SB := Aside0.mk hb
    clear ho hb hg hat
    refine hK.out _ _ (MK.out _ SB.out) (fun hNew => ?_)
    clear hK K hNew
    exact ih _ _ _ _ (by decide) (.inr (.inr (.inr (.inr (.inr (.inr (.inr (.inr (.inr (.inr (.inr (.inr (.inr (.inr (.inl ⟨g2, Ax71, cx72, g9, g17, rfl, by kernel_rfl, by simp only [Act.put, List.getElem_toArray, List.getElem_cons_zero, List.getElem_cons_succ, List.setIfInBounds_toArray, List.set_cons_zero, List.set_cons_succ], SB, T_g8, GSB_g8, R_p, R_d⟩)))))))))))))))
  · obtain ⟨g2, A5_, c5_, A8_, c8_, g9, rfl, rfl, rfl, SB, R_p, R_d⟩ := J
    simp only [Act.put, List.getElem_toArray, List.getElem_cons_zero, List.getElem_cons_succ, List.setIfInBounds_toArray, List.set_cons_zero, List.set_cons_succ]
    refine wpAnyH_ready (rs := [12, 17]) (by kernel_rfl) (by simp) ?_
    refine (AllReadyH.cons rfl (fun K hK => ?_) (AllReadyH.cons rfl (fun K hK => ?_) AllReadyH.nil))
    · refine Kd.R_append_rows_step (Kd.int .i64) (w0 := w16) w16.heap.size (by rfl) (.tmp 39) (.tmp 41) 24 3 (.int .i64 0) 8 rfl Try.underlying24 info3 rfl (by decide) (by decide) (.slice (some ⟨g9, 0, none⟩) 0 0) ([] : List Int) l3 A3 l3.length c3 (fun _ => True) (fun _ => False) rfl rfl R_d.out ((Kd.C_below HR3.out (BB.out.trans (SB.out.mono BB.out.size)))) (fun _ _ h => h) (fun _ h => h.elim) (fun _ _ => trivial) SB.out SB.out.size (by have := HLEN.out; (try simp only [List.length_nil]); omega) ?_
      intro v1 w76 ho hb hg hat
      rw [List.nil_append] at ho
      obtain ⟨Ax74, cx75, rfl⟩ := Kd.R_slice ho
      replace R_p := Aside0.mk (Kd.R_over R_p.out R_d.out (by decide) hg)
      replace R_d := Aside0.mk ho
      replace SB := Aside0.mk hb
      clear ho hb hg hat
      refine hK.out _ _ (MK.out _ SB.out) (fun hNew => ?_)
      clear hK K hNew
      exact ih _ _ _ _ (by decide) (.inr (.inr (.inr (.inr (.inr (.inr (.inr (.inr (.inr (.inr (.inr (.inr (.inr (.inr (.inr (.inl ⟨g2, A5_, c5_, A8_, c8_, g9, Ax74, cx75, rfl, by kernel_rfl, by simp only [Act.put, List.getElem_toArray, List.getElem_cons_zero, List.getElem_cons_succ, List.setIfInBounds_toArray, List.set_cons_zero, List.set_cons_succ], SB, R_p, R_d⟩))))))))))))))))
    · go_simp
      obtain ⟨g78, hg78⟩ : ∃ n, n = W.heap.size := ⟨_, rfl⟩
      obtain ⟨w77, hw77⟩ : ∃ x, x = W.alloc (.cells #[.bool false, .slice none 0 0, .slice none 0 0, .slice none 0 0] 26) := ⟨_, rfl⟩
      have tn := heap_alloc_new W (.cells #[.bool false, .slice none 0 0, .slice none 0 0, .slice none 0 0] 26)
      have hB := below_alloc (Below.refl W.heap.size W) (.cells #[.bool false, .slice none 0 0, .slice none 0 0, .slice none 0 0] 26)
      rw [← hw77] at tn hB
      rw [← hg78] at tn
      have GSB_g8 : Aside0 (w16.heap.size ≤ g78) := ⟨by rw [hg78]; exact SB.out.size⟩
      replace R_p := rm hB R_p; replace R_d := rm hB R_d; replace SB := xm hB SB
      have T_g8 := Aside0.mk tn
      clear tn hB
      rw [← hw77]
      try rw [← hg78]
      clear hw77 hg78
      refine hK.out _ _ (MK.out _ SB.out) (fun hNew => ?_)
      clear hK K hNew
      exact ih _ _ _ _ (by decide) (.inr (.inr (.inr (.inr (.inr (.inr (.inr (.inr (.inr (.inr (.inr (.inr (.inr (.inr (.inr (.inr (.inl ⟨g2, A5_, c5_, A8_, c8_, g9, g78, rfl, by kernel_rfl, by simp only [Act.put, List.getElem_toArray, List.getElem_cons_zero, List.getElem_cons_succ, List.setIfInBounds_toArray, List.set_cons_zero, List.set_cons_succ], SB, T_g8, GSB_g8, R_p, R_d⟩)))))))))))))))))
  · obtain ⟨g2, A5_, c5_, A8_, c8_, g17, rfl, rfl, rfl, SB, T_g8, GSB_g8, R_p⟩ := J
    simp only [Act.put, List.getElem_toArray, List.getElem_cons_zero, List.getElem_cons_succ, List.setIfInBounds_toArray, List.set_cons_zero, List.set_cons_succ]
    refine wpAnyH_ready (rs := [9]) (by kernel_rfl) (by simp) ?_
    refine (AllReadyH.cons rfl (fun K hK => ?_) AllReadyH.nil)
    go_simp
    obtain ⟨g80, hg80⟩ : ∃ n, n = W.heap.size := ⟨_, rfl⟩
    obtain ⟨w79, hw79⟩ : ∃ x, x = W.alloc (.cells #[] 3) := ⟨_, rfl⟩
    have tn := heap_alloc_new W (.cells #[] 3)
    have hB := below_alloc (Below.refl W.heap.size W) (.cells #[] 3)
    rw [← hw79] at tn hB
    rw [← hg80] at tn
    have GSB_row_ : Aside0 (w16.heap.size ≤ g80) := ⟨by rw [hg80]; exact SB.out.size⟩
    have NE_row__g8 : Aside0 (g17 ≠ g80) := ⟨by have := blk_lt T_g8.out; omega⟩
    replace T_g8 := bm hB T_g8; replace R_p := rm hB R_p; replace SB := xm hB SB
    have T_row_ := Aside0.mk tn
    clear tn hB
    rw [← hw79]
    try rw [← hg80]
    clear hw79 hg80
    have R_d := Aside0.mk (row_nil (Kd.int .i64) (ok := fun _ => True) T_row_.out GSB_row_.out trivial)
    refine hK.out _ _ (MK.out _ SB.out) (fun hNew => ?_)
    clear hK K hNew
    exact ih _ _ _ _ (by decide) (.inr (.inr (.inr (.inr (.inr (.inr (.inr (.inr (.inr (.inr (.inr (.inr (.inr (.inr (.inr (.inr (.inl ⟨g2, A5_, c5_, A8_, c8_, g80, g17, rfl, by kernel_rfl, by simp only [Act.put, List.getElem_toArray, List.getElem_cons_zero, List.getElem_cons_succ, List.setIfInBounds_toArray, List.set_cons_zero, List.set_cons_succ], SB, T_g8, GSB_g8, R_p, R_d⟩)))))))))))))))))
  · obtain ⟨g2, A5_, c5_, g9, g17, rfl, rfl, rfl, SB, T_g8, GSB_g8, R_p, R_d⟩ := J
    simp only [Act.put, List.getElem_toArray, List.getElem_cons_zero, List.getElem_cons_succ, List.setIfInBounds_toArray, List.set_cons_zero, List.set_cons_succ]
    refine wpAnyH_ready (rs := [8]) (by kernel_rfl) (by simp) ?_
    refine (AllReadyH.cons rfl (fun K hK => ?_) AllReadyH.nil)
    refine Kd.R_append_rows_step k48 (w0 := w16) w16.heap.size (by rfl) (.tmp 35) (.tmp 37) 22 48 (.agg #[(.string ⟨#[]⟩), (.string ⟨#[]⟩)]) 32 rfl Try.underlying22 info48 rfl (by decide) (by decide) (.slice A5_ l1.length c5_) l1 m1 B1 m1.length d1 (fun _ => True) (fun _ => False) rfl rfl R_p.out ((Kd.C_below HS1.out (BB.out.trans (SB.out.mono BB.out.size)))) (fun _ _ h => h) (fun _ h => h.elim) (fun _ _ => trivial) SB.out SB.out.size (by have := HLEN.out; (try simp only [List.length_nil]); omega) ?_
    intro v1 w83 ho hb hg hat
    rw [PPE.out] at ho
    obtain ⟨Ax81, cx82, rfl⟩ := Kd.R_slice ho
    replace T_g8 := Aside0.mk (blk_grown T_g8.out hg (Kd.R_ne R_p.out T_g8.out (by decide)))
    replace R_d := Aside0.mk (Kd.R_over R_d.out R_p.out (by decide) hg)
    replace R_p := Aside0.mk ho
    replace SB := Aside0.mk hb
    clear ho hb hg hat
    refine hK.out _ _ (MK.out _ SB.out) (fun hNew => ?_)
    clear hK K hNew
    exact ih _ _ _ _ (by decide) (.inr (.inr (.inr (.inr (.inr (.inr (.inr (.inr (.inr (.inr (.inr (.inr (.inr (.inr (.inr (.inr (.inl ⟨g2, A5_, c5_, Ax81, cx82, g9, g17, rfl, by kernel_rfl, by simp only [Act.put, List.getElem_toArray, List.getElem_cons_zero, List.getElem_cons_succ, List.setIfInBounds_toArray, List.set_cons_zero, List.set_cons_succ], SB, T_g8, GSB_g8, R_p, R_d⟩)))))))))))))))))
  · obtain ⟨g2, A5_, c5_, A8_, c8_, g9, A12_, c12_, rfl, rfl, rfl, SB, R_p, R_d⟩ := J
    simp only [Act.put, List.getElem_toArray, List.getElem_cons_zero, List.getElem_cons_succ, List.setIfInBounds_toArray, List.set_cons_zero, List.set_cons_succ]
    refine wpAnyH_ready (rs := [15, 17]) (by kernel_rfl) (by simp) ?_
    refine (AllReadyH.cons rfl (fun K hK => ?_) (AllReadyH.cons rfl (fun K hK => ?_) AllReadyH.nil))
    · refine Kd.R_append_rows_step (Kd.int .i64) (w0 := w16) w16.heap.size (by rfl) (.tmp 42) (.tmp 44) 24 3 (.int .i64 0) 8 rfl Try.underlying24 info3 rfl (by decide) (by decide) (.slice A12_ l3.length c12_) l3 m3 B3 m3.length d3 (fun _ => True) (fun _ => False) rfl rfl R_d.out ((Kd.C_below HS3.out (BB.out.trans (SB.out.mono BB.out.size)))) (fun _ _ h => h) (fun _ h => h.elim) (fun _ _ => trivial) SB.out SB.out.size (by have := HLEN.out; (try simp only [List.length_nil]); omega) ?_
      intro v1 w86 ho hb hg hat
      rw [DDE.out] at ho
      obtain ⟨Ax84, cx85, rfl⟩ := Kd.R_slice ho
      replace R_p := Aside0.mk (Kd.R_over R_p.out R_d.out (by decide) hg)
      replace R_d := Aside0.mk ho
      replace SB := Aside0.mk hb
      clear ho hb hg hat
      refine hK.out _ _ (MK.out _ SB.out) (fun hNew => ?_)
      clear hK K hNew
      have hHeld := MK.out _ SB.out
      refine nd_take 16 hHeld ?_
      clear hHeld
      exact ih _ _ _ _ (by decide) (.inr (.inr (.inr (.inr (.inr (.inr (.inr (.inr (.inr (.inr (.inr (.inr (.inr (.inr (.inr (.inr (.inr (.inl ⟨g2, A5_, c5_, A8_, c8_, g9, A12_, c12_, Ax84, cx85, rfl, by kernel_rfl, by simp only [Act.put, List.getElem_toArray, List.getElem_cons_zero, List.getElem_cons_succ, List.setIfInBounds_toArray, List.set_cons_zero, List.set_cons_succ], SB, R_p, R_d⟩))))))))))))))))))
    · go_simp
      obtain ⟨g88, hg88⟩ : ∃ n, n = W.heap.size := ⟨_, rfl⟩
      obtain ⟨w87, hw87⟩ : ∃ x, x = W.alloc (.cells #[.bool false, .slice none 0 0, .slice none 0 0, .slice none 0 0] 26) := ⟨_, rfl⟩
      have tn := heap_alloc_new W (.cells #[.bool false, .slice none 0 0, .slice none 0 0, .slice none 0 0] 26)
      have hB := below_alloc (Below.refl W.heap.size W) (.cells #[.bool false, .slice none 0 0, .slice none 0 0, .slice none 0 0] 26)
      rw [← hw87] at tn hB
      rw [← hg88] at tn
      have GSB_g8 : Aside0 (w16.heap.size ≤ g88) := ⟨by rw [hg88]; exact SB.out.size⟩
      replace R_p := rm hB R_p; replace R_d := rm hB R_d; replace SB := xm hB SB
      have T_g8 := Aside0.mk tn
      clear tn hB
      rw [← hw87]
      try rw [← hg88]
      clear hw87 hg88
      refine hK.out _ _ (MK.out _ SB.out) (fun hNew => ?_)
      clear hK K hNew
      exact ih _ _ _ _ (by decide) (.inr (.inr (.inr (.inr (.inr (.inr (.inr (.inr (.inr (.inr (.inr (.inr (.inr (.inr (.inr (.inr (.inr (.inr (.inl ⟨g2, A5_, c5_, A8_, c8_, g9, A12_, c12_, g88, rfl, by kernel_rfl, by simp only [Act.put, List.getElem_toArray, List.getElem_cons_zero, List.getElem_cons_succ, List.setIfInBounds_toArray, List.set_cons_zero, List.set_cons_succ], SB, T_g8, GSB_g8, R_p, R_d⟩)))))))))))))))))))
  · obtain ⟨g2, A5_, c5_, A8_, c8_, g9, g17, rfl, rfl, rfl, SB, T_g8, GSB_g8, R_p, R_d⟩ := J
    simp only [Act.put, List.getElem_toArray, List.getElem_cons_zero, List.getElem_cons_succ, List.setIfInBounds_toArray, List.set_cons_zero, List.set_cons_succ]
    refine wpAnyH_ready (rs := [12]) (by kernel_rfl) (by simp) ?_
    refine (AllReadyH.cons rfl (fun K hK => ?_) AllReadyH.nil)
    refine Kd.R_append_rows_step (Kd.int .i64) (w0 := w16) w16.heap.size (by rfl) (.tmp 39) (.tmp 41) 24 3 (.int .i64 0) 8 rfl Try.underlying24 info3 rfl (by decide) (by decide) (.slice (some ⟨g9, 0, none⟩) 0 0) ([] : List Int) l3 A3 l3.length c3 (fun _ => True) (fun _ => False) rfl rfl R_d.out ((Kd.C_below HR3.out (BB.out.trans (SB.out.mono BB.out.size)))) (fun _ _ h => h) (fun _ h => h.elim) (fun _ _ => trivial) SB.out SB.out.size (by have := HLEN.out; (try simp only [List.length_nil]); omega) ?_
    intro v1 w91 ho hb hg hat
    rw [List.nil_append] at ho
    obtain ⟨Ax89, cx90, rfl⟩ := Kd.R_slice ho
    replace T_g8 := Aside0.mk (blk_grown T_g8.out hg (Kd.R_ne R_d.out T_g8.out (by decide)))
    replace R_p := Aside0.mk (Kd.R_over R_p.out R_d.out (by decide) hg)
    replace R_d := Aside0.mk ho
    replace SB := Aside0.mk hb
    clear ho hb hg hat
    refine hK.out _ _ (MK.out _ SB.out) (fun hNew => ?_)
    clear hK K hNew
    exact ih _ _ _ _ (by decide) (.inr (.inr (.inr (.inr (.inr (.inr (.inr (.inr (.inr (.inr (.inr (.inr (.inr (.inr (.inr (.inr (.inr (.inr (.inl ⟨g2, A5_, c5_, A8_, c8_, g9, Ax89, cx90, g17, rfl, by kernel_rfl, by simp only [Act.put, List.getElem_toArray, List.getElem_cons_zero, List.getElem_cons_succ, List.setIfInBounds_toArray, List.set_cons_zero, List.set_cons_succ], SB, T_g8, GSB_g8, R_p, R_d⟩)))))))))))))))))))
  · obtain ⟨g2, A5_, c5_, A8_, c8_, g9, A12_, c12_, A15_, c15_, rfl, rfl, rfl, SB, R_p, R_d⟩ := J
    simp only [Act.put, List.getElem_toArray, List.getElem_cons_zero, List.getElem_cons_succ, List.setIfInBounds_toArray, List.set_cons_zero, List.set_cons_succ]
    refine wpAnyH_ready (rs := [17]) (by kernel_rfl) (by simp) ?_
    refine (AllReadyH.cons rfl (fun K hK => ?_) AllReadyH.nil)
    go_simp
    obtain ⟨g93, hg93⟩ : ∃ n, n = W.heap.size := ⟨_, rfl⟩
    obtain ⟨w92, hw92⟩ : ∃ x, x = W.alloc (.cells #[.bool false, .slice none 0 0, .slice none 0 0, .slice none 0 0] 26) := ⟨_, rfl⟩
    have tn := heap_alloc_new W (.cells #[.bool false, .slice none 0 0, .slice none 0 0, .slice none 0 0] 26)
    have hB := below_alloc (Below.refl W.heap.size W) (.cells #[.bool false, .slice none 0 0, .slice none 0 0, .slice none 0 0] 26)
    rw [← hw92] at tn hB
    rw [← hg93] at tn
    have GSB_g8 : Aside0 (w16.heap.size ≤ g93) := ⟨by rw [hg93]; exact SB.out.size⟩
    replace R_p := rm hB R_p; replace R_d := rm hB R_d; replace SB := xm hB SB
    have T_g8 := Aside0.mk tn
    clear tn hB
    rw [← hw92]
    try rw [← hg93]
    clear hw92 hg93
    refine hK.out _ _ (MK.out _ SB.out) (fun hNew => ?_)
    clear hK K hNew
    exact ih _ _ _ _ (by decide) (.inr (.inr (.inr (.inr (.inr (.inr (.inr (.inr (.inr (.inr (.inr (.inr (.inr (.inr (.inr (.inr (.inr (.inr (.inr (⟨g2, A5_, c5_, A8_, c8_, g9, A12_, c12_, A15_, c15_, g93, rfl, by kernel_rfl, by simp only [Act.put, List.getElem_toArray, List.getElem_cons_zero, List.getElem_cons_succ, List.setIfInBounds_toArray, List.set_cons_zero, List.set_cons_succ], SB, T_g8, GSB_g8, R_p, R_d⟩))))))))))))))))))))
  · obtain ⟨g2, A5_, c5_, A8_, c8_, g9, A12_, c12_, g17, rfl, rfl, rfl, SB, T_g8, GSB_g8, R_p, R_d⟩ := J
    simp only [Act.put, List.getElem_toArray, List.getElem_cons_zero, List.getElem_cons_succ, List.setIfInBounds_toArray, List.set_cons_zero, List.set_cons_succ]
    refine wpAnyH_ready (rs := [15]) (by kernel_rfl) (by simp) ?_
    refine (AllReadyH.cons rfl (fun K hK => ?_) AllReadyH.nil)
    refine Kd.R_append_rows_step (Kd.int .i64) (w0 := w16) w16.heap.size (by rfl) (.tmp 42) (.tmp 44) 24 3 (.int .i64 0) 8 rfl Try.underlying24 info3 rfl (by decide) (by decide) (.slice A12_ l3.length c12_) l3 m3 B3 m3.length d3 (fun _ => True) (fun _ => False) rfl rfl R_d.out ((Kd.C_below HS3.out (BB.out.trans (SB.out.mono BB.out.size)))) (fun _ _ h => h) (fun _ h => h.elim) (fun _ _ => trivial) SB.out SB.out.size (by have := HLEN.out; (try simp only [List.length_nil]); omega) ?_
    intro v1 w96 ho hb hg hat
    rw [DDE.out] at ho
    obtain ⟨Ax94, cx95, rfl⟩ := Kd.R_slice ho
    replace T_g8 := Aside0.mk (blk_grown T_g8.out hg (Kd.R_ne R_d.out T_g8.out (by decide)))
    replace R_p := Aside0.mk (Kd.R_over R_p.out R_d.out (by decide) hg)
    replace R_d := Aside0.mk ho
    replace SB := Aside0.mk hb
    clear ho hb hg hat
    refine hK.out _ _ (MK.out _ SB.out) (fun hNew => ?_)
    clear hK K hNew
    have hHeld := MK.out _ SB.out
    refine nd_take 16 hHeld ?_
    clear hHeld
    exact ih _ _ _ _ (by decide) (.inr (.inr (.inr (.inr (.inr (.inr (.inr (.inr (.inr (.inr (.inr (.inr (.inr (.inr (.inr (.inr (.inr (.inr (.inr (⟨g2, A5_, c5_, A8_, c8_, g9, A12_, c12_, Ax94, cx95, g17, rfl, by kernel_rfl, by simp only [Act.put, List.getElem_toArray, List.getElem_cons_zero, List.getElem_cons_succ, List.setIfInBounds_toArray, List.set_cons_zero, List.set_cons_succ], SB, T_g8, GSB_g8, R_p, R_d⟩))))))))))))))))))))
  · obtain ⟨g2, A5_, c5_, A8_, c8_, g9, A12_, c12_, A15_, c15_, g17, rfl, rfl, rfl, SB, T_g8, GSB_g8, R_p, R_d⟩ := J
    simp only [Act.put, List.getElem_toArray, List.getElem_cons_zero, List.getElem_cons_succ, List.setIfInBounds_toArray, List.set_cons_zero, List.set_cons_succ]
    clear ih
    have GBB_g8 : Aside0 (w.heap.size ≤ g17) := ⟨Nat.le_trans BB.out.size GSB_g8.out⟩
    have NE_g8_n : Aside0 (w.heap.size ≠ g17) := ⟨by have := blk_lt T_n.out; have := GSB_g8.out; omega⟩
    have NE_g8_m : Aside0 ((w.heap.size + 1) ≠ g17) := ⟨by have := blk_lt T_m.out; have := GSB_g8.out; omega⟩
    have NE_g8_r : Aside0 ((w.heap.size + 2) ≠ g17) := ⟨by have := blk_lt T_r.out; have := GSB_g8.out; omega⟩
    replace R_p := Aside0.mk (Kd.R_lower R_p.out BB.out.size)
    replace R_d := Aside0.mk (Kd.R_lower R_d.out BB.out.size)
    replace T_n := bm SB.out T_n; replace T_m := bm SB.out T_m; replace T_r := bm SB.out T_r; replace BB := xm SB.out BB
    have hHeld := MK.out _ SB.out
    refine wpAnyH_ready (rs := [18]) (by kernel_rfl) (by simp) ?_
    refine (AllReadyH.cons rfl (fun K hK => ?_) AllReadyH.nil)
    have c_g80 := bc T_g8 0 rfl; have f_g80 := bf T_g8 0; have c_g81 := bc T_g8 1 rfl; have f_g81 := bf T_g8 1; have c_g82 := bc T_g8 2 rfl; have f_g82 := bf T_g8 2; have c_g83 := bc T_g8 3 rfl; have f_g83 := bf T_g8 3
    go_simp
    clear c_g80 f_g80 c_g81 f_g81 c_g82 f_g82 c_g83 f_g83
    have hg := nd_grown4 W (g17) (.bool a) (.slice A8_ PP.length c8_) (.slice none 0 0) (.slice A15_ DD.length c15_)
    have tn := nd_put4 W (g17) 26 _ _ _ _ (.bool a) (.slice A8_ PP.length c8_) (.slice none 0 0) (.slice A15_ DD.length c15_) T_g8.out
    obtain ⟨w97, hw97⟩ : ∃ x, x = ((((W.setCell ⟨g17, 0, none⟩ (.bool a)).setCell ⟨g17, 1, none⟩ (.slice A8_ PP.length c8_)).setCell ⟨g17, 2, none⟩ (.slice none 0 0)).setCell ⟨g17, 3, none⟩ (.slice A15_ DD.length c15_)) := ⟨_, rfl⟩
    rw [← hw97] at hg tn
    rw [← hw97]
    clear hw97
    replace R_p := rg hg T_g8 R_p (by decide)
    replace R_d := rg hg T_g8 R_d (by decide)
    replace T_n := bg hg T_n NE_g8_n.out
    replace T_m := bg hg T_m NE_g8_m.out
    replace T_r := bg hg T_r NE_g8_r.out
    replace BB := Aside0.mk (nd_grown_below hg BB.out BB.out.size GBB_g8.out)
    replace SB := Aside0.mk (nd_grown_below hg SB.out SB.out.size GSB_g8.out)
    replace T_g8 := Aside0.mk tn
    clear tn hg
    refine hK.out _ _ (MK.out _ SB.out) (fun hNew => ?_)
    clear hK K hHeld hNew
    refine wpAnyH_done (by kernel_rfl) ?_ _
    clear MK SB
    cases a
    · have NNE : Aside0 (LK ++ m2 = NN) := ⟨by rw [← LKE.out, List.append_assoc]; exact KNE.out⟩
      have c_n0 := bc T_n 0 rfl; have c_n1 := bc T_n 1 rfl; have c_n2 := bc T_n 2 rfl; have c_n3 := bc T_n 3 rfl
      have c_m0 := bc T_m 0 rfl; have c_m1 := bc T_m 1 rfl; have c_m2 := bc T_m 2 rfl; have c_m3 := bc T_m 3 rfl
      have c_g80 := bc T_g8 0 rfl; have c_g81 := bc T_g8 1 rfl; have c_g82 := bc T_g8 2 rfl; have c_g83 := bc T_g8 3 rfl
      go_upto_region 5 with fail
      clear c_n0 c_n1 c_n2 c_n3 c_m0 c_m1 c_m2 c_m3 c_g80 c_g81 c_g82 c_g83
      have hB : Below w97.heap.size w97 w97.drew := below_drew1 (Below.refl _ _)
      have MK0 : ∀ W, Below w97.drew.heap.size w97.drew W → Below w.heap.size w W ∧ W.cell? ⟨w.heap.size, 0, none⟩ = some (.bool false) ∧ W.cell? ⟨w.heap.size, 1, none⟩ = some (.slice A1 l1.length c1) ∧ W.cell? ⟨w.heap.size, 2, none⟩ = some (.slice A2 l2.length c2) ∧ W.cell? ⟨w.heap.size, 3, none⟩ = some (.slice A3 l3.length c3) ∧ W.cell? ⟨(w.heap.size + 1), 0, none⟩ = some (.bool false) ∧ W.cell? ⟨(w.heap.size + 1), 1, none⟩ = some (.slice B1 m1.length d1) ∧ W.cell? ⟨(w.heap.size + 1), 2, none⟩ = some (.slice B2 m2.length d2) ∧ W.cell? ⟨(w.heap.size + 1), 3, none⟩ = some (.slice B3 m3.length d3) := fun W hb => ⟨(xm hb (xm hB BB)).out, nd_cell hb (bc (bm hB T_n) 0 rfl), nd_cell hb (bc (bm hB T_n) 1 rfl), nd_cell hb (bc (bm hB T_n) 2 rfl), nd_cell hb (bc (bm hB T_n) 3 rfl), nd_cell hb (bc (bm hB T_m) 0 rfl), nd_cell hb (bc (bm hB T_m) 1 rfl), nd_cell hb (bc (bm hB T_m) 2 rfl), nd_cell hb (bc (bm hB T_m) 3 rfl)⟩
      refine wp_region_held_drew (S := fun W => Below w.heap.size w W ∧ W.cell? ⟨w.heap.size, 0, none⟩ = some (.bool false) ∧ W.cell? ⟨w.heap.size, 1, none⟩ = some (.slice A1 l1.length c1) ∧ W.cell? ⟨w.heap.size, 2, none⟩ = some (.slice A2 l2.length c2) ∧ W.cell? ⟨w.heap.size, 3, none⟩ = some (.slice A3 l3.length c3) ∧ W.cell? ⟨(w.heap.size + 1), 0, none⟩ = some (.bool false) ∧ W.cell? ⟨(w.heap.size + 1), 1, none⟩ = some (.slice B1 m1.length d1) ∧ W.cell? ⟨(w.heap.size + 1), 2, none⟩ = some (.slice B2 m2.length d2) ∧ W.cell? ⟨(w.heap.size + 1), 3, none⟩ = some (.slice B3 m3.length d3)) (by kernel_rfl) (MK0 _ (Below.refl _ _)) (fun hHeld => ?_)
      clear hHeld
      have MK := Aside0.mk MK0
      clear MK0
      obtain ⟨w98, hw98⟩ : ∃ x, x = w97.drew := ⟨_, rfl⟩
      rw [← hw98] at hB MK ⊢
      clear hw98
      replace T_n := bm hB T_n; replace T_m := bm hB T_m; replace T_r := bm hB T_r; replace T_g8 := bm hB T_g8; replace R_p := rm hB R_p; replace R_d := rm hB R_d; replace BB := xm hB BB
      clear hB
      have SB := Aside0.mk (Below.refl w98.heap.size w98)
      have hHeld := MK.out _ SB.out
      refine nd_take 1 hHeld ?_
      refine nd_take 2 hHeld ?_
      refine nd_take 4 hHeld ?_
      refine nd_take 7 hHeld ?_
      refine nd_take 8 hHeld ?_
      clear hHeld
      refine wpAnyH_dag (fun A0 qf ql qa W => (qf = 7 ∧ ql = #[false, true, true, false, true, false, false, true, true, false, false, false] ∧ qa = A0 ∧ Aside0 (Below w98.heap.size w98 W))
       ∨ (∃ (g0 : Nat), qf = 6 ∧ ql = #[true, true, true, false, true, false, false, true, true, false, false, false] ∧ qa = (A0.put (some 50) (.slice (some ⟨g0, 0, none⟩) 0 0)) ∧ Aside0 (Below w98.heap.size w98 W) ∧ Aside0 (Kd.R Kd.string 9 W w98.heap.size (fun _ => True) (.slice (some ⟨g0, 0, none⟩) 0 0) ([] : List ByteArray)))
       ∨ (∃ (g5 : Nat), qf = 6 ∧ ql = #[false, true, true, false, true, true, false, true, true, false, false, false] ∧ qa = (A0.put (some 55) (.slice (some ⟨g5, 0, none⟩) 1 1)) ∧ Aside0 (Below w98.heap.size w98 W) ∧ Aside0 (W.heap[g5]? = some (.cells #[.string k] 9 (0, 0))))
       ∨ (∃ (g0 : Nat) (A3_ : Option Addr) (c3_ : Nat), qf = 5 ∧ ql = #[true, true, true, true, true, false, false, true, true, false, false, false] ∧ qa = ((A0.put (some 50) (.slice (some ⟨g0, 0, none⟩) 0 0)).put (some 53) (.slice A3_ l2.length c3_)) ∧ Aside0 (Below w98.heap.size w98 W) ∧ Aside0 (Kd.R Kd.string 9 W w98.heap.size (fun _ => True) (.slice A3_ l2.length c3_) l2))
       ∨ (∃ (g0 : Nat) (g5 : Nat), qf = 5 ∧ ql = #[true, true, true, false, true, true, false, true, true, false, false, false] ∧ qa = ((A0.put (some 50) (.slice (some ⟨g0, 0, none⟩) 0 0)).put (some 55) (.slice (some ⟨g5, 0, none⟩) 1 1)) ∧ Aside0 (Below w98.heap.size w98 W) ∧ Aside0 (W.heap[g5]? = some (.cells #[.string k] 9 (0, 0))) ∧ Aside0 (g0 ≠ g5) ∧ Aside0 (Kd.R Kd.string 9 W w98.heap.size (fun _ => True) (.slice (some ⟨g0, 0, none⟩) 0 0) ([] : List ByteArray)))
       ∨ (∃ (g0 : Nat) (A3_ : Option Addr) (c3_ : Nat) (g5 : Nat), qf = 4 ∧ ql = #[true, true, true, true, true, true, false, true, true, false, false, false] ∧ qa = (((A0.put (some 50) (.slice (some ⟨g0, 0, none⟩) 0 0)).put (some 53) (.slice A3_ l2.length c3_)).put (some 55) (.slice (some ⟨g5, 0, none⟩) 1 1)) ∧ Aside0 (Below w98.heap.size w98 W) ∧ Aside0 (W.heap[g5]? = some (.cells #[.string k] 9 (0, 0))) ∧ Aside0 (Kd.R Kd.string 9 W w98.heap.size (fun _ => True) (.slice A3_ l2.length c3_) l2))
       ∨ (∃ (g0 : Nat) (A3_ : Option Addr) (c3_ : Nat) (g5 : Nat) (A6_ : Option Addr) (c6_ : Nat), qf = 3 ∧ ql = #[true, true, true, true, true, true, true, true, true, false, false, false] ∧ qa = ((((A0.put (some 50) (.slice (some ⟨g0, 0, none⟩) 0 0)).put (some 53) (.slice A3_ l2.length c3_)).put (some 55) (.slice (some ⟨g5, 0, none⟩) 1 1)).put (some 56) (.slice A6_ LK.length c6_)) ∧ Aside0 (Below w98.heap.size w98 W) ∧ Aside0 (Kd.R Kd.string 9 W w98.heap.size (fun _ => True) (.slice A6_ LK.length c6_) LK))
       ∨ (∃ (g0 : Nat) (A3_ : Option Addr) (c3_ : Nat) (g5 : Nat) (A6_ : Option Addr) (c6_ : Nat) (A9_ : Option Addr) (c9_ : Nat), qf = 1 ∧ ql = #[true, true, true, true, true, true, true, true, true, true, true, false] ∧ qa = ((((((A0.put (some 50) (.slice (some ⟨g0, 0, none⟩) 0 0)).put (some 53) (.slice A3_ l2.length c3_)).put (some 55) (.slice (some ⟨g5, 0, none⟩) 1 1)).put (some 56) (.slice A6_ LK.length c6_)).put (some 59) (.slice A9_ NN.length c9_)).put (some 60) (.pointer (some ⟨g17, 2, none⟩))) ∧ Aside0 (Below w98.heap.size w98 W) ∧ Aside0 (Kd.R Kd.string 9 W w98.heap.size (fun _ => True) (.slice A9_ NN.length c9_) NN))) ?_ (.inl ⟨rfl, by kernel_rfl, rfl, SB⟩)
      clear SB
      intro qf ql qa W hJ ih
      rcases hJ with J | J | J | J | J | J | J | J
      · obtain ⟨rfl, rfl, rfl, SB⟩ := J
        refine wpAnyH_ready (rs := [0, 5]) (by kernel_rfl) (by simp) ?_
        refine (AllReadyH.cons rfl (fun K hK => ?_) (AllReadyH.cons rfl (fun K hK => ?_) AllReadyH.nil))
        · go_simp
          obtain ⟨g100, hg100⟩ : ∃ n, n = W.heap.size := ⟨_, rfl⟩
          obtain ⟨w99, hw99⟩ : ∃ x, x = W.alloc (.cells #[] 9) := ⟨_, rfl⟩
          have tn := heap_alloc_new W (.cells #[] 9)
          have hB := below_alloc (Below.refl W.heap.size W) (.cells #[] 9)
          rw [← hw99] at tn hB
          rw [← hg100] at tn
          have GSB_row_ : Aside0 (w98.heap.size ≤ g100) := ⟨by rw [hg100]; exact SB.out.size⟩
          replace SB := xm hB SB
          have T_row_ := Aside0.mk tn
          clear tn hB
          rw [← hw99]
          try rw [← hg100]
          clear hw99 hg100
          have R_k := Aside0.mk (row_nil Kd.string (ok := fun _ => True) T_row_.out GSB_row_.out trivial)
          refine hK.out _ _ (MK.out _ SB.out) (fun hNew => ?_)
          clear hK K hNew
          exact ih _ _ _ _ (by decide) (.inr (.inl ⟨g100, rfl, by kernel_rfl, by simp only [Act.put, List.getElem_toArray, List.getElem_cons_zero, List.getElem_cons_succ, List.setIfInBounds_toArray, List.set_cons_zero, List.set_cons_succ], SB, R_k⟩))
        · go_simp
          obtain ⟨g102, hg102⟩ : ∃ n, n = W.heap.size := ⟨_, rfl⟩
          obtain ⟨w101, hw101⟩ : ∃ x, x = W.alloc (.cells #[.string k] 9) := ⟨_, rfl⟩
          have tn := heap_alloc_new W (.cells #[.string k] 9)
          have hB := below_alloc (Below.refl W.heap.size W) (.cells #[.string k] 9)
          rw [← hw101] at tn hB
          rw [← hg102] at tn
          have GSB_kb : Aside0 (w98.heap.size ≤ g102) := ⟨by rw [hg102]; exact SB.out.size⟩
          replace SB := xm hB SB
          have T_kb := Aside0.mk tn
          clear tn hB
          rw [← hw101]
          try rw [← hg102]
          clear hw101 hg102
          refine hK.out _ _ (MK.out _ SB.out) (fun hNew => ?_)
          clear hK K hNew
          exact ih _ _ _ _ (by decide) (.inr (.inr (.inl ⟨g102, rfl, by kernel_rfl, by simp only [Act.put, List.getElem_toArray, List.getElem_cons_zero, List.getElem_cons_succ, List.setIfInBounds_toArray, List.set_cons_zero, List.set_cons_succ], SB, T_kb⟩)))
      · obtain ⟨g0, rfl, rfl, rfl, SB, R_k⟩ := J
        simp only [Act.put, List.getElem_toArray, List.getElem_cons_zero, List.getElem_cons_succ, List.setIfInBounds_toArray, List.set_cons_zero, List.set_cons_succ]
        refine wpAnyH_ready (rs := [3, 5]) (by kernel_rfl) (by simp) ?_
        refine (AllReadyH.cons rfl (fun K hK => ?_) (AllReadyH.cons rfl (fun K hK => ?_) AllReadyH.nil))
        · refine Kd.R_append_rows_step Kd.string (w0 := w98) w98.heap.size (by rfl) (.tmp 50) (.tmp 52) 23 9 (.string ⟨#[]⟩) 16 rfl Try.underlying23 info9 rfl (by decide) (by decide) (.slice (some ⟨g0, 0, none⟩) 0 0) ([] : List ByteArray) l2 A2 l2.length c2 (fun _ => True) (fun _ => False) rfl rfl R_k.out ((Kd.C_below HR2.out (BB.out.trans (SB.out.mono BB.out.size)))) (fun _ _ h => h) (fun _ h => h.elim) (fun _ _ => trivial) SB.out SB.out.size (by have := HLEN.out; (try simp only [List.length_nil]); omega) ?_
          intro v1 w105 ho hb hg hat
          rw [List.nil_append] at ho
          obtain ⟨Ax103, cx104, rfl⟩ := Kd.R_slice ho
          replace R_k := Aside0.mk ho
          replace SB := Aside0.mk hb
          clear ho hb hg hat
          refine hK.out _ _ (MK.out _ SB.out) (fun hNew => ?_)
          clear hK K hNew
          exact ih _ _ _ _ (by decide) (.inr (.inr (.inr (.inl ⟨g0, Ax103, cx104, rfl, by kernel_rfl, by simp only [Act.put, List.getElem_toArray, List.getElem_cons_zero, List.getElem_cons_succ, List.setIfInBounds_toArray, List.set_cons_zero, List.set_cons_succ], SB, R_k⟩))))
        · go_simp
          obtain ⟨g107, hg107⟩ : ∃ n, n = W.heap.size := ⟨_, rfl⟩
          obtain ⟨w106, hw106⟩ : ∃ x, x = W.alloc (.cells #[.string k] 9) := ⟨_, rfl⟩
          have tn := heap_alloc_new W (.cells #[.string k] 9)
          have hB := below_alloc (Below.refl W.heap.size W) (.cells #[.string k] 9)
          rw [← hw106] at tn hB
          rw [← hg107] at tn
          have GSB_kb : Aside0 (w98.heap.size ≤ g107) := ⟨by rw [hg107]; exact SB.out.size⟩
          have NEX : Aside0 (g0 ≠ g107) := ⟨by have := Kd.R_lt R_k.out g0 rfl; omega⟩
          replace R_k := rm hB R_k; replace SB := xm hB SB
          have T_kb := Aside0.mk tn
          clear tn hB
          rw [← hw106]
          try rw [← hg107]
          clear hw106 hg107
          refine hK.out _ _ (MK.out _ SB.out) (fun hNew => ?_)
          clear hK K hNew
          exact ih _ _ _ _ (by decide) (.inr (.inr (.inr (.inr (.inl ⟨g0, g107, rfl, by kernel_rfl, by simp only [Act.put, List.getElem_toArray, List.getElem_cons_zero, List.getElem_cons_succ, List.setIfInBounds_toArray, List.set_cons_zero, List.set_cons_succ], SB, T_kb, NEX, R_k⟩)))))
      · obtain ⟨g5, rfl, rfl, rfl, SB, T_kb⟩ := J
        simp only [Act.put, List.getElem_toArray, List.getElem_cons_zero, List.getElem_cons_succ, List.setIfInBounds_toArray, List.set_cons_zero, List.set_cons_succ]
        refine wpAnyH_ready (rs := [0]) (by kernel_rfl) (by simp) ?_
        refine (AllReadyH.cons rfl (fun K hK => ?_) AllReadyH.nil)
        go_simp
        obtain ⟨g109, hg109⟩ : ∃ n, n = W.heap.size := ⟨_, rfl⟩
        obtain ⟨w108, hw108⟩ : ∃ x, x = W.alloc (.cells #[] 9) := ⟨_, rfl⟩
        have tn := heap_alloc_new W (.cells #[] 9)
        have hB := below_alloc (Below.refl W.heap.size W) (.cells #[] 9)
        rw [← hw108] at tn hB
        rw [← hg109] at tn
        have GSB_row_ : Aside0 (w98.heap.size ≤ g109) := ⟨by rw [hg109]; exact SB.out.size⟩
        have NE_row__kb : Aside0 (g5 ≠ g109) := ⟨by have := blk_lt T_kb.out; omega⟩
        replace T_kb := bm hB T_kb; replace SB := xm hB SB
        have T_row_ := Aside0.mk tn
        clear tn hB
        rw [← hw108]
        try rw [← hg109]
        clear hw108 hg109
        have NEX : Aside0 (g109 ≠ g5) := ⟨fun e => NE_row__kb.out e.symm⟩
        have R_k := Aside0.mk (row_nil Kd.string (ok := fun _ => True) T_row_.out GSB_row_.out trivial)
        refine hK.out _ _ (MK.out _ SB.out) (fun hNew => ?_)
        clear hK K hNew
        exact ih _ _ _ _ (by decide) (.inr (.inr (.inr (.inr (.inl ⟨g109, g5, rfl, by kernel_rfl, by simp only [Act.put, List.getElem_toArray, List.getElem_cons_zero, List.getElem_cons_succ, List.setIfInBounds_toArray, List.set_cons_zero, List.set_cons_succ], SB, T_kb, NEX, R_k⟩)))))
      · obtain ⟨g0, A3_, c3_, rfl, rfl, rfl, SB, R_k⟩ := J
        simp only [Act.put, List.getElem_toArray, List.getElem_cons_zero, List.getElem_cons_succ, List.setIfInBounds_toArray, List.set_cons_zero, List.set_cons_succ]
        refine wpAnyH_ready (rs := [5]) (by kernel_rfl) (by simp) ?_
        refine (AllReadyH.cons rfl (fun K hK => ?_) AllReadyH.nil)
        go_simp
        obtain ⟨g111, hg111⟩ : ∃ n, n = W.heap.size := ⟨_, rfl⟩
        obtain ⟨w110, hw110⟩ : ∃ x, x = W.alloc (.cells #[.string k] 9) := ⟨_, rfl⟩
        have tn := heap_alloc_new W (.cells #[.string k] 9)
        have hB := below_alloc (Below.refl W.heap.size W) (.cells #[.string k] 9)
        rw [← hw110] at tn hB
        rw [← hg111] at tn
        have GSB_kb : Aside0 (w98.heap.size ≤ g111) := ⟨by rw [hg111]; exact SB.out.size⟩
        replace R_k := rm hB R_k; replace SB := xm hB SB
        have T_kb := Aside0.mk tn
        clear tn hB
        rw [← hw110]
        try rw [← hg111]
        clear hw110 hg111
        refine hK.out _ _ (MK.out _ SB.out) (fun hNew => ?_)
        clear hK K hNew
        exact ih _ _ _ _ (by decide) (.inr (.inr (.inr (.inr (.inr (.inl ⟨g0, A3_, c3_, g111, rfl, by kernel_rfl, by simp only [Act.put, List.getElem_toArray, List.getElem_cons_zero, List.getElem_cons_succ, List.setIfInBounds_toArray, List.set_cons_zero, List.set_cons_succ], SB, T_kb, R_k⟩))))))
      · obtain ⟨g0, g5, rfl, rfl, rfl, SB, T_kb, NEX, R_k⟩ := J
        simp only [Act.put, List.getElem_toArray, List.getElem_cons_zero, List.getElem_cons_succ, List.setIfInBounds_toArray, List.set_cons_zero, List.set_cons_succ]
        refine wpAnyH_ready (rs := [3]) (by kernel_rfl) (by simp) ?_
        refine (AllReadyH.cons rfl (fun K hK => ?_) AllReadyH.nil)
        refine Kd.R_append_rows_step Kd.string (w0 := w98) w98.heap.size (by rfl) (.tmp 50) (.tmp 52) 23 9 (.string ⟨#[]⟩) 16 rfl Try.underlying23 info9 rfl (by decide) (by decide) (.slice (some ⟨g0, 0, none⟩) 0 0) ([] : List ByteArray) l2 A2 l2.length c2 (fun _ => True) (fun _ => False) rfl rfl R_k.out ((Kd.C_below HR2.out (BB.out.trans (SB.out.mono BB.out.size)))) (fun _ _ h => h) (fun _ h => h.elim) (fun _ _ => trivial) SB.out SB.out.size (by have := HLEN.out; (try simp only [List.length_nil]); omega) ?_
        intro v1 w114 ho hb hg hat
        rw [List.nil_append] at ho
        obtain ⟨Ax112, cx113, rfl⟩ := Kd.R_slice ho
        replace T_kb := Aside0.mk ((hg.block _ (blk_lt T_kb.out) (fun e => NEX.out (Option.some.inj e).symm)).trans T_kb.out)
        clear NEX
        replace R_k := Aside0.mk ho
        replace SB := Aside0.mk hb
        clear ho hb hg hat
        refine hK.out _ _ (MK.out _ SB.out) (fun hNew => ?_)
        clear hK K hNew
        exact ih _ _ _ _ (by decide) (.inr (.inr (.inr (.inr (.inr (.inl ⟨g0, Ax112, cx113, g5, rfl, by kernel_rfl, by simp only [Act.put, List.getElem_toArray, List.getElem_cons_zero, List.getElem_cons_succ, List.setIfInBounds_toArray, List.set_cons_zero, List.set_cons_succ], SB, T_kb, R_k⟩))))))
      · obtain ⟨g0, A3_, c3_, g5, rfl, rfl, rfl, SB, T_kb, R_k⟩ := J
        simp only [Act.put, List.getElem_toArray, List.getElem_cons_zero, List.getElem_cons_succ, List.setIfInBounds_toArray, List.set_cons_zero, List.set_cons_succ]
        refine wpAnyH_ready (rs := [6]) (by kernel_rfl) (by simp) ?_
        refine (AllReadyH.cons rfl (fun K hK => ?_) AllReadyH.nil)
        refine Kd.R_append_rows_step Kd.string (w0 := w98) w98.heap.size (by rfl) (.tmp 53) (.tmp 55) 23 9 (.string ⟨#[]⟩) 16 rfl Try.underlying23 info9 rfl (by decide) (by decide) (.slice A3_ l2.length c3_) l2 [k] (some ⟨g5, 0, none⟩) 1 1 (fun _ => True) (fun _ => False) rfl rfl R_k.out ((row1s T_kb.out)) (fun _ _ h => h) (fun _ h => h.elim) (fun _ _ => trivial) SB.out SB.out.size (by have := HLEN.out; omega) ?_
        intro v1 w117 ho hb hg hat
        rw [LKE.out] at ho
        obtain ⟨Ax115, cx116, rfl⟩ := Kd.R_slice ho
        replace R_k := Aside0.mk ho
        replace SB := Aside0.mk hb
        clear ho hb hg hat
        refine hK.out _ _ (MK.out _ SB.out) (fun hNew => ?_)
        clear hK K hNew
        exact ih _ _ _ _ (by decide) (.inr (.inr (.inr (.inr (.inr (.inr (.inl ⟨g0, A3_, c3_, g5, Ax115, cx116, rfl, by kernel_rfl, by simp only [Act.put, List.getElem_toArray, List.getElem_cons_zero, List.getElem_cons_succ, List.setIfInBounds_toArray, List.set_cons_zero, List.set_cons_succ], SB, R_k⟩)))))))
      · obtain ⟨g0, A3_, c3_, g5, A6_, c6_, rfl, rfl, rfl, SB, R_k⟩ := J
        simp only [Act.put, List.getElem_toArray, List.getElem_cons_zero, List.getElem_cons_succ, List.setIfInBounds_toArray, List.set_cons_zero, List.set_cons_succ]
        refine wpAnyH_ready (rs := [9]) (by kernel_rfl) (by simp) ?_
        refine (AllReadyH.cons rfl (fun K hK => ?_) AllReadyH.nil)
        refine Kd.R_append_rows_step Kd.string (w0 := w98) w98.heap.size (by rfl) (.tmp 56) (.tmp 58) 23 9 (.string ⟨#[]⟩) 16 rfl Try.underlying23 info9 rfl (by decide) (by decide) (.slice A6_ LK.length c6_) LK m2 B2 m2.length d2 (fun _ => True) (fun _ => False) rfl rfl R_k.out ((Kd.C_below HS2.out (BB.out.trans (SB.out.mono BB.out.size)))) (fun _ _ h => h) (fun _ h => h.elim) (fun _ _ => trivial) SB.out SB.out.size (by have h1 := HLEN.out; have h2 := LKL.out; omega) ?_
        intro v1 w120 ho hb hg hat
        rw [NNE.out] at ho
        obtain ⟨Ax118, cx119, rfl⟩ := Kd.R_slice ho
        replace R_k := Aside0.mk ho
        replace SB := Aside0.mk hb
        clear ho hb hg hat
        refine hK.out _ _ (MK.out _ SB.out) (fun hNew => ?_)
        clear hK K hNew
        have hHeld := MK.out _ SB.out
        refine nd_take 10 hHeld ?_
        clear hHeld
        exact ih _ _ _ _ (by decide) (.inr (.inr (.inr (.inr (.inr (.inr (.inr (⟨g0, A3_, c3_, g5, A6_, c6_, Ax118, cx119, rfl, by kernel_rfl, by simp only [Act.put, List.getElem_toArray, List.getElem_cons_zero, List.getElem_cons_succ, List.setIfInBounds_toArray, List.set_cons_zero, List.set_cons_succ], SB, R_k⟩))))))))
      · obtain ⟨g0, A3_, c3_, g5, A6_, c6_, A9_, c9_, rfl, rfl, rfl, SB, R_k⟩ := J
        simp only [Act.put, List.getElem_toArray, List.getElem_cons_zero, List.getElem_cons_succ, List.setIfInBounds_toArray, List.set_cons_zero, List.set_cons_succ]
        clear ih
        replace R_k := Aside0.mk (Kd.R_lower R_k.out BB.out.size)
        replace T_n := bm SB.out T_n; replace T_m := bm SB.out T_m; replace T_r := bm SB.out T_r; replace T_g8 := bm SB.out T_g8; replace R_p := rm SB.out R_p; replace R_d := rm SB.out R_d; replace BB := xm SB.out BB
        have hHeld := MK.out _ SB.out
        refine wpAnyH_ready (rs := [11]) (by kernel_rfl) (by simp) ?_
        refine (AllReadyH.cons rfl (fun K hK => ?_) AllReadyH.nil)
        have c_g80 := bc T_g8 0 rfl; have f_g80 := bf T_g8 0; have c_g81 := bc T_g8 1 rfl; have f_g81 := bf T_g8 1; have c_g82 := bc T_g8 2 rfl; have f_g82 := bf T_g8 2; have c_g83 := bc T_g8 3 rfl; have f_g83 := bf T_g8 3
        go_simp
        clear c_g80 f_g80 c_g81 f_g81 c_g82 f_g82 c_g83 f_g83
        clear SB
        have hg : W.grownBy (W.setCell ⟨g17, 2, none⟩ (.slice A9_ NN.length c9_)) (some g17) := grown_setCells g17 [.slice A9_ NN.length c9_] 2 W W ⟨rfl, rfl, rfl, Nat.le_refl _, fun _ _ _ => rfl⟩
        have tn := heap_setCell_same W g17 2 _ 26 (.slice A9_ NN.length c9_) T_g8.out
        obtain ⟨w121, hw121⟩ : ∃ x, x = W.setCell ⟨g17, 2, none⟩ (.slice A9_ NN.length c9_) := ⟨_, rfl⟩
        rw [← hw121] at hg tn
        rw [← hw121]
        clear hw121
        replace R_p := rg hg T_g8 R_p (by decide)
        replace R_d := rg hg T_g8 R_d (by decide)
        replace R_k := rg hg T_g8 R_k (by decide)
        replace T_n := bg hg T_n NE_g8_n.out
        replace T_m := bg hg T_m NE_g8_m.out
        replace T_r := bg hg T_r NE_g8_r.out
        replace BB := Aside0.mk (nd_grown_below hg BB.out BB.out.size GBB_g8.out)
        replace T_g8 := Aside0.mk (show w121.heap[g17]? = some (.cells #[.bool false, .slice A8_ PP.length c8_, .slice A9_ NN.length c9_, .slice A15_ DD.length c15_] 26 (0, 0)) from tn)
        clear tn hg
        refine hK.out _ _ ⟨BB.out, bc T_n 0 rfl, bc T_n 1 rfl, bc T_n 2 rfl, bc T_n 3 rfl, bc T_m 0 rfl, bc T_m 1 rfl, bc T_m 2 rfl, bc T_m 3 rfl⟩ (fun hNew => ?_)
        clear hK K hHeld hNew
        refine wpAnyH_done (by kernel_rfl) ?_ _
        clear MK
        have c_n0 := bc T_n 0 rfl; have c_n1 := bc T_n 1 rfl; have c_n2 := bc T_n 2 rfl; have c_n3 := bc T_n 3 rfl
        have c_g80 := bc T_g8 0 rfl; have c_g81 := bc T_g8 1 rfl; have c_g82 := bc T_g8 2 rfl; have c_g83 := bc T_g8 3 rfl
        go_wp2_with fail
        have CC := cisternref11_Right.calls false A8_ c8_ PP A9_ c9_ NN A15_ c15_ DD v w121 (Kd.R_reads' R_p.out).2.2 (Kd.R_reads' R_p.out).2.1 (Kd.R_reads' R_k.out).2.2 (Kd.R_reads' R_k.out).2.1 (Kd.R_reads' R_d.out).2.2 (Kd.R_reads' R_d.out).2.1 HCV.out
        refine (CC).mono ?_
        rintro e w122 ⟨rfl, hB⟩
        replace T_n := bm hB T_n; replace T_m := bm hB T_m; replace T_r := bm hB T_r; replace T_g8 := bm hB T_g8; replace R_p := rm hB R_p; replace R_d := rm hB R_d; replace R_k := rm hB R_k; replace BB := xm hB BB
        clear hB
        clear c_n0 c_n1 c_n2 c_n3 c_g80 c_g81 c_g82 c_g83
        clear CC
        rcases HV.out with ⟨rfl, HE⟩ | ⟨rfl, HE⟩
        · have HE := Aside0.mk HE
          obtain ⟨rfl, rfl, rfl, rfl, rfl⟩ := HE.out
          have c_g80 := bc T_g8 0 rfl; have c_g81 := bc T_g8 1 rfl; have c_g82 := bc T_g8 2 rfl; have c_g83 := bc T_g8 3 rfl
          have c_r0 := bc T_r 0 rfl; have f_r0 := bf T_r 0; have c_r1 := bc T_r 1 rfl; have f_r1 := bf T_r 1; have c_r2 := bc T_r 2 rfl; have f_r2 := bf T_r 2; have c_r3 := bc T_r 3 rfl; have f_r3 := bf T_r 3
          go_wp2_with fail
          clear c_r0 f_r0 c_r1 f_r1 c_r2 f_r2 c_r3 f_r3
          have hg := nd_grown4 w122 (w.heap.size + 2) (.bool false) (.slice A8_ PP.length c8_) (.slice A9_ NN.length c9_) (.slice A15_ DD.length c15_)
          have tn := nd_put4 w122 (w.heap.size + 2) 26 _ _ _ _ (.bool false) (.slice A8_ PP.length c8_) (.slice A9_ NN.length c9_) (.slice A15_ DD.length c15_) T_r.out
          obtain ⟨w123, hw123⟩ : ∃ x, x = ((((w122.setCell ⟨(w.heap.size + 2), 0, none⟩ (.bool false)).setCell ⟨(w.heap.size + 2), 1, none⟩ (.slice A8_ PP.length c8_)).setCell ⟨(w.heap.size + 2), 2, none⟩ (.slice A9_ NN.length c9_)).setCell ⟨(w.heap.size + 2), 3, none⟩ (.slice A15_ DD.length c15_)) := ⟨_, rfl⟩
          rw [← hw123] at hg tn
          rw [← hw123]
          clear hw123
          replace R_p := rg hg T_r R_p (by decide)
          replace R_d := rg hg T_r R_d (by decide)
          replace R_k := rg hg T_r R_k (by decide)
          replace T_n := bg hg T_n (by omega)
          replace T_m := bg hg T_m (by omega)
          replace T_g8 := bg hg T_g8 (fun e => NE_g8_r.out e.symm)
          replace BB := Aside0.mk (nd_grown_below hg BB.out BB.out.size (by omega))
          replace T_r := Aside0.mk tn
          clear tn hg
          refine bodyPost_ret (results_ct rfl _ _ (w.heap.size + 2) 26 #[.bool false, .slice A8_ PP.length c8_, .slice A9_ NN.length c9_, .slice A15_ DD.length c15_] (0, 0) _ rfl T_r.out Try.underlying26 rfl (by kernel_rfl)) rfl ?_
          exact ⟨_, _, _, rfl, R_p.out, R_k.out, R_d.out, BB.out⟩
        · have HE := Aside0.mk HE
          obtain ⟨rfl, rfl, rfl, rfl, rfl⟩ := HE.out
          have c_r0 := bc T_r 0 rfl; have f_r0 := bf T_r 0; have c_r1 := bc T_r 1 rfl; have f_r1 := bf T_r 1; have c_r2 := bc T_r 2 rfl; have f_r2 := bf T_r 2; have c_r3 := bc T_r 3 rfl; have f_r3 := bf T_r 3
          go_wp2_with fail
          clear c_r0 f_r0 c_r1 f_r1 c_r2 f_r2 c_r3 f_r3
          have hg := nd_grown4 w122 (w.heap.size + 2) (.bool false) (.slice none 0 0) (.slice none 0 0) (.slice none 0 0)
          have tn := nd_put4 w122 (w.heap.size + 2) 26 _ _ _ _ (.bool false) (.slice none 0 0) (.slice none 0 0) (.slice none 0 0) T_r.out
          obtain ⟨w124, hw124⟩ : ∃ x, x = ((((w122.setCell ⟨(w.heap.size + 2), 0, none⟩ (.bool false)).setCell ⟨(w.heap.size + 2), 1, none⟩ (.slice none 0 0)).setCell ⟨(w.heap.size + 2), 2, none⟩ (.slice none 0 0)).setCell ⟨(w.heap.size + 2), 3, none⟩ (.slice none 0 0)) := ⟨_, rfl⟩
          rw [← hw124] at hg tn
          rw [← hw124]
          clear hw124
          replace R_p := rg hg T_r R_p (by decide)
          replace R_d := rg hg T_r R_d (by decide)
          replace R_k := rg hg T_r R_k (by decide)
          replace T_n := bg hg T_n (by omega)
          replace T_m := bg hg T_m (by omega)
          replace T_g8 := bg hg T_g8 (fun e => NE_g8_r.out e.symm)
          replace BB := Aside0.mk (nd_grown_below hg BB.out BB.out.size (by omega))
          replace T_r := Aside0.mk tn
          clear tn hg
          refine bodyPost_ret (results_ct rfl _ _ (w.heap.size + 2) 26 #[.bool false, .slice none 0 0, .slice none 0 0, .slice none 0 0] (0, 0) _ rfl T_r.out Try.underlying26 rfl (by kernel_rfl)) rfl ?_
          exact ⟨_, _, _, rfl, Kd.R_nil _ _ _ _ _, Kd.R_nil _ _ _ _ _, Kd.R_nil _ _ _ _ _, BB.out⟩
    · obtain rfl : ([] : List ByteArray) = NN := KNE.out
      have c_n0 := bc T_n 0 rfl; have c_n1 := bc T_n 1 rfl; have c_n2 := bc T_n 2 rfl; have c_n3 := bc T_n 3 rfl
      have c_g80 := bc T_g8 0 rfl; have c_g81 := bc T_g8 1 rfl; have c_g82 := bc T_g8 2 rfl; have c_g83 := bc T_g8 3 rfl
      go_wp2_with fail
      have CC := cisternref11_Right.calls true A8_ c8_ PP none 0 ([] : List ByteArray) A15_ c15_ DD v w97 (Kd.R_reads' R_p.out).2.2 (Kd.R_reads' R_p.out).2.1 (Kd.C_nil _ _) (Nat.le_refl _) (Kd.R_reads' R_d.out).2.2 (Kd.R_reads' R_d.out).2.1 HCV.out
      refine (CC).mono ?_
      rintro e w125 ⟨rfl, hB⟩
      replace T_n := bm hB T_n; replace T_m := bm hB T_m; replace T_r := bm hB T_r; replace T_g8 := bm hB T_g8; replace R_p := rm hB R_p; replace R_d := rm hB R_d; replace BB := xm hB BB
      clear hB
      clear c_n0 c_n1 c_n2 c_n3 c_g80 c_g81 c_g82 c_g83
      clear CC
      rcases HV.out with ⟨rfl, HE⟩ | ⟨rfl, HE⟩
      · have HE := Aside0.mk HE
        obtain ⟨rfl, rfl, rfl, rfl, rfl⟩ := HE.out
        have c_g80 := bc T_g8 0 rfl; have c_g81 := bc T_g8 1 rfl; have c_g82 := bc T_g8 2 rfl; have c_g83 := bc T_g8 3 rfl
        have c_r0 := bc T_r 0 rfl; have f_r0 := bf T_r 0; have c_r1 := bc T_r 1 rfl; have f_r1 := bf T_r 1; have c_r2 := bc T_r 2 rfl; have f_r2 := bf T_r 2; have c_r3 := bc T_r 3 rfl; have f_r3 := bf T_r 3
        go_wp2_with fail
        clear c_r0 f_r0 c_r1 f_r1 c_r2 f_r2 c_r3 f_r3
        have hg := nd_grown4 w125 (w.heap.size + 2) (.bool true) (.slice A8_ PP.length c8_) (.slice none 0 0) (.slice A15_ DD.length c15_)
        have tn := nd_put4 w125 (w.heap.size + 2) 26 _ _ _ _ (.bool true) (.slice A8_ PP.length c8_) (.slice none 0 0) (.slice A15_ DD.length c15_) T_r.out
        obtain ⟨w126, hw126⟩ : ∃ x, x = ((((w125.setCell ⟨(w.heap.size + 2), 0, none⟩ (.bool true)).setCell ⟨(w.heap.size + 2), 1, none⟩ (.slice A8_ PP.length c8_)).setCell ⟨(w.heap.size + 2), 2, none⟩ (.slice none 0 0)).setCell ⟨(w.heap.size + 2), 3, none⟩ (.slice A15_ DD.length c15_)) := ⟨_, rfl⟩
        rw [← hw126] at hg tn
        rw [← hw126]
        clear hw126
        replace R_p := rg hg T_r R_p (by decide)
        replace R_d := rg hg T_r R_d (by decide)
        replace T_n := bg hg T_n (by omega)
        replace T_m := bg hg T_m (by omega)
        replace T_g8 := bg hg T_g8 (fun e => NE_g8_r.out e.symm)
        replace BB := Aside0.mk (nd_grown_below hg BB.out BB.out.size (by omega))
        replace T_r := Aside0.mk tn
        clear tn hg
        refine bodyPost_ret (results_ct rfl _ _ (w.heap.size + 2) 26 #[.bool true, .slice A8_ PP.length c8_, .slice none 0 0, .slice A15_ DD.length c15_] (0, 0) _ rfl T_r.out Try.underlying26 rfl (by kernel_rfl)) rfl ?_
        exact ⟨_, _, _, rfl, R_p.out, Kd.R_nil _ _ _ _ _, R_d.out, BB.out⟩
      · have HE := Aside0.mk HE
        obtain ⟨rfl, rfl, rfl, rfl, rfl⟩ := HE.out
        have c_r0 := bc T_r 0 rfl; have f_r0 := bf T_r 0; have c_r1 := bc T_r 1 rfl; have f_r1 := bf T_r 1; have c_r2 := bc T_r 2 rfl; have f_r2 := bf T_r 2; have c_r3 := bc T_r 3 rfl; have f_r3 := bf T_r 3
        go_wp2_with fail
        clear c_r0 f_r0 c_r1 f_r1 c_r2 f_r2 c_r3 f_r3
        have hg := nd_grown4 w125 (w.heap.size + 2) (.bool false) (.slice none 0 0) (.slice none 0 0) (.slice none 0 0)
        have tn := nd_put4 w125 (w.heap.size + 2) 26 _ _ _ _ (.bool false) (.slice none 0 0) (.slice none 0 0) (.slice none 0 0) T_r.out
        obtain ⟨w127, hw127⟩ : ∃ x, x = ((((w125.setCell ⟨(w.heap.size + 2), 0, none⟩ (.bool false)).setCell ⟨(w.heap.size + 2), 1, none⟩ (.slice none 0 0)).setCell ⟨(w.heap.size + 2), 2, none⟩ (.slice none 0 0)).setCell ⟨(w.heap.size + 2), 3, none⟩ (.slice none 0 0)) := ⟨_, rfl⟩
        rw [← hw127] at hg tn
        rw [← hw127]
        clear hw127
        replace R_p := rg hg T_r R_p (by decide)
        replace R_d := rg hg T_r R_d (by decide)
        replace T_n := bg hg T_n (by omega)
        replace T_m := bg hg T_m (by omega)
        replace T_g8 := bg hg T_g8 (fun e => NE_g8_r.out e.symm)
        replace BB := Aside0.mk (nd_grown_below hg BB.out BB.out.size (by omega))
        replace T_r := Aside0.mk tn
        clear tn hg
        refine bodyPost_ret (results_ct rfl _ _ (w.heap.size + 2) 26 #[.bool false, .slice none 0 0, .slice none 0 0, .slice none 0 0] (0, 0) _ rfl T_r.out Try.underlying26 rfl (by kernel_rfl)) rfl ?_
        exact ⟨_, _, _, rfl, Kd.R_nil _ _ _ _ _, Kd.R_nil _ _ _ _ _, Kd.R_nil _ _ _ _ _, BB.out⟩
def cisternref11_DocMerge.f (a : Bool) (l1 : List S48) (l2 : List ByteArray) (l3 : List Int) (k : ByteArray) (b : Bool) (m1 : List S48) (m2 : List ByteArray) (m3 : List Int) : Option MgR := some (mergeV a l1 l2 l3 k b m1 m2 m3)
theorem cisternref11_DocMerge.calls (a : Bool) (A1 : Option Addr) (c1 : Nat) (l1 : List S48) (A2 : Option Addr) (c2 : Nat) (l2 : List ByteArray) (A3 : Option Addr) (c3 : Nat) (l3 : List Int) (k : ByteArray) (b : Bool) (B1 : Option Addr) (d1 : Nat) (m1 : List S48) (B2 : Option Addr) (d2 : Nat) (m2 : List ByteArray) (B3 : Option Addr) (d3 : Nat) (m3 : List Int) (r1 : Bool) (r2 : List S48) (r3 : List ByteArray) (r4 : List Int) (re : Int) (w : World) (hr1 : Kd.C k48 w A1 l1.length l1) (hc1 : l1.length ≤ c1) (hr2 : Kd.C Kd.string w A2 l2.length l2) (hc2 : l2.length ≤ c2) (hr3 : Kd.C (Kd.int .i64) w A3 l3.length l3) (hc3 : l3.length ≤ c3) (hs1 : Kd.C k48 w B1 m1.length m1) (hd1 : m1.length ≤ d1) (hs2 : Kd.C Kd.string w B2 m2.length m2) (hd2 : m2.length ≤ d2) (hs3 : Kd.C (Kd.int .i64) w B3 m3.length m3) (hd3 : m3.length ≤ d3) (h : cisternref11_DocMerge.f a l1 l2 l3 k b m1 m2 m3 = some (r1, r2, r3, r4, re)) :
    Calls Try.prog 21 #[.agg #[.bool a, .slice A1 l1.length c1, .slice A2 l2.length c2, .slice A3 l3.length c3], .string k, .agg #[.bool b, .slice B1 m1.length d1, .slice B2 m2.length d2, .slice B3 m3.length d3]] w fun e w' => ∃ v1_ v2_ v3_ : Value, e = .returned (.tuple #[.agg #[.bool r1, v1_, v2_, v3_], .int .i64 re]) ∧ Kd.R k48 48 w' w.heap.size (fun _ => True) v1_ r2 ∧ Kd.R Kd.string 9 w' w.heap.size (fun _ => True) v2_ r3 ∧ Kd.R (Kd.int .i64) 3 w' w.heap.size (fun _ => True) v3_ r4 ∧ Below w.heap.size w w' := by
  replace h := Option.some.inj h
  unfold mergeV at h
  by_cases hfa : (leafV a l1 l2 l3 || innerV a l1 l2 l3) = true
  · by_cases hfb : (leafV b m1 m2 m3 || innerV b m1 m2 m3) = true
    · by_cases hab : a = b
      · subst hab
        cases hk : keyB k
        · rw [if_neg (fun x => by have := x.2.2.2.1; rw [hk] at this; cases this)] at h
          cases h
          exact dmerge_bad4 a A1 c1 l1 A2 c2 l2 A3 c3 l3 k B1 d1 m1 B2 d2 m2 B3 d3 m3 w hr1 hc1 hr2 hc2 hr3 hc3 hs1 hd1 hs2 hd2 hs3 hd3 hfa hfb hk
        · exact dmerge_ok a A1 c1 l1 A2 c2 l2 A3 c3 l3 k B1 d1 m1 B2 d2 m2 B3 d3 m3 r1 r2 r3 r4 re w hr1 hc1 hr2 hc2 hr3 hc3 hs1 hd1 hs2 hd2 hs3 hd3 hfa hfb hk (by
          by_cases hv : (leafV a (l1 ++ m1) (mergeN a l2 k m2) (l3 ++ m3) || innerV a (l1 ++ m1) (mergeN a l2 k m2) (l3 ++ m3)) = true
          · rw [if_pos hv]
            rw [if_pos ⟨hfa, hfb, rfl, hk, hv⟩] at h
            exact h
          · rw [if_neg hv]
            rw [if_neg (fun x => hv x.2.2.2.2)] at h
            exact h)
      · rw [if_neg (fun x => hab x.2.2.1)] at h
        cases h
        exact dmerge_bad3 a A1 c1 l1 A2 c2 l2 A3 c3 l3 k b B1 d1 m1 B2 d2 m2 B3 d3 m3 w hr1 hc1 hr2 hc2 hr3 hc3 hs1 hd1 hs2 hd2 hs3 hd3 hfa hfb hab
    · rw [if_neg (fun x => hfb x.2.1)] at h
      cases h
      exact dmerge_bad2 a A1 c1 l1 A2 c2 l2 A3 c3 l3 k b B1 d1 m1 B2 d2 m2 B3 d3 m3 w hr1 hc1 hr2 hc2 hr3 hc3 hs1 hd1 hs2 hd2 hs3 hd3 hfa hfb
  · rw [if_neg (fun x => hfa x.1)] at h
    cases h
    exact dmerge_bad1 a A1 c1 l1 A2 c2 l2 A3 c3 l3 k b B1 d1 m1 B2 d2 m2 B3 d3 m3 w hr1 hc1 hr2 hc2 hr3 hc3 hs1 hd1 hs2 hd2 hs3 hd3 hfa
end
end Go.Proofs.Ytjjfeoigjhbbpaa.PA
namespace Go.Proofs.Ytjjfeoigjhbbpaa.PA
section

open Go.RowKit Go.Proofs.YtjjfeoigjhbbpaaW.PrintWords Go.Proofs.YtjjfeoigjhbbpaaW.PrintLast Go.Proofs.YtjjfeoigjhbbpaaW.PrintMore
attribute [local go_sem] pr_leq pr_geq pr_gtr max2_int min2_int max_two min_two max_three min_three max_four min_four
set_option linter.unusedVariables false
set_option linter.unusedSimpArgs false
set_option maxHeartbeats 4000000 in
set_option maxRecDepth 100000 in
theorem backW (a : Bool) (A1 : Option Addr) (n1 c1 : Nat) (A2 : Option Addr) (n2 c2 : Nat) (A3 : Option Addr) (n3 c3 : Nat) (w : World) : Calls Try.prog 20 #[.agg #[.bool a, .slice A1 n1 c1, .slice A2 n2 c2, .slice A3 n3 c3]] w fun e w' => e = .returned (.agg #[.bool a, .slice A1 n1 c1, .slice A2 n2 c2, .slice A3 n3 c3]) ∧ Below w.heap.size w w' := by
  obtain ⟨wy, hwy⟩ : ∃ wy, wy = w.alloc (.cells #[.bool a, .slice A1 n1 c1, .slice A2 n2 c2, .slice A3 n3 c3] 31) := ⟨_, rfl⟩
  obtain ⟨wx, hwx⟩ : ∃ wx, wx = wy.alloc (.cells #[.bool false, .slice none 0 0, .slice none 0 0, .slice none 0 0] 26) := ⟨_, rfl⟩
  have ny : wy.heap.size = w.heap.size + 1 := by rw [hwy]; simp
  have b0y := heap_alloc_new w (.cells #[.bool a, .slice A1 n1 c1, .slice A2 n2 c2, .slice A3 n3 c3] 31)
  have bel := below_alloc (Below.refl w.heap.size w) (.cells #[.bool a, .slice A1 n1 c1, .slice A2 n2 c2, .slice A3 n3 c3] 31)
  rw [← hwy] at b0y bel
  have bx := (Lib.alloc_old wy (.cells #[.bool false, .slice none 0 0, .slice none 0 0, .slice none 0 0] 26) w.heap.size (blk_lt b0y)).trans b0y
  have tx := heap_alloc_new wy (.cells #[.bool false, .slice none 0 0, .slice none 0 0, .slice none 0 0] 26)
  rw [← hwx] at bx tx
  rw [ny] at tx
  have BXX : Aside0 (Below w.heap.size w wx) := ⟨by rw [hwx]; exact below_alloc bel _⟩
  have HWX : Aside0 (wx = (w.alloc (.cells #[.bool a, .slice A1 n1 c1, .slice A2 n2 c2, .slice A3 n3 c3] 31)).alloc (.cells #[.bool false, .slice none 0 0, .slice none 0 0, .slice none 0 0] 26)) := ⟨by rw [hwx, hwy]⟩
  have b0 : wx.cell? ⟨w.heap.size, 0, none⟩ = some (.bool a) := blk_cell bx 0
  have b1 : wx.cell? ⟨w.heap.size, 1, none⟩ = some (.slice A1 n1 c1) := blk_cell bx 1
  have b2 : wx.cell? ⟨w.heap.size, 2, none⟩ = some (.slice A2 n2 c2) := blk_cell bx 2
  have b3 : wx.cell? ⟨w.heap.size, 3, none⟩ = some (.slice A3 n3 c3) := blk_cell bx 3
  have c0' : wx.cell? ⟨w.heap.size + 1, 0, none⟩ = some (.bool false) := blk_cell tx 0
  have c1' : wx.cell? ⟨w.heap.size + 1, 1, none⟩ = some (.slice none 0 0) := blk_cell tx 1
  have c2' : wx.cell? ⟨w.heap.size + 1, 2, none⟩ = some (.slice none 0 0) := blk_cell tx 2
  have c3' : wx.cell? ⟨w.heap.size + 1, 3, none⟩ = some (.slice none 0 0) := blk_cell tx 3
  have f0 : wx.frozen? ⟨w.heap.size + 1, 0, none⟩ = false := blk_frozen tx 0
  have f1 : wx.frozen? ⟨w.heap.size + 1, 1, none⟩ = false := blk_frozen tx 1
  have f2 : wx.frozen? ⟨w.heap.size + 1, 2, none⟩ = false := blk_frozen tx 2
  have f3 : wx.frozen? ⟨w.heap.size + 1, 3, none⟩ = false := blk_frozen tx 3
  have t7 := nd_put4 wx (w.heap.size + 1) 26 _ _ _ _ (.bool a) (.slice A1 n1 c1) (.slice A2 n2 c2) (.slice A3 n3 c3) tx
  have hg4 := nd_grown4 wx (w.heap.size + 1) (.bool a) (.slice A1 n1 c1) (.slice A2 n2 c2) (.slice A3 n3 c3)
  have T7 := Aside0.mk t7
  have B7 := Aside0.mk (nd_grown_below hg4 BXX.out BXX.out.size (by omega))
  clear hwx hwy ny b0y bel bx tx t7 hg4
  rw [HWX.out] at b0 b1 b2 b3 c0' c1' c2' c3' f0 f1 f2 f3
  go_enter Try.func20, Try.ntmps20
  go_wp2
  refine bodyPost_ret (results_cell_row rfl _ _ (w.heap.size + 1) 26 #[.bool a, .slice A1 n1 c1, .slice A2 n2 c2, .slice A3 n3 c3] (0, 0) _ rfl (by have h := heap_alloc_new (w.alloc (.cells #[.bool a, .slice A1 n1 c1, .slice A2 n2 c2, .slice A3 n3 c3] 31)) (.cells #[.bool a, .slice A1 n1 c1, .slice A2 n2 c2, .slice A3 n3 c3] 26); rw [show (w.alloc (.cells #[.bool a, .slice A1 n1 c1, .slice A2 n2 c2, .slice A3 n3 c3] 31)).heap.size = w.heap.size + 1 by simp] at h; exact h) Try.underlying26 rfl (by kernel_rfl)) rfl ?_
  exact ⟨rfl, below_alloc (below_alloc (Below.refl w.heap.size w) _) _⟩
end
end Go.Proofs.Ytjjfeoigjhbbpaa.PA
namespace Go.Proofs.Ytjjfeoigjhbbpaa.PA
section

open Go.RowKit Go.Proofs.YtjjfeoigjhbbpaaW.PrintWords Go.Proofs.YtjjfeoigjhbbpaaW.PrintLast Go.Proofs.YtjjfeoigjhbbpaaW.PrintMore
attribute [local go_sem] pr_leq pr_geq pr_gtr max2_int min2_int max_two min_two max_three min_three max_four min_four
set_option linter.unusedVariables false
set_option linter.unusedSimpArgs false
section
open Go.ChangeShapes Go.WideShapes Go.Deep
variable {H : Type} {enc : TypeId × Value → H} {P : Program} {w : World} {base : Nat} {spare : Nat → Bool} {held : Bool}
theorem ra_addr (a : Addr) (m i : Nat) : (a.add m).add i = a.add (m + i) := Go.Deep.add_add a m i
theorem open_rows {α : Type} [Inhabited α] (k : Kd α) (Wf : α → Prop) {t e : TypeId} {fuel : Nat} {A : Option Addr} {len cap : Nat} {x : DataW H × List MemPlace} (ht : P.underlying t = some (.slice e)) (hce : P.cellsOf e = k.sz)
    (He : ∀ n cs y, DataW.trod enc P w base spare held n e cs = some y → ∃ v, k.K w v cs ∧ Wf v)
    (h : DataW.trod enc P w base spare held fuel t [.slice A len cap] = some x) : ∃ l : List α, l.length = len ∧ k.C w A len l ∧ len ≤ cap ∧ ∀ v ∈ l, Wf v := by
  rcases open_slice ht h with ⟨hcs, _⟩ | ⟨a, l, c, m, n, D, Pl, hcs, _, hl, hm, hmm, _, hx⟩
  · simp at hcs
    obtain ⟨rfl, rfl, rfl⟩ := hcs
    exact ⟨[], rfl, ⟨rfl, by omega, fun h0 => absurd h0 (by omega)⟩, Nat.le_refl _, by simp⟩
  · simp at hcs
    obtain ⟨rfl, rfl, rfl⟩ := hcs
    have hlm : len ≤ m := by rw [hmm]; split <;> omega
    obtain ⟨f, hf⟩ := choose_lt (α := α) (n := len) (p := fun i v => ∃ cs, w.cells? base (a.add (i * k.sz)) k.sz = some cs ∧ k.K w v cs ∧ Wf v) (fun i hi => by
      obtain ⟨cs', h1, h2⟩ := hx i (by omega)
      rw [hce] at h1
      obtain ⟨v, h3, h4⟩ := He _ _ _ h2
      exact ⟨v, cs', h1, h3, h4⟩)
    refine ⟨(List.range len).map f, by simp, ⟨by simp, by simp only [maxLen] at hm; omega, fun _ => ⟨a, rfl, fun j p hj => ?_⟩⟩, hl, fun v hv => ?_⟩
    · have hjl : j < len := by
        rcases Nat.lt_or_ge j len with h' | h'
        · exact h'
        · rw [List.getElem?_eq_none (by simpa using h')] at hj; cases hj
      simp [hjl] at hj
      subst hj
      obtain ⟨cs, h1, h2, _⟩ := hf j hjl
      obtain ⟨_, h3, h4⟩ := World.cells?_some h1
      refine ⟨cs, h3, h2, fun i u hu => ?_⟩
      have hi : i < k.sz := by rw [← h3]; exact (List.getElem?_eq_some_iff.1 hu).1
      rw [← ra_addr, h4 i hi, hu]
    · simp only [List.mem_map, List.mem_range] at hv
      obtain ⟨j, hj, rfl⟩ := hv
      exact (hf j hj).choose_spec.2.2
end
section
open Go.ChangeShapes Go.WideShapes Go.Deep
variable {H : Type} {enc : TypeId × Value → H} {P : Program} {w : World} {base : Nat} {spare : Nat → Bool} {held : Bool}
theorem struct_rows_sized {ts : List TypeId} {ds : List (DataW H)} {ps : List MemPlace} {d : DataW H} {j i off : Nat} {t ft e : TypeId} {fs : Array Field} {f : Field} {cs : List Value} {v : Value} {A : Option Addr} {len cap : Nat}
    (hsz : (DataW.weightsEach P ts ds).all (· ≤ reachBytes) = true) (htj : ts[j]? = some t) (hdj : ds[j]? = some d) (ht : P.underlying t = some (.struct fs)) (hf : fs[i]? = some f) (hft : f.type = ft) (ho : f.offset = off) (hfe : P.underlying ft = some (.slice e)) (hco : P.cellsOf ft = 1) {B : Nat} (hB : P.bytesOf e = B)
    (h : DataW.Trod enc P w base spare held t v d ps) (hv : v.cells.toList = cs) (hc : cs[off]? = some (.slice A len cap)) : len * B ≤ 140737488351232 := by
  subst hv; subst hft; subst ho
  obtain ⟨fuel, hx⟩ := h
  obtain ⟨xs, n, _, he, _, hl, hh⟩ := DataW.trod_struct ht hx
  have hi := hh i f hf
  have hlt : i < xs.length := by rw [hl]; exact (Array.getElem?_eq_some_iff.1 hf).1
  rw [List.getElem?_eq_getElem hlt, hco] at hi
  have h1 : (v.cells.toList.drop f.offset).take 1 = [.slice A len cap] := by
    obtain ⟨hlo, hco'⟩ := List.getElem?_eq_some_iff.1 hc
    rw [List.drop_eq_getElem_cons hlo, hco']
    rfl
  rw [h1] at hi
  rcases open_slice hfe hi with ⟨hcs, _⟩ | ⟨a, l, c, m, n, D, Pl, hcs, _, hl', hm, hmm, hx', _⟩
  · simp at hcs
    obtain ⟨rfl, rfl, rfl⟩ := hcs
    simp
  · simp at hcs
    obtain ⟨rfl, rfl, rfl⟩ := hcs
    have hd : d = .agg (xs.map (·.1)) := by injection he
    have hmem : (len + (m - len)) * P.bytesOf e ∈ DataW.weightsEach P ts ds := by
      refine DataW.weights_mem_each htj hdj _ ?_
      rw [hd]
      simp only [DataW.weights, ht]
      refine DataW.weights_mem_each (j := i) (t := f.type) (d := xs[i].1) ?_ ?_ _ ?_
      · rw [List.getElem?_map, Array.getElem?_toList, hf]
        rfl
      · rw [List.getElem?_map, List.getElem?_eq_getElem hlt]
        rfl
      · rw [hx']
        simp [DataW.weights, hfe]
    have z := List.all_eq_true.1 hsz _ hmem
    rw [hB] at z
    have z' : (len + (m - len)) * B ≤ reachBytes := by simpa using z
    have h3 : len ≤ len + (m - len) := by omega
    exact Nat.le_trans (Nat.mul_le_mul_right _ h3) z'
end
end
end Go.Proofs.Ytjjfeoigjhbbpaa.PA
namespace Go.Proofs.Ytjjfeoigjhbbpaa.PA
section

open Go.RowKit Go.Proofs.YtjjfeoigjhbbpaaW.PrintWords Go.Proofs.YtjjfeoigjhbbpaaW.PrintLast Go.Proofs.YtjjfeoigjhbbpaaW.PrintMore
attribute [local go_sem] pr_leq pr_geq pr_gtr max2_int min2_int max_two min_two max_three min_three max_four min_four
set_option linter.unusedVariables false
set_option linter.unusedSimpArgs false
theorem of_val (a : Bool) (P : List S48) (K : List ByteArray) (D : List Int) (h1 : P.length * 32 ≤ 140737488351232) (h2 : K.length * 16 ≤ 140737488351232) (h3 : D.length * 8 ≤ 140737488351232) : cisternlaw11_of.f a P K D = some (a, P, K, D) := by
  unfold cisternlaw11_of.f
  rw [if_pos ⟨by omega, by omega, by omega⟩]
theorem known_enc : node_Encode.f true [(⟨⟨#[97]⟩, ⟨#[49]⟩⟩ : S48)] [] [] = some (⟨#[1, 1, 1, 97, 1, 49]⟩, 0) := by
  have e0 : keyB ⟨#[97]⟩ = true := by
    unfold keyB
    rw [nd_toList]
    rfl
  have e1 : leafV true [(⟨⟨#[97]⟩, ⟨#[49]⟩⟩ : S48)] [] [] = true := by
    unfold leafV badP
    simp only [List.any_cons, List.any_nil, e0]
    rfl
  unfold node_Encode.f
  rw [e1]
  rfl
theorem known_val : cisternlaw11_known.f = some true := by
  unfold cisternlaw11_known.f
  rw [known_enc, Option.bind_some, if_pos rfl, nd_toList]
  rfl
end
end Go.Proofs.Ytjjfeoigjhbbpaa.PA
namespace Go.Proofs.Ytjjfeoigjhbbpaa.PA
section

open Go.RowKit Go.Proofs.YtjjfeoigjhbbpaaW.PrintWords Go.Proofs.YtjjfeoigjhbbpaaW.PrintLast Go.Proofs.YtjjfeoigjhbbpaaW.PrintMore
attribute [local go_sem] pr_leq pr_geq pr_gtr max2_int min2_int max_two min_two max_three min_three max_four min_four
set_option linter.unusedVariables false
set_option linter.unusedSimpArgs false
mutual
def cisternref11_Size.l0 : Nat → Int → Int → Bool → List (S48) → List ByteArray → List Int → Option (Int)
  | 0, _, _, _, _, _, _ => none
  | k + 1, x3, x4, x163000, x163001, x163002, x163003 => if x4 < (x163001.length : Int) then (if 0 ≤ x4 then (cisternref11_Size.l0 k (wrap64 ((wrap64 ((wrap64 (x3 + 2)) + (((rd_T48 x163001 x4).f0).size : Int))) + (((rd_T48 x163001 x4).f1).size : Int))) (wrap64 (x4 + 1)) x163000 x163001 x163002 x163003) else (none)) else (some x3)
def cisternref11_Size.l1 : Nat → Int → Int → Bool → List (S48) → List ByteArray → List Int → Option (Int)
  | 0, _, _, _, _, _, _ => none
  | k + 1, x3, x5, x163000, x163001, x163002, x163003 => if x5 < (x163002.length : Int) then (if 0 ≤ x5 then (cisternref11_Size.l1 k (wrap64 ((wrap64 (x3 + 1)) + ((rdOf ByteArray.empty x163002 x5).size : Int))) (wrap64 (x5 + 1)) x163000 x163001 x163002 x163003) else (none)) else (some x3)
end
def cisternref11_Size.f (k : Nat) (a0_0 : Bool) (l0_1 : List (S48)) (l0_2 : List ByteArray) (l0_3 : List Int) : Option (Int) := if a0_0 = true then (cisternref11_Size.l0 k 2 0 a0_0 l0_1 l0_2 l0_3) else (cisternref11_Size.l1 k (wrap64 (2 + (wrap64 (2 * (l0_3.length : Int))))) 0 a0_0 l0_1 l0_2 l0_3)
set_option maxHeartbeats 8000000 in
set_option maxRecDepth 100000 in
theorem cisternref11_Size.calls (k : Nat) (a0_0 : Bool) (A0_1 : Option Addr) (c0_1 : Nat) (l0_1 : List (S48)) (A0_2 : Option Addr) (c0_2 : Nat) (l0_2 : List ByteArray) (A0_3 : Option Addr) (c0_3 : Nat) (l0_3 : List Int) (r : Int) (w : World) (hr0_1 : Kd.C k48 w A0_1 l0_1.length l0_1) (hc0_1 : l0_1.length ≤ c0_1) (hr0_2 : Kd.C Kd.string w A0_2 l0_2.length l0_2) (hc0_2 : l0_2.length ≤ c0_2) (hr0_3 : Kd.C (Kd.int .i64) w A0_3 l0_3.length l0_3) (hc0_3 : l0_3.length ≤ c0_3) (h : cisternref11_Size.f k a0_0 l0_1 l0_2 l0_3 = some r) :
    Calls Try.prog 27 #[.agg #[.bool a0_0, .slice A0_1 l0_1.length c0_1, .slice A0_2 l0_2.length c0_2, .slice A0_3 l0_3.length c0_3]] w fun e w' => e = .returned (.int .i64 r) ∧ Below w.heap.size w w' := by
  have hu26 := Try.underlying26
  have HR0_1 := Aside0.mk hr0_1
  have HC0_1 := Aside0.mk hc0_1
  clear hr0_1 hc0_1
  have HR0_2 := Aside0.mk hr0_2
  have HC0_2 := Aside0.mk hc0_2
  clear hr0_2 hc0_2
  have HR0_3 := Aside0.mk hr0_3
  have HC0_3 := Aside0.mk hc0_3
  clear hr0_3 hc0_3
  have HB := Aside0.mk (Below.refl w.heap.size w)
  have H : (if a0_0 = true then (cisternref11_Size.l0 k 2 0 a0_0 l0_1 l0_2 l0_3) else (cisternref11_Size.l1 k (wrap64 (2 + (wrap64 (2 * (l0_3.length : Int))))) 0 a0_0 l0_1 l0_2 l0_3)) = some r := h
  clear h
  by_cases c2 : a0_0 = true
  · subst c2
    have H1 : (cisternref11_Size.l0 k 2 0 true l0_1 l0_2 l0_3) = some r := by rw [if_pos rfl] at H; exact H
    clear H
    have H := H1
    clear H1
    have H' := Aside0.mk H
    clear H
    go_enter Try.func27, Try.ntmps27
    go_wp2_with (first | ((with_reducible refine gate_dst (N := 1) rfl ?_); refine box_event ?hg (N := 1) ?hd (cs := #[.bool true, .slice A0_1 l0_1.length c0_1, .slice A0_2 l0_2.length c0_2, .slice A0_3 l0_3.length c0_3]) (t := 26) ?hr ?_; (case hd => rfl); (case hg => rfl); (case hr => first | (go_simp; done) | (go_simp; rfl)); intro gb162 hg w3 hbox hb; have n0_ := Aside0.mk (below_step (by repeat (first | (with_reducible first | exact HB.out | apply below_alloc | apply pw_below_drewN | apply below_drew1) | exact HB.out)) hb); have n1_ := Aside0.mk (hbox); have n2_ := Aside0.mk ((by rw [hg]; exact (below_size (by repeat (first | (with_reducible first | exact HB.out | apply below_alloc | apply pw_below_drewN | apply below_drew1) | exact HB.out))) : w.heap.size ≤ gb162)); have n3_ := Aside0.mk ((by rw [hg]; exact (below_size (by repeat (first | (with_reducible first | exact HB.out | apply below_alloc | apply pw_below_drewN | apply below_drew1) | exact HB.out))) : w.heap.size ≤ gb162)); clear HB; have HB := n0_; have BK162 := n1_; have GW162 := n2_; have GE162 := n3_; clear n0_ n1_ n2_ n3_; clear hb hbox hg; have hcz4_0 : w3.cell? ⟨gb162, 0, none⟩ = some (.bool true) := (blk_cell BK162.out 0).trans rfl; have hcz4_1 : w3.cell? ⟨gb162, 1, none⟩ = some (.slice A0_1 l0_1.length c0_1) := (blk_cell BK162.out 1).trans rfl; have hcz4_2 : w3.cell? ⟨gb162, 2, none⟩ = some (.slice A0_2 l0_2.length c0_2) := (blk_cell BK162.out 2).trans rfl; have hcz4_3 : w3.cell? ⟨gb162, 3, none⟩ = some (.slice A0_3 l0_3.length c0_3) := (blk_cell BK162.out 3).trans rfl; have hfz4_0 := blk_frozen BK162.out 0; have hfz4_1 := blk_frozen BK162.out 1; have hfz4_2 := blk_frozen BK162.out 2; have hfz4_3 := blk_frozen BK162.out 3))
    repeat (go_quiet (first | ((with_reducible refine gate_dst (N := 1) rfl ?_); refine box_event ?hg (N := 1) ?hd (cs := #[.bool true, .slice A0_1 l0_1.length c0_1, .slice A0_2 l0_2.length c0_2, .slice A0_3 l0_3.length c0_3]) (t := 26) ?hr ?_; (case hd => rfl); (case hg => rfl); (case hr => first | (go_simp; done) | (go_simp; rfl)); intro gb162 hg w3 hbox hb; have n0_ := Aside0.mk (below_step (by repeat (first | (with_reducible first | exact HB.out | apply below_alloc | apply pw_below_drewN | apply below_drew1) | exact HB.out)) hb); have n1_ := Aside0.mk (hbox); have n2_ := Aside0.mk ((by rw [hg]; exact (below_size (by repeat (first | (with_reducible first | exact HB.out | apply below_alloc | apply pw_below_drewN | apply below_drew1) | exact HB.out))) : w.heap.size ≤ gb162)); have n3_ := Aside0.mk ((by rw [hg]; exact (below_size (by repeat (first | (with_reducible first | exact HB.out | apply below_alloc | apply pw_below_drewN | apply below_drew1) | exact HB.out))) : w.heap.size ≤ gb162)); clear HB; have HB := n0_; have BK162 := n1_; have GW162 := n2_; have GE162 := n3_; clear n0_ n1_ n2_ n3_; clear hb hbox hg; have hcz4_0 : w3.cell? ⟨gb162, 0, none⟩ = some (.bool true) := (blk_cell BK162.out 0).trans rfl; have hcz4_1 : w3.cell? ⟨gb162, 1, none⟩ = some (.slice A0_1 l0_1.length c0_1) := (blk_cell BK162.out 1).trans rfl; have hcz4_2 : w3.cell? ⟨gb162, 2, none⟩ = some (.slice A0_2 l0_2.length c0_2) := (blk_cell BK162.out 2).trans rfl; have hcz4_3 : w3.cell? ⟨gb162, 3, none⟩ = some (.slice A0_3 l0_3.length c0_3) := (blk_cell BK162.out 3).trans rfl; have hfz4_0 := blk_frozen BK162.out 0; have hfz4_1 := blk_frozen BK162.out 1; have hfz4_2 := blk_frozen BK162.out 2; have hfz4_3 := blk_frozen BK162.out 3)); try go_wp2_with (first | ((with_reducible refine gate_dst (N := 1) rfl ?_); refine box_event ?hg (N := 1) ?hd (cs := #[.bool true, .slice A0_1 l0_1.length c0_1, .slice A0_2 l0_2.length c0_2, .slice A0_3 l0_3.length c0_3]) (t := 26) ?hr ?_; (case hd => rfl); (case hg => rfl); (case hr => first | (go_simp; done) | (go_simp; rfl)); intro gb162 hg w3 hbox hb; have n0_ := Aside0.mk (below_step (by repeat (first | (with_reducible first | exact HB.out | apply below_alloc | apply pw_below_drewN | apply below_drew1) | exact HB.out)) hb); have n1_ := Aside0.mk (hbox); have n2_ := Aside0.mk ((by rw [hg]; exact (below_size (by repeat (first | (with_reducible first | exact HB.out | apply below_alloc | apply pw_below_drewN | apply below_drew1) | exact HB.out))) : w.heap.size ≤ gb162)); have n3_ := Aside0.mk ((by rw [hg]; exact (below_size (by repeat (first | (with_reducible first | exact HB.out | apply below_alloc | apply pw_below_drewN | apply below_drew1) | exact HB.out))) : w.heap.size ≤ gb162)); clear HB; have HB := n0_; have BK162 := n1_; have GW162 := n2_; have GE162 := n3_; clear n0_ n1_ n2_ n3_; clear hb hbox hg; have hcz4_0 : w3.cell? ⟨gb162, 0, none⟩ = some (.bool true) := (blk_cell BK162.out 0).trans rfl; have hcz4_1 : w3.cell? ⟨gb162, 1, none⟩ = some (.slice A0_1 l0_1.length c0_1) := (blk_cell BK162.out 1).trans rfl; have hcz4_2 : w3.cell? ⟨gb162, 2, none⟩ = some (.slice A0_2 l0_2.length c0_2) := (blk_cell BK162.out 2).trans rfl; have hcz4_3 : w3.cell? ⟨gb162, 3, none⟩ = some (.slice A0_3 l0_3.length c0_3) := (blk_cell BK162.out 3).trans rfl; have hfz4_0 := blk_frozen BK162.out 0; have hfz4_1 := blk_frozen BK162.out 1; have hfz4_2 := blk_frozen BK162.out 2; have hfz4_3 := blk_frozen BK162.out 3)))
    go_loopg [3, 4] k (fun kq v3 v4 w' => ∃ (x3_1 : Int) (x4_1 : Int), v3 = .int .i64 x3_1 ∧ v4 = .int .i64 x4_1 ∧ Aside0 (cisternref11_Size.l0 kq x3_1 x4_1 true l0_1 l0_2 l0_3 = some r) ∧ Aside0 (kq ≤ k) ∧ Aside0 (w'.heap[gb162]? = some (.cells #[.bool true, (.slice A0_1 l0_1.length c0_1), (.slice A0_2 l0_2.length c0_2), (.slice A0_3 l0_3.length c0_3)] 26 (0, 0))) ∧ Aside0 (Below w.heap.size w w'))
    case atStart => exact ⟨(2), (0), (by first | rfl | (simp; done) | (simp [*]; done)), (by first | rfl | (simp; done) | (simp [*]; done)), H', ⟨Nat.le_refl _⟩, ⟨by (with_reducible repeat (first | refine blk_drewN ?_ _ | refine blk_drew ?_ | refine blk_alloc ?_ _)); exact BK162.out⟩, ⟨by repeat (first | (with_reducible first | exact HB.out | apply below_alloc | apply pw_below_drewN | apply below_drew1 | refine below_set ?_ GE162.out) | exact HB.out)⟩⟩
    case round =>
      clear H'
      try clear c2
      try clear p2
      try clear hcz4_0
      try clear hcz4_1
      try clear hcz4_2
      try clear hcz4_3
      try clear hfz4_0
      try clear hfz4_1
      try clear hfz4_2
      try clear hfz4_3
      obtain ⟨x3_1, x4_1, rfl, rfl, HA, HK1, BK162, HB⟩ := hrel
      cases gk with
      | zero => exact absurd HA.out (by simp [cisternref11_Size.l0])
      | succ k1 =>
        have H := HA.out
        clear HA
        simp only [cisternref11_Size.l0] at H
        by_cases c5 : x4_1 < (l0_1.length : Int)
        · rw [if_pos c5] at H
          have c5b0 : decide (x4_1 < (l0_1.length : Int)) = true := decide_eq_true c5
          clear c5
          by_cases c6 : 0 ≤ x4_1
          · rw [if_pos c6] at H
            have c6b0 : decide (0 ≤ x4_1) = true := decide_eq_true c6
            clear c6
            have H' := Aside0.mk H
            clear H
            have hcz7_0 : wr.cell? ⟨gb162, 0, none⟩ = some (.bool true) := (blk_cell BK162.out 0).trans rfl
            have hcz7_1 : wr.cell? ⟨gb162, 1, none⟩ = some (.slice A0_1 l0_1.length c0_1) := (blk_cell BK162.out 1).trans rfl
            have hcz7_2 : wr.cell? ⟨gb162, 2, none⟩ = some (.slice A0_2 l0_2.length c0_2) := (blk_cell BK162.out 2).trans rfl
            have hcz7_3 : wr.cell? ⟨gb162, 3, none⟩ = some (.slice A0_3 l0_3.length c0_3) := (blk_cell BK162.out 3).trans rfl
            have hfz7_0 := blk_frozen BK162.out 0
            have hfz7_1 := blk_frozen BK162.out 1
            have hfz7_2 := blk_frozen BK162.out 2
            have hfz7_3 := blk_frozen BK162.out 3
            have p163 : 0 ≤ (x4_1 : Int) := of_decide_eq_true (by first | (with_reducible assumption) | assumption)
            have q163 : x4_1 < (l0_1.length : Int) := of_decide_eq_true (by first | (with_reducible assumption) | assumption)
            obtain ⟨ad163, e163, hx163_0, hx163_1⟩ := at_T48 HR0_1.out x4_1 p163 q163
            cases e163
            replace hx163_0 := (HB.out.cell (World.block_lt_of_cell? w _ hx163_0)).trans hx163_0
            replace hx163_1 := (HB.out.cell (World.block_lt_of_cell? w _ hx163_1)).trans hx163_1
            replace p163 := eq_true p163
            replace q163 := eq_true q163
            have p164 : 0 ≤ (x4_1 : Int) := of_decide_eq_true (by first | (with_reducible assumption) | assumption)
            have q164 : x4_1 < (l0_1.length : Int) := of_decide_eq_true (by first | (with_reducible assumption) | assumption)
            obtain ⟨ad164, e164, hx164_0, hx164_1⟩ := at_T48 HR0_1.out x4_1 p164 q164
            obtain rfl : ad163 = ad164 := (by injection e164)
            replace hx164_0 := (HB.out.cell (World.block_lt_of_cell? w _ hx164_0)).trans hx164_0
            replace hx164_1 := (HB.out.cell (World.block_lt_of_cell? w _ hx164_1)).trans hx164_1
            replace p164 := eq_true p164
            replace q164 := eq_true q164
            go_wp2
            repeat (go_quiet (fail); try go_wp2)
            go_roundg k1
            case measure => have := HK1.out; omega
            case rel => exact ⟨(wrap64 ((wrap64 ((wrap64 (x3_1 + 2)) + (((rd_T48 l0_1 x4_1).f0).size : Int))) + (((rd_T48 l0_1 x4_1).f1).size : Int))), (wrap64 (x4_1 + 1)), (by first | rfl | (simp; done) | (simp [*]; done)), (by first | rfl | (simp; done) | (simp [*]; done)), H', ⟨by have := HK1.out; omega⟩, ⟨by (with_reducible repeat (first | refine blk_drewN ?_ _ | refine blk_drew ?_ | refine blk_alloc ?_ _)); exact BK162.out⟩, ⟨by repeat (first | (with_reducible first | exact HB.out | apply below_alloc | apply pw_below_drewN | apply below_drew1 | refine below_set ?_ GE162.out) | exact HB.out)⟩⟩
          · rw [if_neg c6] at H
            exact absurd H (by simp)
        · rw [if_neg c5] at H
          have c5b0 : decide (x4_1 < (l0_1.length : Int)) = false := decide_eq_false c5
          clear c5
          obtain rfl := Option.some.inj H
          have hcz8_0 : wr.cell? ⟨gb162, 0, none⟩ = some (.bool true) := (blk_cell BK162.out 0).trans rfl
          have hcz8_1 : wr.cell? ⟨gb162, 1, none⟩ = some (.slice A0_1 l0_1.length c0_1) := (blk_cell BK162.out 1).trans rfl
          have hcz8_2 : wr.cell? ⟨gb162, 2, none⟩ = some (.slice A0_2 l0_2.length c0_2) := (blk_cell BK162.out 2).trans rfl
          have hcz8_3 : wr.cell? ⟨gb162, 3, none⟩ = some (.slice A0_3 l0_3.length c0_3) := (blk_cell BK162.out 3).trans rfl
          have hfz8_0 := blk_frozen BK162.out 0
          have hfz8_1 := blk_frozen BK162.out 1
          have hfz8_2 := blk_frozen BK162.out 2
          have hfz8_3 := blk_frozen BK162.out 3
          go_wp2
          repeat (go_quiet (fail); try go_wp2)
          go_ret
          exact ⟨by first | rfl | (simp [errW_none, errW_some] <;> rfl) | (simp [*, errW_none, errW_some] <;> rfl), by repeat (first | (with_reducible first | exact HB.out | apply below_alloc | apply pw_below_drewN | apply below_drew1 | refine below_set ?_ GE162.out) | exact HB.out)⟩
  · replace c2 := Bool.eq_false_iff.mpr c2
    subst c2
    have H1 : (cisternref11_Size.l1 k (wrap64 (2 + (wrap64 (2 * (l0_3.length : Int))))) 0 false l0_1 l0_2 l0_3) = some r := by rw [if_neg (show ¬ (false = true) by decide)] at H; exact H
    clear H
    have H := H1
    clear H1
    have H' := Aside0.mk H
    clear H
    go_enter Try.func27, Try.ntmps27
    go_wp2_with (first | ((with_reducible refine gate_dst (N := 1) rfl ?_); refine box_event ?hg (N := 1) ?hd (cs := #[.bool false, .slice A0_1 l0_1.length c0_1, .slice A0_2 l0_2.length c0_2, .slice A0_3 l0_3.length c0_3]) (t := 26) ?hr ?_; (case hd => rfl); (case hg => rfl); (case hr => first | (go_simp; done) | (go_simp; rfl)); intro gb162 hg w9 hbox hb; have n0_ := Aside0.mk (below_step (by repeat (first | (with_reducible first | exact HB.out | apply below_alloc | apply pw_below_drewN | apply below_drew1) | exact HB.out)) hb); have n1_ := Aside0.mk (hbox); have n2_ := Aside0.mk ((by rw [hg]; exact (below_size (by repeat (first | (with_reducible first | exact HB.out | apply below_alloc | apply pw_below_drewN | apply below_drew1) | exact HB.out))) : w.heap.size ≤ gb162)); have n3_ := Aside0.mk ((by rw [hg]; exact (below_size (by repeat (first | (with_reducible first | exact HB.out | apply below_alloc | apply pw_below_drewN | apply below_drew1) | exact HB.out))) : w.heap.size ≤ gb162)); clear HB; have HB := n0_; have BK162 := n1_; have GW162 := n2_; have GE162 := n3_; clear n0_ n1_ n2_ n3_; clear hb hbox hg; have hcz10_0 : w9.cell? ⟨gb162, 0, none⟩ = some (.bool false) := (blk_cell BK162.out 0).trans rfl; have hcz10_1 : w9.cell? ⟨gb162, 1, none⟩ = some (.slice A0_1 l0_1.length c0_1) := (blk_cell BK162.out 1).trans rfl; have hcz10_2 : w9.cell? ⟨gb162, 2, none⟩ = some (.slice A0_2 l0_2.length c0_2) := (blk_cell BK162.out 2).trans rfl; have hcz10_3 : w9.cell? ⟨gb162, 3, none⟩ = some (.slice A0_3 l0_3.length c0_3) := (blk_cell BK162.out 3).trans rfl; have hfz10_0 := blk_frozen BK162.out 0; have hfz10_1 := blk_frozen BK162.out 1; have hfz10_2 := blk_frozen BK162.out 2; have hfz10_3 := blk_frozen BK162.out 3))
    repeat (go_quiet (first | ((with_reducible refine gate_dst (N := 1) rfl ?_); refine box_event ?hg (N := 1) ?hd (cs := #[.bool false, .slice A0_1 l0_1.length c0_1, .slice A0_2 l0_2.length c0_2, .slice A0_3 l0_3.length c0_3]) (t := 26) ?hr ?_; (case hd => rfl); (case hg => rfl); (case hr => first | (go_simp; done) | (go_simp; rfl)); intro gb162 hg w9 hbox hb; have n0_ := Aside0.mk (below_step (by repeat (first | (with_reducible first | exact HB.out | apply below_alloc | apply pw_below_drewN | apply below_drew1) | exact HB.out)) hb); have n1_ := Aside0.mk (hbox); have n2_ := Aside0.mk ((by rw [hg]; exact (below_size (by repeat (first | (with_reducible first | exact HB.out | apply below_alloc | apply pw_below_drewN | apply below_drew1) | exact HB.out))) : w.heap.size ≤ gb162)); have n3_ := Aside0.mk ((by rw [hg]; exact (below_size (by repeat (first | (with_reducible first | exact HB.out | apply below_alloc | apply pw_below_drewN | apply below_drew1) | exact HB.out))) : w.heap.size ≤ gb162)); clear HB; have HB := n0_; have BK162 := n1_; have GW162 := n2_; have GE162 := n3_; clear n0_ n1_ n2_ n3_; clear hb hbox hg; have hcz10_0 : w9.cell? ⟨gb162, 0, none⟩ = some (.bool false) := (blk_cell BK162.out 0).trans rfl; have hcz10_1 : w9.cell? ⟨gb162, 1, none⟩ = some (.slice A0_1 l0_1.length c0_1) := (blk_cell BK162.out 1).trans rfl; have hcz10_2 : w9.cell? ⟨gb162, 2, none⟩ = some (.slice A0_2 l0_2.length c0_2) := (blk_cell BK162.out 2).trans rfl; have hcz10_3 : w9.cell? ⟨gb162, 3, none⟩ = some (.slice A0_3 l0_3.length c0_3) := (blk_cell BK162.out 3).trans rfl; have hfz10_0 := blk_frozen BK162.out 0; have hfz10_1 := blk_frozen BK162.out 1; have hfz10_2 := blk_frozen BK162.out 2; have hfz10_3 := blk_frozen BK162.out 3)); try go_wp2_with (first | ((with_reducible refine gate_dst (N := 1) rfl ?_); refine box_event ?hg (N := 1) ?hd (cs := #[.bool false, .slice A0_1 l0_1.length c0_1, .slice A0_2 l0_2.length c0_2, .slice A0_3 l0_3.length c0_3]) (t := 26) ?hr ?_; (case hd => rfl); (case hg => rfl); (case hr => first | (go_simp; done) | (go_simp; rfl)); intro gb162 hg w9 hbox hb; have n0_ := Aside0.mk (below_step (by repeat (first | (with_reducible first | exact HB.out | apply below_alloc | apply pw_below_drewN | apply below_drew1) | exact HB.out)) hb); have n1_ := Aside0.mk (hbox); have n2_ := Aside0.mk ((by rw [hg]; exact (below_size (by repeat (first | (with_reducible first | exact HB.out | apply below_alloc | apply pw_below_drewN | apply below_drew1) | exact HB.out))) : w.heap.size ≤ gb162)); have n3_ := Aside0.mk ((by rw [hg]; exact (below_size (by repeat (first | (with_reducible first | exact HB.out | apply below_alloc | apply pw_below_drewN | apply below_drew1) | exact HB.out))) : w.heap.size ≤ gb162)); clear HB; have HB := n0_; have BK162 := n1_; have GW162 := n2_; have GE162 := n3_; clear n0_ n1_ n2_ n3_; clear hb hbox hg; have hcz10_0 : w9.cell? ⟨gb162, 0, none⟩ = some (.bool false) := (blk_cell BK162.out 0).trans rfl; have hcz10_1 : w9.cell? ⟨gb162, 1, none⟩ = some (.slice A0_1 l0_1.length c0_1) := (blk_cell BK162.out 1).trans rfl; have hcz10_2 : w9.cell? ⟨gb162, 2, none⟩ = some (.slice A0_2 l0_2.length c0_2) := (blk_cell BK162.out 2).trans rfl; have hcz10_3 : w9.cell? ⟨gb162, 3, none⟩ = some (.slice A0_3 l0_3.length c0_3) := (blk_cell BK162.out 3).trans rfl; have hfz10_0 := blk_frozen BK162.out 0; have hfz10_1 := blk_frozen BK162.out 1; have hfz10_2 := blk_frozen BK162.out 2; have hfz10_3 := blk_frozen BK162.out 3)))
    go_loopg [3, 5] k (fun kq v3 v5 w' => ∃ (x3_1 : Int) (x5_1 : Int), v3 = .int .i64 x3_1 ∧ v5 = .int .i64 x5_1 ∧ Aside0 (cisternref11_Size.l1 kq x3_1 x5_1 false l0_1 l0_2 l0_3 = some r) ∧ Aside0 (kq ≤ k) ∧ Aside0 (w'.heap[gb162]? = some (.cells #[.bool false, (.slice A0_1 l0_1.length c0_1), (.slice A0_2 l0_2.length c0_2), (.slice A0_3 l0_3.length c0_3)] 26 (0, 0))) ∧ Aside0 (Below w.heap.size w w'))
    case atStart => exact ⟨(wrap64 (2 + (wrap64 (2 * (l0_3.length : Int))))), (0), (by first | rfl | (simp; done) | (simp [*]; done)), (by first | rfl | (simp; done) | (simp [*]; done)), H', ⟨Nat.le_refl _⟩, ⟨by (with_reducible repeat (first | refine blk_drewN ?_ _ | refine blk_drew ?_ | refine blk_alloc ?_ _)); exact BK162.out⟩, ⟨by repeat (first | (with_reducible first | exact HB.out | apply below_alloc | apply pw_below_drewN | apply below_drew1 | refine below_set ?_ GE162.out) | exact HB.out)⟩⟩
    case round =>
      clear H'
      try clear p1
      try clear q1
      try clear hx1
      try clear c2
      try clear p2
      try clear c5
      try clear c5b0
      try clear c6
      try clear c6b0
      try clear p6
      try clear hcz10_0
      try clear hcz10_1
      try clear hcz10_2
      try clear hcz10_3
      try clear hcz4_0
      try clear hcz4_1
      try clear hcz4_2
      try clear hcz4_3
      try clear hcz7_0
      try clear hcz7_1
      try clear hcz7_2
      try clear hcz7_3
      try clear hcz8_0
      try clear hcz8_1
      try clear hcz8_2
      try clear hcz8_3
      try clear hfz10_0
      try clear hfz10_1
      try clear hfz10_2
      try clear hfz10_3
      try clear hfz4_0
      try clear hfz4_1
      try clear hfz4_2
      try clear hfz4_3
      try clear hfz7_0
      try clear hfz7_1
      try clear hfz7_2
      try clear hfz7_3
      try clear hfz8_0
      try clear hfz8_1
      try clear hfz8_2
      try clear hfz8_3
      try clear hx163_0
      try clear hx163_1
      try clear hx164_0
      try clear hx164_1
      try clear p163
      try clear p164
      try clear p2
      try clear q163
      try clear q164
      obtain ⟨x3_1, x5_1, rfl, rfl, HA, HK1, BK162, HB⟩ := hrel
      cases gk with
      | zero => exact absurd HA.out (by simp [cisternref11_Size.l1])
      | succ k1 =>
        have H := HA.out
        clear HA
        simp only [cisternref11_Size.l1] at H
        by_cases c11 : x5_1 < (l0_2.length : Int)
        · rw [if_pos c11] at H
          have c11b0 : decide (x5_1 < (l0_2.length : Int)) = true := decide_eq_true c11
          clear c11
          by_cases c12 : 0 ≤ x5_1
          · rw [if_pos c12] at H
            have c12b0 : decide (0 ≤ x5_1) = true := decide_eq_true c12
            clear c12
            have H' := Aside0.mk H
            clear H
            have hcz13_0 : wr.cell? ⟨gb162, 0, none⟩ = some (.bool false) := (blk_cell BK162.out 0).trans rfl
            have hcz13_1 : wr.cell? ⟨gb162, 1, none⟩ = some (.slice A0_1 l0_1.length c0_1) := (blk_cell BK162.out 1).trans rfl
            have hcz13_2 : wr.cell? ⟨gb162, 2, none⟩ = some (.slice A0_2 l0_2.length c0_2) := (blk_cell BK162.out 2).trans rfl
            have hcz13_3 : wr.cell? ⟨gb162, 3, none⟩ = some (.slice A0_3 l0_3.length c0_3) := (blk_cell BK162.out 3).trans rfl
            have hfz13_0 := blk_frozen BK162.out 0
            have hfz13_1 := blk_frozen BK162.out 1
            have hfz13_2 := blk_frozen BK162.out 2
            have hfz13_3 := blk_frozen BK162.out 3
            have p165 : 0 ≤ (x5_1 : Int) := of_decide_eq_true (by first | (with_reducible assumption) | assumption)
            have q165 : x5_1 < (l0_2.length : Int) := of_decide_eq_true (by first | (with_reducible assumption) | assumption)
            obtain ⟨ad165, e165, hx165_0⟩ := Kd.at_string HR0_2.out x5_1 p165 q165
            cases e165
            replace hx165_0 := (HB.out.cell (World.block_lt_of_cell? w _ hx165_0)).trans hx165_0
            replace p165 := eq_true p165
            replace q165 := eq_true q165
            go_wp2
            repeat (go_quiet (fail); try go_wp2)
            go_roundg k1
            case measure => have := HK1.out; omega
            case rel => exact ⟨(wrap64 ((wrap64 (x3_1 + 1)) + ((rdOf ByteArray.empty l0_2 x5_1).size : Int))), (wrap64 (x5_1 + 1)), (by first | rfl | (simp; done) | (simp [*]; done)), (by first | rfl | (simp; done) | (simp [*]; done)), H', ⟨by have := HK1.out; omega⟩, ⟨by (with_reducible repeat (first | refine blk_drewN ?_ _ | refine blk_drew ?_ | refine blk_alloc ?_ _)); exact BK162.out⟩, ⟨by repeat (first | (with_reducible first | exact HB.out | apply below_alloc | apply pw_below_drewN | apply below_drew1 | refine below_set ?_ GE162.out) | exact HB.out)⟩⟩
          · rw [if_neg c12] at H
            exact absurd H (by simp)
        · rw [if_neg c11] at H
          have c11b0 : decide (x5_1 < (l0_2.length : Int)) = false := decide_eq_false c11
          clear c11
          obtain rfl := Option.some.inj H
          have hcz14_0 : wr.cell? ⟨gb162, 0, none⟩ = some (.bool false) := (blk_cell BK162.out 0).trans rfl
          have hcz14_1 : wr.cell? ⟨gb162, 1, none⟩ = some (.slice A0_1 l0_1.length c0_1) := (blk_cell BK162.out 1).trans rfl
          have hcz14_2 : wr.cell? ⟨gb162, 2, none⟩ = some (.slice A0_2 l0_2.length c0_2) := (blk_cell BK162.out 2).trans rfl
          have hcz14_3 : wr.cell? ⟨gb162, 3, none⟩ = some (.slice A0_3 l0_3.length c0_3) := (blk_cell BK162.out 3).trans rfl
          have hfz14_0 := blk_frozen BK162.out 0
          have hfz14_1 := blk_frozen BK162.out 1
          have hfz14_2 := blk_frozen BK162.out 2
          have hfz14_3 := blk_frozen BK162.out 3
          go_wp2
          repeat (go_quiet (fail); try go_wp2)
          go_ret
          exact ⟨by first | rfl | (simp [errW_none, errW_some] <;> rfl) | (simp [*, errW_none, errW_some] <;> rfl), by repeat (first | (with_reducible first | exact HB.out | apply below_alloc | apply pw_below_drewN | apply below_drew1 | refine below_set ?_ GE162.out) | exact HB.out)⟩
end
end Go.Proofs.Ytjjfeoigjhbbpaa.PA
namespace Go.Proofs.Ytjjfeoigjhbbpaa.PA
section

open Go.RowKit Go.Proofs.YtjjfeoigjhbbpaaW.PrintWords Go.Proofs.YtjjfeoigjhbbpaaW.PrintLast Go.Proofs.YtjjfeoigjhbbpaaW.PrintMore
attribute [local go_sem] pr_leq pr_geq pr_gtr max2_int min2_int max_two min_two max_three min_three max_four min_four
set_option linter.unusedVariables false
set_option linter.unusedSimpArgs false
theorem dsize_l0 (a : Bool) (K : List ByteArray) (D : List Int) (l : List S48) (hl : l.length ≤ 9223372036854775807) : ∀ (k i : Nat) (x : Int), i ≤ l.length → l.length - i < k → cisternref11_Size.l0 k (wrap64 x) (i : Int) a l K D = some (wrap64 (x + (weightN (l.drop i) : Nat)))
  | 0, _, _, _, h => by omega
  | k + 1, i, x, hi, hk => by
    unfold cisternref11_Size.l0
    by_cases h : i < l.length
    · have e3 : weightN (l.drop i) = 2 + l[i].f0.size + l[i].f1.size + weightN (l.drop (i + 1)) := by
        unfold weightN
        rw [List.drop_eq_getElem_cons h, List.map_cons, List.sum_cons]
      rw [if_pos (by omega), if_pos (by omega), wsuc (by omega), rd48 h]
      have e4 : wrap64 (wrap64 (wrap64 (wrap64 x + 2) + (l[i].f0.size : Int)) + (l[i].f1.size : Int)) = wrap64 (x + (2 + l[i].f0.size + l[i].f1.size : Nat)) := by
        simp only [w64_l, w64_r]
        congr 1
        omega
      rw [e4, dsize_l0 a K D l hl k (i + 1) _ (by omega) (by omega), e3]
      congr 2
      omega
    · rw [if_neg (by omega), List.drop_eq_nil_of_le (by omega)]
      congr 2
      show x = x + ((0 : Nat) : Int)
      omega
theorem dsize_l1 (a : Bool) (P : List S48) (D : List Int) (l : List ByteArray) (hl : l.length ≤ 9223372036854775807) : ∀ (k i : Nat) (x : Int), i ≤ l.length → l.length - i < k → cisternref11_Size.l1 k (wrap64 x) (i : Int) a P l D = some (wrap64 (x + (((l.drop i).map fun s => 1 + s.size).sum : Nat)))
  | 0, _, _, _, h => by omega
  | k + 1, i, x, hi, hk => by
    unfold cisternref11_Size.l1
    by_cases h : i < l.length
    · have e3 : ((l.drop i).map fun s => 1 + s.size).sum = 1 + l[i].size + ((l.drop (i + 1)).map fun s => 1 + s.size).sum := by
        rw [List.drop_eq_getElem_cons h, List.map_cons, List.sum_cons]
      rw [if_pos (by omega), if_pos (by omega), wsuc (by omega), rdB h]
      have e4 : wrap64 (wrap64 (wrap64 x + 1) + (l[i].size : Int)) = wrap64 (x + (1 + l[i].size : Nat)) := by
        simp only [w64_l, w64_r]
        congr 1
        omega
      rw [e4, dsize_l1 a P D l hl k (i + 1) _ (by omega) (by omega), e3]
      congr 2
      omega
    · rw [if_neg (by omega), List.drop_eq_nil_of_le (by omega)]
      congr 2
      show x = x + ((0 : Nat) : Int)
      omega
theorem dsize_val (lf : Bool) (P : List S48) (K : List ByteArray) (D : List Int) (h1 : P.length ≤ 9223372036854775807) (h2 : K.length ≤ 9223372036854775807) (k : Nat) (hk1 : P.length < k) (hk2 : K.length < k) : cisternref11_Size.f k lf P K D = some (wrap64 (sizeN lf P K D : Nat)) := by
  unfold cisternref11_Size.f sizeN
  cases lf
  · have h := dsize_l1 false P D K h2 k 0 (2 + 2 * (D.length : Int)) (by omega) (by omega)
    rw [if_neg (by decide), if_neg (by decide)]
    have e : wrap64 (2 + wrap64 (2 * (D.length : Int))) = wrap64 (2 + 2 * (D.length : Int)) := w64_r _ _
    rw [e, ← Int.ofNat_zero, h, List.drop_zero]
    congr 2
  · have h := dsize_l0 true K D P h1 k 0 2 (by omega) (by omega)
    have e : wrap64 2 = 2 := by unfold wrap64; omega
    rw [e, Int.ofNat_zero, List.drop_zero] at h
    rw [if_pos rfl, if_pos rfl, h]
    rfl
end
end Go.Proofs.Ytjjfeoigjhbbpaa.PA
