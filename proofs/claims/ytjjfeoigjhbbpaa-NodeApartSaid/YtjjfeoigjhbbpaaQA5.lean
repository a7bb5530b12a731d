/- Texts of this claim: contracts of the functions that the statement reaches, and plain laws of what they compute. -/
import Derived.Test.YtjjfeoigjhbbpaaQA4
set_option linter.unusedVariables false
set_option linter.unusedSimpArgs false
namespace Go.Proofs.Ytjjfeoigjhbbpaa.PA
section

open Go.RowKit Go.Proofs.YtjjfeoigjhbbpaaW.PrintWords Go.Proofs.YtjjfeoigjhbbpaaW.PrintLast Go.Proofs.YtjjfeoigjhbbpaaW.PrintMore
attribute [local go_sem] pr_leq pr_geq pr_gtr max2_int min2_int max_two min_two max_three min_three max_four min_four
set_option linter.unusedVariables false
set_option linter.unusedSimpArgs false
set_option maxHeartbeats 4000000 in
set_option maxRecDepth 100000 in
theorem merge_inner (A1 : Option Addr) (c1 : Nat) (l1 : List S48) (A2 : Option Addr) (c2 : Nat) (l2 : List ByteArray) (A3 : Option Addr) (c3 : Nat) (l3 : List Int) (k : ByteArray) (B1 : Option Addr) (d1 : Nat) (m1 : List S48) (B2 : Option Addr) (d2 : Nat) (m2 : List ByteArray) (B3 : Option Addr) (d3 : Nat) (m3 : List Int) (r1 : Bool) (r2 : List S48) (r3 : List ByteArray) (r4 : List Int) (re : Int) (w : World) (hr1 : Kd.C k48 w A1 l1.length l1) (hc1 : l1.length ≤ c1) (hr2 : Kd.C Kd.string w A2 l2.length l2) (hc2 : l2.length ≤ c2) (hr3 : Kd.C (Kd.int .i64) w A3 l3.length l3) (hc3 : l3.length ≤ c3) (hs1 : Kd.C k48 w B1 m1.length m1) (hd1 : m1.length ≤ d1) (hs2 : Kd.C Kd.string w B2 m2.length m2) (hd2 : m2.length ≤ d2) (hs3 : Kd.C (Kd.int .i64) w B3 m3.length m3) (hd3 : m3.length ≤ d3) (hfa : (leafV false l1 l2 l3 || innerV false l1 l2 l3) = true) (hfb : (leafV false m1 m2 m3 || innerV false m1 m2 m3) = true) (hk : keyB k = true) (hres : (if (leafV false (l1 ++ m1) (l2 ++ ([k] ++ m2)) (l3 ++ m3) || innerV false (l1 ++ m1) (l2 ++ ([k] ++ m2)) (l3 ++ m3)) = true then (false, l1 ++ m1, (l2 ++ ([k] ++ m2)), l3 ++ m3, 0) else (false, [], [], [], 2) : MgR) = (r1, r2, r3, r4, re)) :
    Calls Try.prog 22 #[.agg #[.bool false, .slice A1 l1.length c1, .slice A2 l2.length c2, .slice A3 l3.length c3], .string k, .agg #[.bool false, .slice B1 m1.length d1, .slice B2 m2.length d2, .slice B3 m3.length d3]] w fun e w' => ∃ v1_ v2_ v3_ : Value, e = .returned (.tuple #[.agg #[.bool r1, v1_, v2_, v3_], .int .i64 re]) ∧ Kd.R k48 48 w' w.heap.size (fun _ => True) v1_ r2 ∧ Kd.R Kd.string 9 w' w.heap.size (fun _ => True) v2_ r3 ∧ Kd.R (Kd.int .i64) 3 w' w.heap.size (fun _ => True) v3_ r4 ∧ Below w.heap.size w w' := by
  have KY := Aside0.mk (fun W => node_isKey.calls k (keyB k) W (isKey_val k))
  rw [hk] at KY
  clear hk
  have HLEN : Aside0 (l1.length ≤ 255 ∧ l2.length ≤ 255 ∧ l3.length ≤ 255 ∧ m1.length ≤ 255 ∧ m2.length ≤ 255 ∧ m3.length ≤ 255) := ⟨by have x := valid_len hfa; have y := valid_len hfb; exact ⟨x.1, x.2.1, x.2.2, y.1, y.2.1, y.2.2⟩⟩
  have Hl1 := Aside0.mk hc1
  have Hl2 := Aside0.mk hc2
  have Hl3 := Aside0.mk hc3
  have Hm1 := Aside0.mk hd1
  have Hm2 := Aside0.mk hd2
  have Hm3 := Aside0.mk hd3
  have CK := Aside0.mk (fun W hw => node_Check.calls false A1 c1 l1 A2 c2 l2 A3 c3 l3 0 W (Kd.C_below hr1 hw) hc1 (Kd.C_below hr2 hw) hc2 (Kd.C_below hr3 hw) hc3 (by have := check_val false l1 l2 l3; rwa [if_pos hfa] at this))
  have CKb := Aside0.mk (fun W hw => node_Check.calls false B1 d1 m1 B2 d2 m2 B3 d3 m3 0 W (Kd.C_below hs1 hw) hd1 (Kd.C_below hs2 hw) hd2 (Kd.C_below hs3 hw) hd3 (by have := check_val false m1 m2 m3; rwa [if_pos hfb] at this))
  have HR1 := Aside0.mk hr1
  have HR2 := Aside0.mk hr2
  have HR3 := Aside0.mk hr3
  have HS1 := Aside0.mk hs1
  have HS2 := Aside0.mk hs2
  have HS3 := Aside0.mk hs3
  clear hr1 hr2 hr3 hs1 hs2 hs3
  clear hfa hfb hc1 hc2 hc3 hd1 hd2 hd3
  obtain ⟨v, hv⟩ : ∃ x : Int, (if (leafV false (l1 ++ m1) (l2 ++ ([k] ++ m2)) (l3 ++ m3) || innerV false (l1 ++ m1) (l2 ++ ([k] ++ m2)) (l3 ++ m3)) = true then 0 else 2) = x := ⟨_, rfl⟩
  have HCV0 := check_val false (l1 ++ m1) (l2 ++ ([k] ++ m2)) (l3 ++ m3)
  rw [hv] at HCV0
  have HV : Aside0 ((v = 0 ∧ false = r1 ∧ l1 ++ m1 = r2 ∧ (l2 ++ ([k] ++ m2)) = r3 ∧ l3 ++ m3 = r4 ∧ 0 = re) ∨ (v = 2 ∧ false = r1 ∧ [] = r2 ∧ [] = r3 ∧ [] = r4 ∧ 2 = re)) := ⟨by
    by_cases hh : (leafV false (l1 ++ m1) (l2 ++ ([k] ++ m2)) (l3 ++ m3) || innerV false (l1 ++ m1) (l2 ++ ([k] ++ m2)) (l3 ++ m3)) = true
    · rw [if_pos hh] at hv hres
      injection hres with e1 e2; injection e2 with e2 e3; injection e3 with e3 e4; injection e4 with e4 e5
      exact .inl ⟨hv.symm, e1, e2, e3, e4, e5⟩
    · rw [if_neg hh] at hv hres
      injection hres with e1 e2; injection e2 with e2 e3; injection e3 with e3 e4; injection e4 with e4 e5
      exact .inr ⟨hv.symm, e1, e2, e3, e4, e5⟩⟩
  clear hv hres
  obtain ⟨PP, hPP⟩ : ∃ x, l1 ++ m1 = x := ⟨_, rfl⟩
  obtain ⟨DD, hDD⟩ : ∃ x, l3 ++ m3 = x := ⟨_, rfl⟩
  obtain ⟨NN, hNN⟩ : ∃ x, l2 ++ ([k] ++ m2) = x := ⟨_, rfl⟩
  rw [hPP, hDD, hNN] at HCV0 HV
  have NNE := Aside0.mk hNN
  clear hNN
  have HCV := Aside0.mk HCV0
  have PPE := Aside0.mk hPP
  have DDE := Aside0.mk hDD
  clear HCV0 hPP hDD
  have BB0 := Below.refl w.heap.size w
  obtain ⟨wp0, hwp0⟩ : ∃ x, x = w.alloc (.cells #[.bool false, .slice A1 l1.length c1, .slice A2 l2.length c2, .slice A3 l3.length c3] 31) := ⟨_, rfl⟩
  have t_n := heap_alloc_new w (.cells #[.bool false, .slice A1 l1.length c1, .slice A2 l2.length c2, .slice A3 l3.length c3] 31)
  rw [← hwp0] at t_n
  have BB1 : Below w.heap.size w wp0 := by rw [hwp0]; exact below_alloc BB0 _
  have sz0 : wp0.heap.size = w.heap.size + 1 := by rw [hwp0]; simp
  obtain ⟨wp1, hwp1⟩ : ∃ x, x = wp0.alloc (.cells #[.bool false, .slice B1 m1.length d1, .slice B2 m2.length d2, .slice B3 m3.length d3] 31) := ⟨_, rfl⟩
  have t_m := heap_alloc_new wp0 (.cells #[.bool false, .slice B1 m1.length d1, .slice B2 m2.length d2, .slice B3 m3.length d3] 31)
  rw [← hwp1] at t_m
  rw [sz0] at t_m
  have BB2 : Below w.heap.size w wp1 := by rw [hwp1]; exact below_alloc BB1 _
  have sz1 : wp1.heap.size = w.heap.size + 2 := by rw [hwp1]; simp [sz0]
  replace t_n := (show wp1.heap[_]? = wp0.heap[_]? by rw [hwp1]; exact Lib.alloc_old wp0 (.cells #[.bool false, .slice B1 m1.length d1, .slice B2 m2.length d2, .slice B3 m3.length d3] 31) _ (blk_lt t_n)).trans t_n
  obtain ⟨wp2, hwp2⟩ : ∃ x, x = wp1.alloc (.cells #[.bool false, .slice none 0 0, .slice none 0 0, .slice none 0 0] 31) := ⟨_, rfl⟩
  have t_r := heap_alloc_new wp1 (.cells #[.bool false, .slice none 0 0, .slice none 0 0, .slice none 0 0] 31)
  rw [← hwp2] at t_r
  rw [sz1] at t_r
  have BB3 : Below w.heap.size w wp2 := by rw [hwp2]; exact below_alloc BB2 _
  have sz2 : wp2.heap.size = w.heap.size + 3 := by rw [hwp2]; simp [sz1]
  replace t_n := (show wp2.heap[_]? = wp1.heap[_]? by rw [hwp2]; exact Lib.alloc_old wp1 (.cells #[.bool false, .slice none 0 0, .slice none 0 0, .slice none 0 0] 31) _ (blk_lt t_n)).trans t_n
  replace t_m := (show wp2.heap[_]? = wp1.heap[_]? by rw [hwp2]; exact Lib.alloc_old wp1 (.cells #[.bool false, .slice none 0 0, .slice none 0 0, .slice none 0 0] 31) _ (blk_lt t_m)).trans t_m
  have HW0 : Aside0 (wp2 = (((w.alloc (.cells #[.bool false, .slice A1 l1.length c1, .slice A2 l2.length c2, .slice A3 l3.length c3] 31)).alloc (.cells #[.bool false, .slice B1 m1.length d1, .slice B2 m2.length d2, .slice B3 m3.length d3] 31)).alloc (.cells #[.bool false, .slice none 0 0, .slice none 0 0, .slice none 0 0] 31))) := ⟨by rw [hwp2, hwp1, hwp0]⟩
  have T_n := Aside0.mk t_n
  have T_m := Aside0.mk t_m
  have T_r := Aside0.mk t_r
  have BB := Aside0.mk BB3
  have SZ0 := Aside0.mk sz2
  clear t_n t_m t_r BB0 BB1 BB2 BB3 sz0 sz1 sz2 hwp0 hwp1 hwp2
  go_enter Try.func22, Try.ntmps22
  have c_n0 : wp2.cell? ⟨w.heap.size, 0, none⟩ = some (.bool false) := blk_cell T_n.out 0
  have c_n1 : wp2.cell? ⟨w.heap.size, 1, none⟩ = some (.slice A1 l1.length c1) := blk_cell T_n.out 1
  have c_n2 : wp2.cell? ⟨w.heap.size, 2, none⟩ = some (.slice A2 l2.length c2) := blk_cell T_n.out 2
  have c_n3 : wp2.cell? ⟨w.heap.size, 3, none⟩ = some (.slice A3 l3.length c3) := blk_cell T_n.out 3
  have c_m0 : wp2.cell? ⟨(w.heap.size + 1), 0, none⟩ = some (.bool false) := blk_cell T_m.out 0
  have c_m1 : wp2.cell? ⟨(w.heap.size + 1), 1, none⟩ = some (.slice B1 m1.length d1) := blk_cell T_m.out 1
  have c_m2 : wp2.cell? ⟨(w.heap.size + 1), 2, none⟩ = some (.slice B2 m2.length d2) := blk_cell T_m.out 2
  have c_m3 : wp2.cell? ⟨(w.heap.size + 1), 3, none⟩ = some (.slice B3 m3.length d3) := blk_cell T_m.out 3
  go_wp2_with fail
  rw [← HW0.out]
  refine (CK.out _ BB.out).mono ?_
  rintro e w1 ⟨rfl, hB⟩
  replace T_n := Aside0.mk ((hB.block _ (blk_lt T_n.out)).trans T_n.out)
  replace T_m := Aside0.mk ((hB.block _ (blk_lt T_m.out)).trans T_m.out)
  replace T_r := Aside0.mk ((hB.block _ (blk_lt T_r.out)).trans T_r.out)
  replace BB := Aside0.mk (BB.out.trans (hB.mono BB.out.size))
  clear hB
  clear c_n0 c_n1 c_n2 c_n3 c_m0 c_m1 c_m2 c_m3
  have c_n0 : w1.cell? ⟨w.heap.size, 0, none⟩ = some (.bool false) := blk_cell T_n.out 0
  have c_n1 : w1.cell? ⟨w.heap.size, 1, none⟩ = some (.slice A1 l1.length c1) := blk_cell T_n.out 1
  have c_n2 : w1.cell? ⟨w.heap.size, 2, none⟩ = some (.slice A2 l2.length c2) := blk_cell T_n.out 2
  have c_n3 : w1.cell? ⟨w.heap.size, 3, none⟩ = some (.slice A3 l3.length c3) := blk_cell T_n.out 3
  have c_m0 : w1.cell? ⟨(w.heap.size + 1), 0, none⟩ = some (.bool false) := blk_cell T_m.out 0
  have c_m1 : w1.cell? ⟨(w.heap.size + 1), 1, none⟩ = some (.slice B1 m1.length d1) := blk_cell T_m.out 1
  have c_m2 : w1.cell? ⟨(w.heap.size + 1), 2, none⟩ = some (.slice B2 m2.length d2) := blk_cell T_m.out 2
  have c_m3 : w1.cell? ⟨(w.heap.size + 1), 3, none⟩ = some (.slice B3 m3.length d3) := blk_cell T_m.out 3
  go_wp2_with fail
  refine (CKb.out _ BB.out).mono ?_
  rintro e w2 ⟨rfl, hB⟩
  replace T_n := Aside0.mk ((hB.block _ (blk_lt T_n.out)).trans T_n.out)
  replace T_m := Aside0.mk ((hB.block _ (blk_lt T_m.out)).trans T_m.out)
  replace T_r := Aside0.mk ((hB.block _ (blk_lt T_r.out)).trans T_r.out)
  replace BB := Aside0.mk (BB.out.trans (hB.mono BB.out.size))
  clear hB
  clear c_n0 c_n1 c_n2 c_n3 c_m0 c_m1 c_m2 c_m3
  have c_n0 : w2.cell? ⟨w.heap.size, 0, none⟩ = some (.bool false) := blk_cell T_n.out 0
  have c_n1 : w2.cell? ⟨w.heap.size, 1, none⟩ = some (.slice A1 l1.length c1) := blk_cell T_n.out 1
  have c_n2 : w2.cell? ⟨w.heap.size, 2, none⟩ = some (.slice A2 l2.length c2) := blk_cell T_n.out 2
  have c_n3 : w2.cell? ⟨w.heap.size, 3, none⟩ = some (.slice A3 l3.length c3) := blk_cell T_n.out 3
  have c_m0 : w2.cell? ⟨(w.heap.size + 1), 0, none⟩ = some (.bool false) := blk_cell T_m.out 0
  have c_m1 : w2.cell? ⟨(w.heap.size + 1), 1, none⟩ = some (.slice B1 m1.length d1) := blk_cell T_m.out 1
  have c_m2 : w2.cell? ⟨(w.heap.size + 1), 2, none⟩ = some (.slice B2 m2.length d2) := blk_cell T_m.out 2
  have c_m3 : w2.cell? ⟨(w.heap.size + 1), 3, none⟩ = some (.slice B3 m3.length d3) := blk_cell T_m.out 3
  go_wp2_with fail
  clear c_n0 c_n1 c_n2 c_n3 c_m0 c_m1 c_m2 c_m3
  refine (KY.out _).mono ?_
  rintro e w3 ⟨rfl, hDR⟩
  have hB := hDR.below
  clear hDR
  replace T_n := Aside0.mk ((hB.block _ (blk_lt T_n.out)).trans T_n.out)
  replace T_m := Aside0.mk ((hB.block _ (blk_lt T_m.out)).trans T_m.out)
  replace T_r := Aside0.mk ((hB.block _ (blk_lt T_r.out)).trans T_r.out)
  replace BB := Aside0.mk (BB.out.trans (hB.mono BB.out.size))
  clear hB
  have c_n0 : w3.cell? ⟨w.heap.size, 0, none⟩ = some (.bool false) := blk_cell T_n.out 0
  have c_n1 : w3.cell? ⟨w.heap.size, 1, none⟩ = some (.slice A1 l1.length c1) := blk_cell T_n.out 1
  have c_n2 : w3.cell? ⟨w.heap.size, 2, none⟩ = some (.slice A2 l2.length c2) := blk_cell T_n.out 2
  have c_n3 : w3.cell? ⟨w.heap.size, 3, none⟩ = some (.slice A3 l3.length c3) := blk_cell T_n.out 3
  have c_m0 : w3.cell? ⟨(w.heap.size + 1), 0, none⟩ = some (.bool false) := blk_cell T_m.out 0
  have c_m1 : w3.cell? ⟨(w.heap.size + 1), 1, none⟩ = some (.slice B1 m1.length d1) := blk_cell T_m.out 1
  have c_m2 : w3.cell? ⟨(w.heap.size + 1), 2, none⟩ = some (.slice B2 m2.length d2) := blk_cell T_m.out 2
  have c_m3 : w3.cell? ⟨(w.heap.size + 1), 3, none⟩ = some (.slice B3 m3.length d3) := blk_cell T_m.out 3
  go_upto_region 3 with fail
  go_cut [8] from 30 to 44 (fun s8 wx => ∃ (g8 : Nat) (AP : Option Addr) (cP : Nat) (AD : Option Addr) (cD : Nat), s8 = .pointer (some ⟨g8, 0, none⟩) ∧ Aside0 (wx.heap[g8]? = some (.cells #[.bool false, .slice AP PP.length cP, .slice none 0 0, .slice AD DD.length cD] 31 (0, 0))) ∧ Aside0 (Kd.R k48 48 wx w.heap.size (fun _ => True) (.slice AP PP.length cP) PP) ∧ Aside0 (Kd.R (Kd.int .i64) 3 wx w.heap.size (fun _ => True) (.slice AD DD.length cD) DD) ∧ Aside0 (w.heap.size ≤ g8) ∧ Aside0 (w.heap.size ≠ g8) ∧ Aside0 ((w.heap.size + 1) ≠ g8) ∧ Aside0 ((w.heap.size + 2) ≠ g8) ∧ Aside0 (wx.heap[w.heap.size]? = some (.cells #[.bool false, .slice A1 l1.length c1, .slice A2 l2.length c2, .slice A3 l3.length c3] 31 (0, 0))) ∧ Aside0 (wx.heap[(w.heap.size + 1)]? = some (.cells #[.bool false, .slice B1 m1.length d1, .slice B2 m2.length d2, .slice B3 m3.length d3] 31 (0, 0))) ∧ Aside0 (wx.heap[(w.heap.size + 2)]? = some (.cells #[.bool false, .slice none 0 0, .slice none 0 0, .slice none 0 0] 31 (0, 0))) ∧ Aside0 (Below w.heap.size w wx))
  case first =>
    have MK : Aside0 (∀ W, Below w3.heap.size w3 W → Below w3.heap.size w3 W ∧ W.cell? ⟨w.heap.size, 0, none⟩ = some (.bool false) ∧ W.cell? ⟨w.heap.size, 1, none⟩ = some (.slice A1 l1.length c1) ∧ W.cell? ⟨w.heap.size, 2, none⟩ = some (.slice A2 l2.length c2) ∧ W.cell? ⟨w.heap.size, 3, none⟩ = some (.slice A3 l3.length c3) ∧ W.cell? ⟨(w.heap.size + 1), 0, none⟩ = some (.bool false) ∧ W.cell? ⟨(w.heap.size + 1), 1, none⟩ = some (.slice B1 m1.length d1) ∧ W.cell? ⟨(w.heap.size + 1), 2, none⟩ = some (.slice B2 m2.length d2) ∧ W.cell? ⟨(w.heap.size + 1), 3, none⟩ = some (.slice B3 m3.length d3)) := ⟨fun W hb => ⟨hb, nd_cell hb c_n0, nd_cell hb c_n1, nd_cell hb c_n2, nd_cell hb c_n3, nd_cell hb c_m0, nd_cell hb c_m1, nd_cell hb c_m2, nd_cell hb c_m3⟩⟩
    clear c_n0 c_n1 c_n2 c_n3 c_m0 c_m1 c_m2 c_m3
    have SB := Aside0.mk (Below.refl w3.heap.size w3)
    refine wp_region_held_drew (S := fun W => Below w3.heap.size w3 W ∧ W.cell? ⟨w.heap.size, 0, none⟩ = some (.bool false) ∧ W.cell? ⟨w.heap.size, 1, none⟩ = some (.slice A1 l1.length c1) ∧ W.cell? ⟨w.heap.size, 2, none⟩ = some (.slice A2 l2.length c2) ∧ W.cell? ⟨w.heap.size, 3, none⟩ = some (.slice A3 l3.length c3) ∧ W.cell? ⟨(w.heap.size + 1), 0, none⟩ = some (.bool false) ∧ W.cell? ⟨(w.heap.size + 1), 1, none⟩ = some (.slice B1 m1.length d1) ∧ W.cell? ⟨(w.heap.size + 1), 2, none⟩ = some (.slice B2 m2.length d2) ∧ W.cell? ⟨(w.heap.size + 1), 3, none⟩ = some (.slice B3 m3.length d3)) (by kernel_rfl) ?_ (fun hHeld => ?_)
    · try dsimp only
      exact MK.out _ (Below.drew (Below.refl _ _))
    have hB : Below w3.heap.size w3 w3.drew := below_drew1 (Below.refl _ _)
    clear hHeld
    obtain ⟨w4, hw4⟩ : ∃ x, x = w3.drew := ⟨_, rfl⟩
    rw [← hw4] at hB ⊢
    clear hw4
    replace T_n := Aside0.mk ((hB.block _ (blk_lt T_n.out)).trans T_n.out)
    replace T_m := Aside0.mk ((hB.block _ (blk_lt T_m.out)).trans T_m.out)
    replace T_r := Aside0.mk ((hB.block _ (blk_lt T_r.out)).trans T_r.out)
    replace BB := Aside0.mk (BB.out.trans (hB.mono BB.out.size))
    replace SB := Aside0.mk (SB.out.trans (hB.mono SB.out.size))
    clear hB
    have hHeld := MK.out _ SB.out
    refine sp_take 0 hHeld ?_
    refine sp_take 1 hHeld ?_
    refine sp_take 2 hHeld ?_
    refine sp_take 3 hHeld ?_
    refine sp_take 4 hHeld ?_
    refine sp_take 5 hHeld ?_
    refine sp_take 8 hHeld ?_
    refine sp_take 9 hHeld ?_
    refine sp_take 10 hHeld ?_
    refine sp_take 11 hHeld ?_
    refine wpAnyH_ready (rs := [6, 12, 15]) (by kernel_rfl) (by simp) ?_
    refine (AllReadyH.cons rfl (fun K hK => ?_) (AllReadyH.cons rfl (fun K hK => ?_) (AllReadyH.cons rfl (fun K hK => ?_) AllReadyH.nil)))
    · go_simp
      obtain ⟨g6, hg6⟩ : ∃ n, n = w4.heap.size := ⟨_, rfl⟩
      obtain ⟨w5, hw5⟩ : ∃ x, x = w4.alloc (.cells #[.slice A1 l1.length c1, .slice B1 m1.length d1] 22) := ⟨_, rfl⟩
      have tn := heap_alloc_new w4 (.cells #[.slice A1 l1.length c1, .slice B1 m1.length d1] 22)
      have hB := below_alloc (Below.refl w4.heap.size w4) (.cells #[.slice A1 l1.length c1, .slice B1 m1.length d1] 22)
      rw [← hw5] at tn hB
      rw [← hg6] at tn
      have GBB_s1 : Aside0 (w.heap.size ≤ g6) := ⟨by rw [hg6]; exact BB.out.size⟩
      have GSB_s1 : Aside0 (w3.heap.size ≤ g6) := ⟨by rw [hg6]; exact SB.out.size⟩
      have NE_s1_n : Aside0 (w.heap.size ≠ g6) := ⟨by have := blk_lt T_n.out; omega⟩
      have NE_s1_m : Aside0 ((w.heap.size + 1) ≠ g6) := ⟨by have := blk_lt T_m.out; omega⟩
      have NE_s1_r : Aside0 ((w.heap.size + 2) ≠ g6) := ⟨by have := blk_lt T_r.out; omega⟩
      replace T_n := Aside0.mk ((hB.block _ (blk_lt T_n.out)).trans T_n.out)
      replace T_m := Aside0.mk ((hB.block _ (blk_lt T_m.out)).trans T_m.out)
      replace T_r := Aside0.mk ((hB.block _ (blk_lt T_r.out)).trans T_r.out)
      replace BB := Aside0.mk (BB.out.trans (hB.mono BB.out.size))
      replace SB := Aside0.mk (SB.out.trans (hB.mono SB.out.size))
      have T_s1 := Aside0.mk tn
      clear tn hB
      rw [← hw5]
      try rw [← hg6]
      clear hw5 hg6
      refine hK.out _ _ ?_ (fun hNew => ?_)
      · try dsimp only
        exact MK.out _ SB.out
      clear hK K hHeld hNew
      have hHeld := MK.out _ SB.out
      refine wpAnyH_ready (rs := [7, 12, 15]) (by kernel_rfl) (by simp) ?_
      refine (AllReadyH.cons rfl (fun K hK => ?_) (AllReadyH.cons rfl (fun K hK => ?_) (AllReadyH.cons rfl (fun K hK => ?_) AllReadyH.nil)))
      · have BBo := BB
        have CC := concat_p (some ⟨g6, 0, none⟩) 2 [l1, m1] w5 (rows2 T_s1.out (Kd.C_below HR1.out BB.out) Hl1.out (Kd.C_below HS1.out BB.out) Hm1.out) (Nat.le_refl _) (by have := HLEN.out; simp only [flat2, List.length_append]; omega) (by simp)
        go_simp
        refine (CC).mono ?_
        rintro e w7 ⟨v0, rfl, hR, hB⟩
        replace T_n := Aside0.mk ((hB.block _ (blk_lt T_n.out)).trans T_n.out)
        replace T_m := Aside0.mk ((hB.block _ (blk_lt T_m.out)).trans T_m.out)
        replace T_r := Aside0.mk ((hB.block _ (blk_lt T_r.out)).trans T_r.out)
        replace T_s1 := Aside0.mk ((hB.block _ (blk_lt T_s1.out)).trans T_s1.out)
        replace BB := Aside0.mk (BB.out.trans (hB.mono BB.out.size))
        replace SB := Aside0.mk (SB.out.trans (hB.mono SB.out.size))
        clear hB
        have hR' := Kd.R_lower hR BBo.out.size
        rw [flat2, PPE.out] at hR'
        obtain ⟨A8, c9, rfl⟩ := Kd.R_slice hR'
        have R_p := Aside0.mk hR'
        clear hR hR' BBo CC
        go_simp
        refine hK.out _ _ ?_ (fun hNew => ?_)
        · try dsimp only
          exact MK.out _ SB.out
        clear hK K hHeld hNew
        have hHeld := MK.out _ SB.out
        refine wpAnyH_ready (rs := [12, 15]) (by kernel_rfl) (by simp) ?_
        refine (AllReadyH.cons rfl (fun K hK => ?_) (AllReadyH.cons rfl (fun K hK => ?_) AllReadyH.nil))
        · go_simp
          obtain ⟨g11, hg11⟩ : ∃ n, n = w7.heap.size := ⟨_, rfl⟩
          obtain ⟨w10, hw10⟩ : ∃ x, x = w7.alloc (.cells #[.slice A3 l3.length c3, .slice B3 m3.length d3] 24) := ⟨_, rfl⟩
          have tn := heap_alloc_new w7 (.cells #[.slice A3 l3.length c3, .slice B3 m3.length d3] 24)
          have hB := below_alloc (Below.refl w7.heap.size w7) (.cells #[.slice A3 l3.length c3, .slice B3 m3.length d3] 24)
          rw [← hw10] at tn hB
          rw [← hg11] at tn
          have GBB_s2 : Aside0 (w.heap.size ≤ g11) := ⟨by rw [hg11]; exact BB.out.size⟩
          have GSB_s2 : Aside0 (w3.heap.size ≤ g11) := ⟨by rw [hg11]; exact SB.out.size⟩
          have NE_s2_n : Aside0 (w.heap.size ≠ g11) := ⟨by have := blk_lt T_n.out; omega⟩
          have NE_s2_m : Aside0 ((w.heap.size + 1) ≠ g11) := ⟨by have := blk_lt T_m.out; omega⟩
          have NE_s2_r : Aside0 ((w.heap.size + 2) ≠ g11) := ⟨by have := blk_lt T_r.out; omega⟩
          have NE_s2_s1 : Aside0 (g6 ≠ g11) := ⟨by have := blk_lt T_s1.out; omega⟩
          replace T_n := Aside0.mk ((hB.block _ (blk_lt T_n.out)).trans T_n.out)
          replace T_m := Aside0.mk ((hB.block _ (blk_lt T_m.out)).trans T_m.out)
          replace T_r := Aside0.mk ((hB.block _ (blk_lt T_r.out)).trans T_r.out)
          replace T_s1 := Aside0.mk ((hB.block _ (blk_lt T_s1.out)).trans T_s1.out)
          replace R_p := Aside0.mk (Kd.R_below R_p.out hB)
          replace BB := Aside0.mk (BB.out.trans (hB.mono BB.out.size))
          replace SB := Aside0.mk (SB.out.trans (hB.mono SB.out.size))
          have T_s2 := Aside0.mk tn
          clear tn hB
          rw [← hw10]
          try rw [← hg11]
          clear hw10 hg11
          refine hK.out _ _ ?_ (fun hNew => ?_)
          · try dsimp only
            exact MK.out _ SB.out
          clear hK K hHeld hNew
          have hHeld := MK.out _ SB.out
          refine wpAnyH_ready (rs := [13, 15]) (by kernel_rfl) (by simp) ?_
          refine (AllReadyH.cons rfl (fun K hK => ?_) (AllReadyH.cons rfl (fun K hK => ?_) AllReadyH.nil))
          · have BBo := BB
            have CC := concat_i (some ⟨g11, 0, none⟩) 2 [l3, m3] w10 (rows2 T_s2.out (Kd.C_below HR3.out BB.out) Hl3.out (Kd.C_below HS3.out BB.out) Hm3.out) (Nat.le_refl _) (by have := HLEN.out; simp only [flat2, List.length_append]; omega) (by simp)
            go_simp
            refine (CC).mono ?_
            rintro e w12 ⟨v0, rfl, hR, hB⟩
            replace T_n := Aside0.mk ((hB.block _ (blk_lt T_n.out)).trans T_n.out)
            replace T_m := Aside0.mk ((hB.block _ (blk_lt T_m.out)).trans T_m.out)
            replace T_r := Aside0.mk ((hB.block _ (blk_lt T_r.out)).trans T_r.out)
            replace T_s1 := Aside0.mk ((hB.block _ (blk_lt T_s1.out)).trans T_s1.out)
            replace T_s2 := Aside0.mk ((hB.block _ (blk_lt T_s2.out)).trans T_s2.out)
            replace R_p := Aside0.mk (Kd.R_below R_p.out hB)
            replace BB := Aside0.mk (BB.out.trans (hB.mono BB.out.size))
            replace SB := Aside0.mk (SB.out.trans (hB.mono SB.out.size))
            clear hB
            have hR' := Kd.R_lower hR BBo.out.size
            rw [flat2, DDE.out] at hR'
            obtain ⟨A13, c14, rfl⟩ := Kd.R_slice hR'
            have R_d := Aside0.mk hR'
            clear hR hR' BBo CC
            go_simp
            refine hK.out _ _ ?_ (fun hNew => ?_)
            · try dsimp only
              exact MK.out _ SB.out
            clear hK K hHeld hNew
            have hHeld := MK.out _ SB.out
            refine sp_take 14 hHeld ?_
            refine wpAnyH_ready (rs := [15]) (by kernel_rfl) (by simp) ?_
            refine (AllReadyH.cons rfl (fun K hK => ?_) AllReadyH.nil)
            go_simp
            obtain ⟨g16, hg16⟩ : ∃ n, n = w12.heap.size := ⟨_, rfl⟩
            obtain ⟨w15, hw15⟩ : ∃ x, x = w12.alloc (.cells #[.bool false, .slice none 0 0, .slice none 0 0, .slice none 0 0] 31) := ⟨_, rfl⟩
            have tn := heap_alloc_new w12 (.cells #[.bool false, .slice none 0 0, .slice none 0 0, .slice none 0 0] 31)
            have hB := below_alloc (Below.refl w12.heap.size w12) (.cells #[.bool false, .slice none 0 0, .slice none 0 0, .slice none 0 0] 31)
            rw [← hw15] at tn hB
            rw [← hg16] at tn
            have GBB_g8 : Aside0 (w.heap.size ≤ g16) := ⟨by rw [hg16]; exact BB.out.size⟩
            have GSB_g8 : Aside0 (w3.heap.size ≤ g16) := ⟨by rw [hg16]; exact SB.out.size⟩
            have NE_g8_n : Aside0 (w.heap.size ≠ g16) := ⟨by have := blk_lt T_n.out; omega⟩
            have NE_g8_m : Aside0 ((w.heap.size + 1) ≠ g16) := ⟨by have := blk_lt T_m.out; omega⟩
            have NE_g8_r : Aside0 ((w.heap.size + 2) ≠ g16) := ⟨by have := blk_lt T_r.out; omega⟩
            have NE_g8_s1 : Aside0 (g6 ≠ g16) := ⟨by have := blk_lt T_s1.out; omega⟩
            have NE_g8_s2 : Aside0 (g11 ≠ g16) := ⟨by have := blk_lt T_s2.out; omega⟩
            replace T_n := Aside0.mk ((hB.block _ (blk_lt T_n.out)).trans T_n.out)
            replace T_m := Aside0.mk ((hB.block _ (blk_lt T_m.out)).trans T_m.out)
            replace T_r := Aside0.mk ((hB.block _ (blk_lt T_r.out)).trans T_r.out)
            replace T_s1 := Aside0.mk ((hB.block _ (blk_lt T_s1.out)).trans T_s1.out)
            replace T_s2 := Aside0.mk ((hB.block _ (blk_lt T_s2.out)).trans T_s2.out)
            replace R_p := Aside0.mk (Kd.R_below R_p.out hB)
            replace R_d := Aside0.mk (Kd.R_below R_d.out hB)
            replace BB := Aside0.mk (BB.out.trans (hB.mono BB.out.size))
            replace SB := Aside0.mk (SB.out.trans (hB.mono SB.out.size))
            have T_g8 := Aside0.mk tn
            clear tn hB
            rw [← hw15]
            try rw [← hg16]
            clear hw15 hg16
            refine hK.out _ _ ?_ (fun hNew => ?_)
            · try dsimp only
              exact MK.out _ SB.out
            clear hK K hHeld hNew
            have hHeld := MK.out _ SB.out
            refine wpAnyH_ready (rs := [16]) (by kernel_rfl) (by simp) ?_
            refine (AllReadyH.cons rfl (fun K hK => ?_) AllReadyH.nil)
            have c_g80 : w15.cell? ⟨g16, 0, none⟩ = some (.bool false) := blk_cell T_g8.out 0
            have f_g80 : w15.frozen? ⟨g16, 0, none⟩ = false := blk_frozen T_g8.out 0
            have c_g81 : w15.cell? ⟨g16, 1, none⟩ = some (.slice none 0 0) := blk_cell T_g8.out 1
            have f_g81 : w15.frozen? ⟨g16, 1, none⟩ = false := blk_frozen T_g8.out 1
            have c_g82 : w15.cell? ⟨g16, 2, none⟩ = some (.slice none 0 0) := blk_cell T_g8.out 2
            have f_g82 : w15.frozen? ⟨g16, 2, none⟩ = false := blk_frozen T_g8.out 2
            have c_g83 : w15.cell? ⟨g16, 3, none⟩ = some (.slice none 0 0) := blk_cell T_g8.out 3
            have f_g83 : w15.frozen? ⟨g16, 3, none⟩ = false := blk_frozen T_g8.out 3
            go_simp
            clear c_g80 f_g80 c_g81 f_g81 c_g82 f_g82 c_g83 f_g83
            have hg := nd_grown4 w15 (g16) (.bool false) (.slice A8 PP.length c9) (.slice none 0 0) (.slice A13 DD.length c14)
            have tn := nd_put4 w15 (g16) 31 _ _ _ _ (.bool false) (.slice A8 PP.length c9) (.slice none 0 0) (.slice A13 DD.length c14) T_g8.out
            obtain ⟨w17, hw17⟩ : ∃ x, x = ((((w15.setCell ⟨g16, 0, none⟩ (.bool false)).setCell ⟨g16, 1, none⟩ (.slice A8 PP.length c9)).setCell ⟨g16, 2, none⟩ (.slice none 0 0)).setCell ⟨g16, 3, none⟩ (.slice A13 DD.length c14)) := ⟨_, rfl⟩
            rw [← hw17] at hg tn
            rw [← hw17]
            clear hw17
            replace R_p := Aside0.mk (Kd.R_mono (Kd.R_step (Kd.R_types R_p.out T_g8.out (by decide)) (fun k hk hl => hg.block k hl (fun e => hk.2 (Option.some.inj e)))) (fun _ _ => trivial))
            replace R_d := Aside0.mk (Kd.R_mono (Kd.R_step (Kd.R_types R_d.out T_g8.out (by decide)) (fun k hk hl => hg.block k hl (fun e => hk.2 (Option.some.inj e)))) (fun _ _ => trivial))
            replace T_n := Aside0.mk ((hg.block _ (blk_lt T_n.out) (fun e => by have := Option.some.inj e; have := NE_g8_n.out; omega)).trans T_n.out)
            replace T_m := Aside0.mk ((hg.block _ (blk_lt T_m.out) (fun e => by have := Option.some.inj e; have := NE_g8_m.out; omega)).trans T_m.out)
            replace T_r := Aside0.mk ((hg.block _ (blk_lt T_r.out) (fun e => by have := Option.some.inj e; have := NE_g8_r.out; omega)).trans T_r.out)
            replace T_s1 := Aside0.mk ((hg.block _ (blk_lt T_s1.out) (fun e => by have := Option.some.inj e; have := NE_g8_s1.out; omega)).trans T_s1.out)
            replace T_s2 := Aside0.mk ((hg.block _ (blk_lt T_s2.out) (fun e => by have := Option.some.inj e; have := NE_g8_s2.out; omega)).trans T_s2.out)
            replace BB := Aside0.mk (nd_grown_below hg BB.out BB.out.size GBB_g8.out)
            replace SB := Aside0.mk (nd_grown_below hg SB.out SB.out.size GSB_g8.out)
            replace T_g8 := Aside0.mk tn
            clear tn hg
            refine hK.out _ _ ?_ (fun hNew => ?_)
            · try dsimp only
              exact MK.out _ SB.out
            clear hK K hHeld hNew
            have hHeld := MK.out _ SB.out
            refine wpAnyH_done (by kernel_rfl) ?_ _
            clear hHeld MK
            clear SB
            go_wp2_with fail
            go_meet
            exact ⟨_, _, _, _, _, rfl, T_g8, R_p, R_d, GBB_g8, NE_g8_n, NE_g8_m, NE_g8_r, T_n, T_m, T_r, BB⟩
          · go_simp
            obtain ⟨g19, hg19⟩ : ∃ n, n = w10.heap.size := ⟨_, rfl⟩
            obtain ⟨w18, hw18⟩ : ∃ x, x = w10.alloc (.cells #[.bool false, .slice none 0 0, .slice none 0 0, .slice none 0 0] 31) := ⟨_, rfl⟩
            have tn := heap_alloc_new w10 (.cells #[.bool false, .slice none 0 0, .slice none 0 0, .slice none 0 0] 31)
            have hB := below_alloc (Below.refl w10.heap.size w10) (.cells #[.bool false, .slice none 0 0, .slice none 0 0, .slice none 0 0] 31)
            rw [← hw18] at tn hB
            rw [← hg19] at tn
            have GBB_g8 : Aside0 (w.heap.size ≤ g19) := ⟨by rw [hg19]; exact BB.out.size⟩
            have GSB_g8 : Aside0 (w3.heap.size ≤ g19) := ⟨by rw [hg19]; exact SB.out.size⟩
            have NE_g8_n : Aside0 (w.heap.size ≠ g19) := ⟨by have := blk_lt T_n.out; omega⟩
            have NE_g8_m : Aside0 ((w.heap.size + 1) ≠ g19) := ⟨by have := blk_lt T_m.out; omega⟩
            have NE_g8_r : Aside0 ((w.heap.size + 2) ≠ g19) := ⟨by have := blk_lt T_r.out; omega⟩
            have NE_g8_s1 : Aside0 (g6 ≠ g19) := ⟨by have := blk_lt T_s1.out; omega⟩
            have NE_g8_s2 : Aside0 (g11 ≠ g19) := ⟨by have := blk_lt T_s2.out; omega⟩
            replace T_n := Aside0.mk ((hB.block _ (blk_lt T_n.out)).trans T_n.out)
            replace T_m := Aside0.mk ((hB.block _ (blk_lt T_m.out)).trans T_m.out)
            replace T_r := Aside0.mk ((hB.block _ (blk_lt T_r.out)).trans T_r.out)
            replace T_s1 := Aside0.mk ((hB.block _ (blk_lt T_s1.out)).trans T_s1.out)
            replace T_s2 := Aside0.mk ((hB.block _ (blk_lt T_s2.out)).trans T_s2.out)
            replace R_p := Aside0.mk (Kd.R_below R_p.out hB)
            replace BB := Aside0.mk (BB.out.trans (hB.mono BB.out.size))
            replace SB := Aside0.mk (SB.out.trans (hB.mono SB.out.size))
            have T_g8 := Aside0.mk tn
            clear tn hB
            rw [← hw18]
            try rw [← hg19]
            clear hw18 hg19
            refine hK.out _ _ ?_ (fun hNew => ?_)
            · try dsimp only
              exact MK.out _ SB.out
            clear hK K hHeld hNew
            have hHeld := MK.out _ SB.out
            refine wpAnyH_ready (rs := [13]) (by kernel_rfl) (by simp) ?_
            refine (AllReadyH.cons rfl (fun K hK => ?_) AllReadyH.nil)
            have BBo := BB
            have CC := concat_i (some ⟨g11, 0, none⟩) 2 [l3, m3] w18 (rows2 T_s2.out (Kd.C_below HR3.out BB.out) Hl3.out (Kd.C_below HS3.out BB.out) Hm3.out) (Nat.le_refl _) (by have := HLEN.out; simp only [flat2, List.length_append]; omega) (by simp)
            go_simp
            refine (CC).mono ?_
            rintro e w20 ⟨v0, rfl, hR, hB⟩
            replace T_n := Aside0.mk ((hB.block _ (blk_lt T_n.out)).trans T_n.out)
            replace T_m := Aside0.mk ((hB.block _ (blk_lt T_m.out)).trans T_m.out)
            replace T_r := Aside0.mk ((hB.block _ (blk_lt T_r.out)).trans T_r.out)
            replace T_s1 := Aside0.mk ((hB.block _ (blk_lt T_s1.out)).trans T_s1.out)
            replace T_s2 := Aside0.mk ((hB.block _ (blk_lt T_s2.out)).trans T_s2.out)
            replace T_g8 := Aside0.mk ((hB.block _ (blk_lt T_g8.out)).trans T_g8.out)
            replace R_p := Aside0.mk (Kd.R_below R_p.out hB)
            replace BB := Aside0.mk (BB.out.trans (hB.mono BB.out.size))
            replace SB := Aside0.mk (SB.out.trans (hB.mono SB.out.size))
            clear hB
            have hR' := Kd.R_lower hR BBo.out.size
            rw [flat2, DDE.out] at hR'
            obtain ⟨A21, c22, rfl⟩ := Kd.R_slice hR'
            have R_d := Aside0.mk hR'
            clear hR hR' BBo CC
            go_simp
            refine hK.out _ _ ?_ (fun hNew => ?_)
            · try dsimp only
              exact MK.out _ SB.out
            clear hK K hHeld hNew
            have hHeld := MK.out _ SB.out
            refine sp_take 14 hHeld ?_
            refine wpAnyH_ready (rs := [16]) (by kernel_rfl) (by simp) ?_
            refine (AllReadyH.cons rfl (fun K hK => ?_) AllReadyH.nil)
            have c_g80 : w20.cell? ⟨g19, 0, none⟩ = some (.bool false) := blk_cell T_g8.out 0
            have f_g80 : w20.frozen? ⟨g19, 0, none⟩ = false := blk_frozen T_g8.out 0
            have c_g81 : w20.cell? ⟨g19, 1, none⟩ = some (.slice none 0 0) := blk_cell T_g8.out 1
            have f_g81 : w20.frozen? ⟨g19, 1, none⟩ = false := blk_frozen T_g8.out 1
            have c_g82 : w20.cell? ⟨g19, 2, none⟩ = some (.slice none 0 0) := blk_cell T_g8.out 2
            have f_g82 : w20.frozen? ⟨g19, 2, none⟩ = false := blk_frozen T_g8.out 2
            have c_g83 : w20.cell? ⟨g19, 3, none⟩ = some (.slice none 0 0) := blk_cell T_g8.out 3
            have f_g83 : w20.frozen? ⟨g19, 3, none⟩ = false := blk_frozen T_g8.out 3
            go_simp
            clear c_g80 f_g80 c_g81 f_g81 c_g82 f_g82 c_g83 f_g83
            have hg := nd_grown4 w20 (g19) (.bool false) (.slice A8 PP.length c9) (.slice none 0 0) (.slice A21 DD.length c22)
            have tn := nd_put4 w20 (g19) 31 _ _ _ _ (.bool false) (.slice A8 PP.length c9) (.slice none 0 0) (.slice A21 DD.length c22) T_g8.out
            obtain ⟨w23, hw23⟩ : ∃ x, x = ((((w20.setCell ⟨g19, 0, none⟩ (.bool false)).setCell ⟨g19, 1, none⟩ (.slice A8 PP.length c9)).setCell ⟨g19, 2, none⟩ (.slice none 0 0)).setCell ⟨g19, 3, none⟩ (.slice A21 DD.length c22)) := ⟨_, rfl⟩
            rw [← hw23] at hg tn
            rw [← hw23]
            clear hw23
            replace R_p := Aside0.mk (Kd.R_mono (Kd.R_step (Kd.R_types R_p.out T_g8.out (by decide)) (fun k hk hl => hg.block k hl (fun e => hk.2 (Option.some.inj e)))) (fun _ _ => trivial))
            replace R_d := Aside0.mk (Kd.R_mono (Kd.R_step (Kd.R_types R_d.out T_g8.out (by decide)) (fun k hk hl => hg.block k hl (fun e => hk.2 (Option.some.inj e)))) (fun _ _ => trivial))
            replace T_n := Aside0.mk ((hg.block _ (blk_lt T_n.out) (fun e => by have := Option.some.inj e; have := NE_g8_n.out; omega)).trans T_n.out)
            replace T_m := Aside0.mk ((hg.block _ (blk_lt T_m.out) (fun e => by have := Option.some.inj e; have := NE_g8_m.out; omega)).trans T_m.out)
            replace T_r := Aside0.mk ((hg.block _ (blk_lt T_r.out) (fun e => by have := Option.some.inj e; have := NE_g8_r.out; omega)).trans T_r.out)
            replace T_s1 := Aside0.mk ((hg.block _ (blk_lt T_s1.out) (fun e => by have := Option.some.inj e; have := NE_g8_s1.out; omega)).trans T_s1.out)
            replace T_s2 := Aside0.mk ((hg.block _ (blk_lt T_s2.out) (fun e => by have := Option.some.inj e; have := NE_g8_s2.out; omega)).trans T_s2.out)
            replace BB := Aside0.mk (nd_grown_below hg BB.out BB.out.size GBB_g8.out)
            replace SB := Aside0.mk (nd_grown_below hg SB.out SB.out.size GSB_g8.out)
            replace T_g8 := Aside0.mk tn
            clear tn hg
            refine hK.out _ _ ?_ (fun hNew => ?_)
            · try dsimp only
              exact MK.out _ SB.out
            clear hK K hHeld hNew
            have hHeld := MK.out _ SB.out
            refine wpAnyH_done (by kernel_rfl) ?_ _
            clear hHeld MK
            clear SB
            go_wp2_with fail
            go_meet
            exact ⟨_, _, _, _, _, rfl, T_g8, R_p, R_d, GBB_g8, NE_g8_n, NE_g8_m, NE_g8_r, T_n, T_m, T_r, BB⟩
        · go_simp
          obtain ⟨g25, hg25⟩ : ∃ n, n = w7.heap.size := ⟨_, rfl⟩
          obtain ⟨w24, hw24⟩ : ∃ x, x = w7.alloc (.cells #[.bool false, .slice none 0 0, .slice none 0 0, .slice none 0 0] 31) := ⟨_, rfl⟩
          have tn := heap_alloc_new w7 (.cells #[.bool false, .slice none 0 0, .slice none 0 0, .slice none 0 0] 31)
          have hB := below_alloc (Below.refl w7.heap.size w7) (.cells #[.bool false, .slice none 0 0, .slice none 0 0, .slice none 0 0] 31)
          rw [← hw24] at tn hB
          rw [← hg25] at tn
          have GBB_g8 : Aside0 (w.heap.size ≤ g25) := ⟨by rw [hg25]; exact BB.out.size⟩
          have GSB_g8 : Aside0 (w3.heap.size ≤ g25) := ⟨by rw [hg25]; exact SB.out.size⟩
          have NE_g8_n : Aside0 (w.heap.size ≠ g25) := ⟨by have := blk_lt T_n.out; omega⟩
          have NE_g8_m : Aside0 ((w.heap.size + 1) ≠ g25) := ⟨by have := blk_lt T_m.out; omega⟩
          have NE_g8_r : Aside0 ((w.heap.size + 2) ≠ g25) := ⟨by have := blk_lt T_r.out; omega⟩
          have NE_g8_s1 : Aside0 (g6 ≠ g25) := ⟨by have := blk_lt T_s1.out; omega⟩
          replace T_n := Aside0.mk ((hB.block _ (blk_lt T_n.out)).trans T_n.out)
          replace T_m := Aside0.mk ((hB.block _ (blk_lt T_m.out)).trans T_m.out)
          replace T_r := Aside0.mk ((hB.block _ (blk_lt T_r.out)).trans T_r.out)
          replace T_s1 := Aside0.mk ((hB.block _ (blk_lt T_s1.out)).trans T_s1.out)
          replace R_p := Aside0.mk (Kd.R_below R_p.out hB)
          replace BB := Aside0.mk (BB.out.trans (hB.mono BB.out.size))
          replace SB := Aside0.mk (SB.out.trans (hB.mono SB.out.size))
          have T_g8 := Aside0.mk tn
          clear tn hB
          rw [← hw24]
          try rw [← hg25]
          clear hw24 hg25
          refine hK.out _ _ ?_ (fun hNew => ?_)
          · try dsimp only
            exact MK.out _ SB.out
          clear hK K hHeld hNew
          have hHeld := MK.out _ SB.out
          refine wpAnyH_ready (rs := [12]) (by kernel_rfl) (by simp) ?_
          refine (AllReadyH.cons rfl (fun K hK => ?_) AllReadyH.nil)
          go_simp
          obtain ⟨g27, hg27⟩ : ∃ n, n = w24.heap.size := ⟨_, rfl⟩
          obtain ⟨w26, hw26⟩ : ∃ x, x = w24.alloc (.cells #[.slice A3 l3.length c3, .slice B3 m3.length d3] 24) := ⟨_, rfl⟩
          have tn := heap_alloc_new w24 (.cells #[.slice A3 l3.length c3, .slice B3 m3.length d3] 24)
          have hB := below_alloc (Below.refl w24.heap.size w24) (.cells #[.slice A3 l3.length c3, .slice B3 m3.length d3] 24)
          rw [← hw26] at tn hB
          rw [← hg27] at tn
          have GBB_s2 : Aside0 (w.heap.size ≤ g27) := ⟨by rw [hg27]; exact BB.out.size⟩
          have GSB_s2 : Aside0 (w3.heap.size ≤ g27) := ⟨by rw [hg27]; exact SB.out.size⟩
          have NE_s2_n : Aside0 (w.heap.size ≠ g27) := ⟨by have := blk_lt T_n.out; omega⟩
          have NE_s2_m : Aside0 ((w.heap.size + 1) ≠ g27) := ⟨by have := blk_lt T_m.out; omega⟩
          have NE_s2_r : Aside0 ((w.heap.size + 2) ≠ g27) := ⟨by have := blk_lt T_r.out; omega⟩
          have NE_s2_s1 : Aside0 (g6 ≠ g27) := ⟨by have := blk_lt T_s1.out; omega⟩
          have NE_s2_g8 : Aside0 (g25 ≠ g27) := ⟨by have := blk_lt T_g8.out; omega⟩
          replace T_n := Aside0.mk ((hB.block _ (blk_lt T_n.out)).trans T_n.out)
          replace T_m := Aside0.mk ((hB.block _ (blk_lt T_m.out)).trans T_m.out)
          replace T_r := Aside0.mk ((hB.block _ (blk_lt T_r.out)).trans T_r.out)
          replace T_s1 := Aside0.mk ((hB.block _ (blk_lt T_s1.out)).trans T_s1.out)
          replace T_g8 := Aside0.mk ((hB.block _ (blk_lt T_g8.out)).trans T_g8.out)
          replace R_p := Aside0.mk (Kd.R_below R_p.out hB)
          replace BB := Aside0.mk (BB.out.trans (hB.mono BB.out.size))
          replace SB := Aside0.mk (SB.out.trans (hB.mono SB.out.size))
          have T_s2 := Aside0.mk tn
          clear tn hB
          rw [← hw26]
          try rw [← hg27]
          clear hw26 hg27
          refine hK.out _ _ ?_ (fun hNew => ?_)
          · try dsimp only
            exact MK.out _ SB.out
          clear hK K hHeld hNew
          have hHeld := MK.out _ SB.out
          refine wpAnyH_ready (rs := [13]) (by kernel_rfl) (by simp) ?_
          refine (AllReadyH.cons rfl (fun K hK => ?_) AllReadyH.nil)
          have BBo := BB
          have CC := concat_i (some ⟨g27, 0, none⟩) 2 [l3, m3] w26 (rows2 T_s2.out (Kd.C_below HR3.out BB.out) Hl3.out (Kd.C_below HS3.out BB.out) Hm3.out) (Nat.le_refl _) (by have := HLEN.out; simp only [flat2, List.length_append]; omega) (by simp)
          go_simp
          refine (CC).mono ?_
          rintro e w28 ⟨v0, rfl, hR, hB⟩
          replace T_n := Aside0.mk ((hB.block _ (blk_lt T_n.out)).trans T_n.out)
          replace T_m := Aside0.mk ((hB.block _ (blk_lt T_m.out)).trans T_m.out)
          replace T_r := Aside0.mk ((hB.block _ (blk_lt T_r.out)).trans T_r.out)
          replace T_s1 := Aside0.mk ((hB.block _ (blk_lt T_s1.out)).trans T_s1.out)
          replace T_g8 := Aside0.mk ((hB.block _ (blk_lt T_g8.out)).trans T_g8.out)
          replace T_s2 := Aside0.mk ((hB.block _ (blk_lt T_s2.out)).trans T_s2.out)
          replace R_p := Aside0.mk (Kd.R_below R_p.out hB)
          replace BB := Aside0.mk (BB.out.trans (hB.mono BB.out.size))
          replace SB := Aside0.mk (SB.out.trans (hB.mono SB.out.size))
          clear hB
          have hR' := Kd.R_lower hR BBo.out.size
          rw [flat2, DDE.out] at hR'
          obtain ⟨A29, c30, rfl⟩ := Kd.R_slice hR'
          have R_d := Aside0.mk hR'
          clear hR hR' BBo CC
          go_simp
          refine hK.out _ _ ?_ (fun hNew => ?_)
          · try dsimp only
            exact MK.out _ SB.out
          clear hK K hHeld hNew
          have hHeld := MK.out _ SB.out
          refine sp_take 14 hHeld ?_
          refine wpAnyH_ready (rs := [16]) (by kernel_rfl) (by simp) ?_
          refine (AllReadyH.cons rfl (fun K hK => ?_) AllReadyH.nil)
          have c_g80 : w28.cell? ⟨g25, 0, none⟩ = some (.bool false) := blk_cell T_g8.out 0
          have f_g80 : w28.frozen? ⟨g25, 0, none⟩ = false := blk_frozen T_g8.out 0
          have c_g81 : w28.cell? ⟨g25, 1, none⟩ = some (.slice none 0 0) := blk_cell T_g8.out 1
          have f_g81 : w28.frozen? ⟨g25, 1, none⟩ = false := blk_frozen T_g8.out 1
          have c_g82 : w28.cell? ⟨g25, 2, none⟩ = some (.slice none 0 0) := blk_cell T_g8.out 2
          have f_g82 : w28.frozen? ⟨g25, 2, none⟩ = false := blk_frozen T_g8.out 2
          have c_g83 : w28.cell? ⟨g25, 3, none⟩ = some (.slice none 0 0) := blk_cell T_g8.out 3
          have f_g83 : w28.frozen? ⟨g25, 3, none⟩ = false := blk_frozen T_g8.out 3
          go_simp
          clear c_g80 f_g80 c_g81 f_g81 c_g82 f_g82 c_g83 f_g83
          have hg := nd_grown4 w28 (g25) (.bool false) (.slice A8 PP.length c9) (.slice none 0 0) (.slice A29 DD.length c30)
          have tn := nd_put4 w28 (g25) 31 _ _ _ _ (.bool false) (.slice A8 PP.length c9) (.slice none 0 0) (.slice A29 DD.length c30) T_g8.out
          obtain ⟨w31, hw31⟩ : ∃ x, x = ((((w28.setCell ⟨g25, 0, none⟩ (.bool false)).setCell ⟨g25, 1, none⟩ (.slice A8 PP.length c9)).setCell ⟨g25, 2, none⟩ (.slice none 0 0)).setCell ⟨g25, 3, none⟩ (.slice A29 DD.length c30)) := ⟨_, rfl⟩
          rw [← hw31] at hg tn
          rw [← hw31]
          clear hw31
          replace R_p := Aside0.mk (Kd.R_mono (Kd.R_step (Kd.R_types R_p.out T_g8.out (by decide)) (fun k hk hl => hg.block k hl (fun e => hk.2 (Option.some.inj e)))) (fun _ _ => trivial))
          replace R_d := Aside0.mk (Kd.R_mono (Kd.R_step (Kd.R_types R_d.out T_g8.out (by decide)) (fun k hk hl => hg.block k hl (fun e => hk.2 (Option.some.inj e)))) (fun _ _ => trivial))
          replace T_n := Aside0.mk ((hg.block _ (blk_lt T_n.out) (fun e => by have := Option.some.inj e; have := NE_g8_n.out; omega)).trans T_n.out)
          replace T_m := Aside0.mk ((hg.block _ (blk_lt T_m.out) (fun e => by have := Option.some.inj e; have := NE_g8_m.out; omega)).trans T_m.out)
          replace T_r := Aside0.mk ((hg.block _ (blk_lt T_r.out) (fun e => by have := Option.some.inj e; have := NE_g8_r.out; omega)).trans T_r.out)
          replace T_s1 := Aside0.mk ((hg.block _ (blk_lt T_s1.out) (fun e => by have := Option.some.inj e; have := NE_g8_s1.out; omega)).trans T_s1.out)
          replace T_s2 := Aside0.mk ((hg.block _ (blk_lt T_s2.out) (fun e => by have := Option.some.inj e; have := NE_s2_g8.out; omega)).trans T_s2.out)
          replace BB := Aside0.mk (nd_grown_below hg BB.out BB.out.size GBB_g8.out)
          replace SB := Aside0.mk (nd_grown_below hg SB.out SB.out.size GSB_g8.out)
          replace T_g8 := Aside0.mk tn
          clear tn hg
          refine hK.out _ _ ?_ (fun hNew => ?_)
          · try dsimp only
            exact MK.out _ SB.out
          clear hK K hHeld hNew
          have hHeld := MK.out _ SB.out
          refine wpAnyH_done (by kernel_rfl) ?_ _
          clear hHeld MK
          clear SB
          go_wp2_with fail
          go_meet
          exact ⟨_, _, _, _, _, rfl, T_g8, R_p, R_d, GBB_g8, NE_g8_n, NE_g8_m, NE_g8_r, T_n, T_m, T_r, BB⟩
      · go_simp
        obtain ⟨g33, hg33⟩ : ∃ n, n = w5.heap.size := ⟨_, rfl⟩
        obtain ⟨w32, hw32⟩ : ∃ x, x = w5.alloc (.cells #[.slice A3 l3.length c3, .slice B3 m3.length d3] 24) := ⟨_, rfl⟩
        have tn := heap_alloc_new w5 (.cells #[.slice A3 l3.length c3, .slice B3 m3.length d3] 24)
        have hB := below_alloc (Below.refl w5.heap.size w5) (.cells #[.slice A3 l3.length c3, .slice B3 m3.length d3] 24)
        rw [← hw32] at tn hB
        rw [← hg33] at tn
        have GBB_s2 : Aside0 (w.heap.size ≤ g33) := ⟨by rw [hg33]; exact BB.out.size⟩
        have GSB_s2 : Aside0 (w3.heap.size ≤ g33) := ⟨by rw [hg33]; exact SB.out.size⟩
        have NE_s2_n : Aside0 (w.heap.size ≠ g33) := ⟨by have := blk_lt T_n.out; omega⟩
        have NE_s2_m : Aside0 ((w.heap.size + 1) ≠ g33) := ⟨by have := blk_lt T_m.out; omega⟩
        have NE_s2_r : Aside0 ((w.heap.size + 2) ≠ g33) := ⟨by have := blk_lt T_r.out; omega⟩
        have NE_s2_s1 : Aside0 (g6 ≠ g33) := ⟨by have := blk_lt T_s1.out; omega⟩
        replace T_n := Aside0.mk ((hB.block _ (blk_lt T_n.out)).trans T_n.out)
        replace T_m := Aside0.mk ((hB.block _ (blk_lt T_m.out)).trans T_m.out)
        replace T_r := Aside0.mk ((hB.block _ (blk_lt T_r.out)).trans T_r.out)
        replace T_s1 := Aside0.mk ((hB.block _ (blk_lt T_s1.out)).trans T_s1.out)
        replace BB := Aside0.mk (BB.out.trans (hB.mono BB.out.size))
        replace SB := Aside0.mk (SB.out.trans (hB.mono SB.out.size))
        have T_s2 := Aside0.mk tn
        clear tn hB
        rw [← hw32]
        try rw [← hg33]
        clear hw32 hg33
        refine hK.out _ _ ?_ (fun hNew => ?_)
        · try dsimp only
          exact MK.out _ SB.out
        clear hK K hHeld hNew
        have hHeld := MK.out _ SB.out
        refine wpAnyH_ready (rs := [7, 15]) (by kernel_rfl) (by simp) ?_
        refine (AllReadyH.cons rfl (fun K hK => ?_) (AllReadyH.cons rfl (fun K hK => ?_) AllReadyH.nil))
        · have BBo := BB
          have CC := concat_p (some ⟨g6, 0, none⟩) 2 [l1, m1] w32 (rows2 T_s1.out (Kd.C_below HR1.out BB.out) Hl1.out (Kd.C_below HS1.out BB.out) Hm1.out) (Nat.le_refl _) (by have := HLEN.out; simp only [flat2, List.length_append]; omega) (by simp)
          go_simp
          refine (CC).mono ?_
          rintro e w34 ⟨v0, rfl, hR, hB⟩
          replace T_n := Aside0.mk ((hB.block _ (blk_lt T_n.out)).trans T_n.out)
          replace T_m := Aside0.mk ((hB.block _ (blk_lt T_m.out)).trans T_m.out)
          replace T_r := Aside0.mk ((hB.block _ (blk_lt T_r.out)).trans T_r.out)
          replace T_s1 := Aside0.mk ((hB.block _ (blk_lt T_s1.out)).trans T_s1.out)
          replace T_s2 := Aside0.mk ((hB.block _ (blk_lt T_s2.out)).trans T_s2.out)
          replace BB := Aside0.mk (BB.out.trans (hB.mono BB.out.size))
          replace SB := Aside0.mk (SB.out.trans (hB.mono SB.out.size))
          clear hB
          have hR' := Kd.R_lower hR BBo.out.size
          rw [flat2, PPE.out] at hR'
          obtain ⟨A35, c36, rfl⟩ := Kd.R_slice hR'
          have R_p := Aside0.mk hR'
          clear hR hR' BBo CC
          go_simp
          refine hK.out _ _ ?_ (fun hNew => ?_)
          · try dsimp only
            exact MK.out _ SB.out
          clear hK K hHeld hNew
          have hHeld := MK.out _ SB.out
          refine wpAnyH_ready (rs := [13, 15]) (by kernel_rfl) (by simp) ?_
          refine (AllReadyH.cons rfl (fun K hK => ?_) (AllReadyH.cons rfl (fun K hK => ?_) AllReadyH.nil))
          · have BBo := BB
            have CC := concat_i (some ⟨g33, 0, none⟩) 2 [l3, m3] w34 (rows2 T_s2.out (Kd.C_below HR3.out BB.out) Hl3.out (Kd.C_below HS3.out BB.out) Hm3.out) (Nat.le_refl _) (by have := HLEN.out; simp only [flat2, List.length_append]; omega) (by simp)
            go_simp
            refine (CC).mono ?_
            rintro e w37 ⟨v0, rfl, hR, hB⟩
            replace T_n := Aside0.mk ((hB.block _ (blk_lt T_n.out)).trans T_n.out)
            replace T_m := Aside0.mk ((hB.block _ (blk_lt T_m.out)).trans T_m.out)
            replace T_r := Aside0.mk ((hB.block _ (blk_lt T_r.out)).trans T_r.out)
            replace T_s1 := Aside0.mk ((hB.block _ (blk_lt T_s1.out)).trans T_s1.out)
            replace T_s2 := Aside0.mk ((hB.block _ (blk_lt T_s2.out)).trans T_s2.out)
            replace R_p := Aside0.mk (Kd.R_below R_p.out hB)
            replace BB := Aside0.mk (BB.out.trans (hB.mono BB.out.size))
            replace SB := Aside0.mk (SB.out.trans (hB.mono SB.out.size))
            clear hB
            have hR' := Kd.R_lower hR BBo.out.size
            rw [flat2, DDE.out] at hR'
            obtain ⟨A38, c39, rfl⟩ := Kd.R_slice hR'
            have R_d := Aside0.mk hR'
            clear hR hR' BBo CC
            go_simp
            refine hK.out _ _ ?_ (fun hNew => ?_)
            · try dsimp only
              exact MK.out _ SB.out
            clear hK K hHeld hNew
            have hHeld := MK.out _ SB.out
            refine sp_take 14 hHeld ?_
            refine wpAnyH_ready (rs := [15]) (by kernel_rfl) (by simp) ?_
            refine (AllReadyH.cons rfl (fun K hK => ?_) AllReadyH.nil)
            go_simp
            obtain ⟨g41, hg41⟩ : ∃ n, n = w37.heap.size := ⟨_, rfl⟩
            obtain ⟨w40, hw40⟩ : ∃ x, x = w37.alloc (.cells #[.bool false, .slice none 0 0, .slice none 0 0, .slice none 0 0] 31) := ⟨_, rfl⟩
            have tn := heap_alloc_new w37 (.cells #[.bool false, .slice none 0 0, .slice none 0 0, .slice none 0 0] 31)
            have hB := below_alloc (Below.refl w37.heap.size w37) (.cells #[.bool false, .slice none 0 0, .slice none 0 0, .slice none 0 0] 31)
            rw [← hw40] at tn hB
            rw [← hg41] at tn
            have GBB_g8 : Aside0 (w.heap.size ≤ g41) := ⟨by rw [hg41]; exact BB.out.size⟩
            have GSB_g8 : Aside0 (w3.heap.size ≤ g41) := ⟨by rw [hg41]; exact SB.out.size⟩
            have NE_g8_n : Aside0 (w.heap.size ≠ g41) := ⟨by have := blk_lt T_n.out; omega⟩
            have NE_g8_m : Aside0 ((w.heap.size + 1) ≠ g41) := ⟨by have := blk_lt T_m.out; omega⟩
            have NE_g8_r : Aside0 ((w.heap.size + 2) ≠ g41) := ⟨by have := blk_lt T_r.out; omega⟩
            have NE_g8_s1 : Aside0 (g6 ≠ g41) := ⟨by have := blk_lt T_s1.out; omega⟩
            have NE_g8_s2 : Aside0 (g33 ≠ g41) := ⟨by have := blk_lt T_s2.out; omega⟩
            replace T_n := Aside0.mk ((hB.block _ (blk_lt T_n.out)).trans T_n.out)
            replace T_m := Aside0.mk ((hB.block _ (blk_lt T_m.out)).trans T_m.out)
            replace T_r := Aside0.mk ((hB.block _ (blk_lt T_r.out)).trans T_r.out)
            replace T_s1 := Aside0.mk ((hB.block _ (blk_lt T_s1.out)).trans T_s1.out)
            replace T_s2 := Aside0.mk ((hB.block _ (blk_lt T_s2.out)).trans T_s2.out)
            replace R_p := Aside0.mk (Kd.R_below R_p.out hB)
            replace R_d := Aside0.mk (Kd.R_below R_d.out hB)
            replace BB := Aside0.mk (BB.out.trans (hB.mono BB.out.size))
            replace SB := Aside0.mk (SB.out.trans (hB.mono SB.out.size))
            have T_g8 := Aside0.mk tn
            clear tn hB
            rw [← hw40]
            try rw [← hg41]
            clear hw40 hg41
            refine hK.out _ _ ?_ (fun hNew => ?_)
            · try dsimp only
              exact MK.out _ SB.out
            clear hK K hHeld hNew
            have hHeld := MK.out _ SB.out
            refine wpAnyH_ready (rs := [16]) (by kernel_rfl) (by simp) ?_
            refine (AllReadyH.cons rfl (fun K hK => ?_) AllReadyH.nil)
            have c_g80 : w40.cell? ⟨g41, 0, none⟩ = some (.bool false) := blk_cell T_g8.out 0
            have f_g80 : w40.frozen? ⟨g41, 0, none⟩ = false := blk_frozen T_g8.out 0
            have c_g81 : w40.cell? ⟨g41, 1, none⟩ = some (.slice none 0 0) := blk_cell T_g8.out 1
            have f_g81 : w40.frozen? ⟨g41, 1, none⟩ = false := blk_frozen T_g8.out 1
            have c_g82 : w40.cell? ⟨g41, 2, none⟩ = some (.slice none 0 0) := blk_cell T_g8.out 2
            have f_g82 : w40.frozen? ⟨g41, 2, none⟩ = false := blk_frozen T_g8.out 2
            have c_g83 : w40.cell? ⟨g41, 3, none⟩ = some (.slice none 0 0) := blk_cell T_g8.out 3
            have f_g83 : w40.frozen? ⟨g41, 3, none⟩ = false := blk_frozen T_g8.out 3
            go_simp
            clear c_g80 f_g80 c_g81 f_g81 c_g82 f_g82 c_g83 f_g83
            have hg := nd_grown4 w40 (g41) (.bool false) (.slice A35 PP.length c36) (.slice none 0 0) (.slice A38 DD.length c39)
            have tn := nd_put4 w40 (g41) 31 _ _ _ _ (.bool false) (.slice A35 PP.length c36) (.slice none 0 0) (.slice A38 DD.length c39) T_g8.out
            obtain ⟨w42, hw42⟩ : ∃ x, x = ((((w40.setCell ⟨g41, 0, none⟩ (.bool false)).setCell ⟨g41, 1, none⟩ (.slice A35 PP.length c36)).setCell ⟨g41, 2, none⟩ (.slice none 0 0)).setCell ⟨g41, 3, none⟩ (.slice A38 DD.length c39)) := ⟨_, rfl⟩
            rw [← hw42] at hg tn
            rw [← hw42]
            clear hw42
            replace R_p := Aside0.mk (Kd.R_mono (Kd.R_step (Kd.R_types R_p.out T_g8.out (by decide)) (fun k hk hl => hg.block k hl (fun e => hk.2 (Option.some.inj e)))) (fun _ _ => trivial))
            replace R_d := Aside0.mk (Kd.R_mono (Kd.R_step (Kd.R_types R_d.out T_g8.out (by decide)) (fun k hk hl => hg.block k hl (fun e => hk.2 (Option.some.inj e)))) (fun _ _ => trivial))
            replace T_n := Aside0.mk ((hg.block _ (blk_lt T_n.out) (fun e => by have := Option.some.inj e; have := NE_g8_n.out; omega)).trans T_n.out)
            replace T_m := Aside0.mk ((hg.block _ (blk_lt T_m.out) (fun e => by have := Option.some.inj e; have := NE_g8_m.out; omega)).trans T_m.out)
            replace T_r := Aside0.mk ((hg.block _ (blk_lt T_r.out) (fun e => by have := Option.some.inj e; have := NE_g8_r.out; omega)).trans T_r.out)
            replace T_s1 := Aside0.mk ((hg.block _ (blk_lt T_s1.out) (fun e => by have := Option.some.inj e; have := NE_g8_s1.out; omega)).trans T_s1.out)
            replace T_s2 := Aside0.mk ((hg.block _ (blk_lt T_s2.out) (fun e => by have := Option.some.inj e; have := NE_g8_s2.out; omega)).trans T_s2.out)
            replace BB := Aside0.mk (nd_grown_below hg BB.out BB.out.size GBB_g8.out)
            replace SB := Aside0.mk (nd_grown_below hg SB.out SB.out.size GSB_g8.out)
            replace T_g8 := Aside0.mk tn
            clear tn hg
            refine hK.out _ _ ?_ (fun hNew => ?_)
            · try dsimp only
              exact MK.out _ SB.out
            clear hK K hHeld hNew
            have hHeld := MK.out _ SB.out
            refine wpAnyH_done (by kernel_rfl) ?_ _
            clear hHeld MK
            clear SB
            go_wp2_with fail
            go_meet
            exact ⟨_, _, _, _, _, rfl, T_g8, R_p, R_d, GBB_g8, NE_g8_n, NE_g8_m, NE_g8_r, T_n, T_m, T_r, BB⟩
          · go_simp
            obtain ⟨g44, hg44⟩ : ∃ n, n = w34.heap.size := ⟨_, rfl⟩
            obtain ⟨w43, hw43⟩ : ∃ x, x = w34.alloc (.cells #[.bool false, .slice none 0 0, .slice none 0 0, .slice none 0 0] 31) := ⟨_, rfl⟩
            have tn := heap_alloc_new w34 (.cells #[.bool false, .slice none 0 0, .slice none 0 0, .slice none 0 0] 31)
            have hB := below_alloc (Below.refl w34.heap.size w34) (.cells #[.bool false, .slice none 0 0, .slice none 0 0, .slice none 0 0] 31)
            rw [← hw43] at tn hB
            rw [← hg44] at tn
            have GBB_g8 : Aside0 (w.heap.size ≤ g44) := ⟨by rw [hg44]; exact BB.out.size⟩
            have GSB_g8 : Aside0 (w3.heap.size ≤ g44) := ⟨by rw [hg44]; exact SB.out.size⟩
            have NE_g8_n : Aside0 (w.heap.size ≠ g44) := ⟨by have := blk_lt T_n.out; omega⟩
            have NE_g8_m : Aside0 ((w.heap.size + 1) ≠ g44) := ⟨by have := blk_lt T_m.out; omega⟩
            have NE_g8_r : Aside0 ((w.heap.size + 2) ≠ g44) := ⟨by have := blk_lt T_r.out; omega⟩
            have NE_g8_s1 : Aside0 (g6 ≠ g44) := ⟨by have := blk_lt T_s1.out; omega⟩
            have NE_g8_s2 : Aside0 (g33 ≠ g44) := ⟨by have := blk_lt T_s2.out; omega⟩
            replace T_n := Aside0.mk ((hB.block _ (blk_lt T_n.out)).trans T_n.out)
            replace T_m := Aside0.mk ((hB.block _ (blk_lt T_m.out)).trans T_m.out)
            replace T_r := Aside0.mk ((hB.block _ (blk_lt T_r.out)).trans T_r.out)
            replace T_s1 := Aside0.mk ((hB.block _ (blk_lt T_s1.out)).trans T_s1.out)
            replace T_s2 := Aside0.mk ((hB.block _ (blk_lt T_s2.out)).trans T_s2.out)
            replace R_p := Aside0.mk (Kd.R_below R_p.out hB)
            replace BB := Aside0.mk (BB.out.trans (hB.mono BB.out.size))
            replace SB := Aside0.mk (SB.out.trans (hB.mono SB.out.size))
            have T_g8 := Aside0.mk tn
            clear tn hB
            rw [← hw43]
            try rw [← hg44]
            clear hw43 hg44
            refine hK.out _ _ ?_ (fun hNew => ?_)
            · try dsimp only
              exact MK.out _ SB.out
            clear hK K hHeld hNew
            have hHeld := MK.out _ SB.out
            refine wpAnyH_ready (rs := [13]) (by kernel_rfl) (by simp) ?_
            refine (AllReadyH.cons rfl (fun K hK => ?_) AllReadyH.nil)
            have BBo := BB
            have CC := concat_i (some ⟨g33, 0, none⟩) 2 [l3, m3] w43 (rows2 T_s2.out (Kd.C_below HR3.out BB.out) Hl3.out (Kd.C_below HS3.out BB.out) Hm3.out) (Nat.le_refl _) (by have := HLEN.out; simp only [flat2, List.length_append]; omega) (by simp)
            go_simp
            refine (CC).mono ?_
            rintro e w45 ⟨v0, rfl, hR, hB⟩
            replace T_n := Aside0.mk ((hB.block _ (blk_lt T_n.out)).trans T_n.out)
            replace T_m := Aside0.mk ((hB.block _ (blk_lt T_m.out)).trans T_m.out)
            replace T_r := Aside0.mk ((hB.block _ (blk_lt T_r.out)).trans T_r.out)
            replace T_s1 := Aside0.mk ((hB.block _ (blk_lt T_s1.out)).trans T_s1.out)
            replace T_s2 := Aside0.mk ((hB.block _ (blk_lt T_s2.out)).trans T_s2.out)
            replace T_g8 := Aside0.mk ((hB.block _ (blk_lt T_g8.out)).trans T_g8.out)
            replace R_p := Aside0.mk (Kd.R_below R_p.out hB)
            replace BB := Aside0.mk (BB.out.trans (hB.mono BB.out.size))
            replace SB := Aside0.mk (SB.out.trans (hB.mono SB.out.size))
            clear hB
            have hR' := Kd.R_lower hR BBo.out.size
            rw [flat2, DDE.out] at hR'
            obtain ⟨A46, c47, rfl⟩ := Kd.R_slice hR'
            have R_d := Aside0.mk hR'
            clear hR hR' BBo CC
            go_simp
            refine hK.out _ _ ?_ (fun hNew => ?_)
            · try dsimp only
              exact MK.out _ SB.out
            clear hK K hHeld hNew
            have hHeld := MK.out _ SB.out
            refine sp_take 14 hHeld ?_
            refine wpAnyH_ready (rs := [16]) (by kernel_rfl) (by simp) ?_
            refine (AllReadyH.cons rfl (fun K hK => ?_) AllReadyH.nil)
            have c_g80 : w45.cell? ⟨g44, 0, none⟩ = some (.bool false) := blk_cell T_g8.out 0
            have f_g80 : w45.frozen? ⟨g44, 0, none⟩ = false := blk_frozen T_g8.out 0
            have c_g81 : w45.cell? ⟨g44, 1, none⟩ = some (.slice none 0 0) := blk_cell T_g8.out 1
            have f_g81 : w45.frozen? ⟨g44, 1, none⟩ = false := blk_frozen T_g8.out 1
            have c_g82 : w45.cell? ⟨g44, 2, none⟩ = some (.slice none 0 0) := blk_cell T_g8.out 2
            have f_g82 : w45.frozen? ⟨g44, 2, none⟩ = false := blk_frozen T_g8.out 2
            have c_g83 : w45.cell? ⟨g44, 3, none⟩ = some (.slice none 0 0) := blk_cell T_g8.out 3
            have f_g83 : w45.frozen? ⟨g44, 3, none⟩ = false := blk_frozen T_g8.out 3
            go_simp
            clear c_g80 f_g80 c_g81 f_g81 c_g82 f_g82 c_g83 f_g83
            have hg := nd_grown4 w45 (g44) (.bool false) (.slice A35 PP.length c36) (.slice none 0 0) (.slice A46 DD.length c47)
            have tn := nd_put4 w45 (g44) 31 _ _ _ _ (.bool false) (.slice A35 PP.length c36) (.slice none 0 0) (.slice A46 DD.length c47) T_g8.out
            obtain ⟨w48, hw48⟩ : ∃ x, x = ((((w45.setCell ⟨g44, 0, none⟩ (.bool false)).setCell ⟨g44, 1, none⟩ (.slice A35 PP.length c36)).setCell ⟨g44, 2, none⟩ (.slice none 0 0)).setCell ⟨g44, 3, none⟩ (.slice A46 DD.length c47)) := ⟨_, rfl⟩
            rw [← hw48] at hg tn
            rw [← hw48]
            clear hw48
            replace R_p := Aside0.mk (Kd.R_mono (Kd.R_step (Kd.R_types R_p.out T_g8.out (by decide)) (fun k hk hl => hg.block k hl (fun e => hk.2 (Option.some.inj e)))) (fun _ _ => trivial))
            replace R_d := Aside0.mk (Kd.R_mono (Kd.R_step (Kd.R_types R_d.out T_g8.out (by decide)) (fun k hk hl => hg.block k hl (fun e => hk.2 (Option.some.inj e)))) (fun _ _ => trivial))
            replace T_n := Aside0.mk ((hg.block _ (blk_lt T_n.out) (fun e => by have := Option.some.inj e; have := NE_g8_n.out; omega)).trans T_n.out)
            replace T_m := Aside0.mk ((hg.block _ (blk_lt T_m.out) (fun e => by have := Option.some.inj e; have := NE_g8_m.out; omega)).trans T_m.out)
            replace T_r := Aside0.mk ((hg.block _ (blk_lt T_r.out) (fun e => by have := Option.some.inj e; have := NE_g8_r.out; omega)).trans T_r.out)
            replace T_s1 := Aside0.mk ((hg.block _ (blk_lt T_s1.out) (fun e => by have := Option.some.inj e; have := NE_g8_s1.out; omega)).trans T_s1.out)
            replace T_s2 := Aside0.mk ((hg.block _ (blk_lt T_s2.out) (fun e => by have := Option.some.inj e; have := NE_g8_s2.out; omega)).trans T_s2.out)
            replace BB := Aside0.mk (nd_grown_below hg BB.out BB.out.size GBB_g8.out)
            replace SB := Aside0.mk (nd_grown_below hg SB.out SB.out.size GSB_g8.out)
            replace T_g8 := Aside0.mk tn
            clear tn hg
            refine hK.out _ _ ?_ (fun hNew => ?_)
            · try dsimp only
              exact MK.out _ SB.out
            clear hK K hHeld hNew
            have hHeld := MK.out _ SB.out
            refine wpAnyH_done (by kernel_rfl) ?_ _
            clear hHeld MK
            clear SB
            go_wp2_with fail
            go_meet
            exact ⟨_, _, _, _, _, rfl, T_g8, R_p, R_d, GBB_g8, NE_g8_n, NE_g8_m, NE_g8_r, T_n, T_m, T_r, BB⟩
        · go_simp
          obtain ⟨g50, hg50⟩ : ∃ n, n = w32.heap.size := ⟨_, rfl⟩
          obtain ⟨w49, hw49⟩ : ∃ x, x = w32.alloc (.cells #[.bool false, .slice none 0 0, .slice none 0 0, .slice none 0 0] 31) := ⟨_, rfl⟩
          have tn := heap_alloc_new w32 (.cells #[.bool false, .slice none 0 0, .slice none 0 0, .slice none 0 0] 31)
          have hB := below_alloc (Below.refl w32.heap.size w32) (.cells #[.bool false, .slice none 0 0, .slice none 0 0, .slice none 0 0] 31)
          rw [← hw49] at tn hB
          rw [← hg50] at tn
          have GBB_g8 : Aside0 (w.heap.size ≤ g50) := ⟨by rw [hg50]; exact BB.out.size⟩
          have GSB_g8 : Aside0 (w3.heap.size ≤ g50) := ⟨by rw [hg50]; exact SB.out.size⟩
          have NE_g8_n : Aside0 (w.heap.size ≠ g50) := ⟨by have := blk_lt T_n.out; omega⟩
          have NE_g8_m : Aside0 ((w.heap.size + 1) ≠ g50) := ⟨by have := blk_lt T_m.out; omega⟩
          have NE_g8_r : Aside0 ((w.heap.size + 2) ≠ g50) := ⟨by have := blk_lt T_r.out; omega⟩
          have NE_g8_s1 : Aside0 (g6 ≠ g50) := ⟨by have := blk_lt T_s1.out; omega⟩
          have NE_g8_s2 : Aside0 (g33 ≠ g50) := ⟨by have := blk_lt T_s2.out; omega⟩
          replace T_n := Aside0.mk ((hB.block _ (blk_lt T_n.out)).trans T_n.out)
          replace T_m := Aside0.mk ((hB.block _ (blk_lt T_m.out)).trans T_m.out)
          replace T_r := Aside0.mk ((hB.block _ (blk_lt T_r.out)).trans T_r.out)
          replace T_s1 := Aside0.mk ((hB.block _ (blk_lt T_s1.out)).trans T_s1.out)
          replace T_s2 := Aside0.mk ((hB.block _ (blk_lt T_s2.out)).trans T_s2.out)
          replace BB := Aside0.mk (BB.out.trans (hB.mono BB.out.size))
          replace SB := Aside0.mk (SB.out.trans (hB.mono SB.out.size))
          have T_g8 := Aside0.mk tn
          clear tn hB
          rw [← hw49]
          try rw [← hg50]
          clear hw49 hg50
          refine hK.out _ _ ?_ (fun hNew => ?_)
          · try dsimp only
            exact MK.out _ SB.out
          clear hK K hHeld hNew
          have hHeld := MK.out _ SB.out
          refine wpAnyH_ready (rs := [7]) (by kernel_rfl) (by simp) ?_
          refine (AllReadyH.cons rfl (fun K hK => ?_) AllReadyH.nil)
          have BBo := BB
          have CC := concat_p (some ⟨g6, 0, none⟩) 2 [l1, m1] w49 (rows2 T_s1.out (Kd.C_below HR1.out BB.out) Hl1.out (Kd.C_below HS1.out BB.out) Hm1.out) (Nat.le_refl _) (by have := HLEN.out; simp only [flat2, List.length_append]; omega) (by simp)
          go_simp
          refine (CC).mono ?_
          rintro e w51 ⟨v0, rfl, hR, hB⟩
          replace T_n := Aside0.mk ((hB.block _ (blk_lt T_n.out)).trans T_n.out)
          replace T_m := Aside0.mk ((hB.block _ (blk_lt T_m.out)).trans T_m.out)
          replace T_r := Aside0.mk ((hB.block _ (blk_lt T_r.out)).trans T_r.out)
          replace T_s1 := Aside0.mk ((hB.block _ (blk_lt T_s1.out)).trans T_s1.out)
          replace T_s2 := Aside0.mk ((hB.block _ (blk_lt T_s2.out)).trans T_s2.out)
          replace T_g8 := Aside0.mk ((hB.block _ (blk_lt T_g8.out)).trans T_g8.out)
          replace BB := Aside0.mk (BB.out.trans (hB.mono BB.out.size))
          replace SB := Aside0.mk (SB.out.trans (hB.mono SB.out.size))
          clear hB
          have hR' := Kd.R_lower hR BBo.out.size
          rw [flat2, PPE.out] at hR'
          obtain ⟨A52, c53, rfl⟩ := Kd.R_slice hR'
          have R_p := Aside0.mk hR'
          clear hR hR' BBo CC
          go_simp
          refine hK.out _ _ ?_ (fun hNew => ?_)
          · try dsimp only
            exact MK.out _ SB.out
          clear hK K hHeld hNew
          have hHeld := MK.out _ SB.out
          refine wpAnyH_ready (rs := [13]) (by kernel_rfl) (by simp) ?_
          refine (AllReadyH.cons rfl (fun K hK => ?_) AllReadyH.nil)
          have BBo := BB
          have CC := concat_i (some ⟨g33, 0, none⟩) 2 [l3, m3] w51 (rows2 T_s2.out (Kd.C_below HR3.out BB.out) Hl3.out (Kd.C_below HS3.out BB.out) Hm3.out) (Nat.le_refl _) (by have := HLEN.out; simp only [flat2, List.length_append]; omega) (by simp)
          go_simp
          refine (CC).mono ?_
          rintro e w54 ⟨v0, rfl, hR, hB⟩
          replace T_n := Aside0.mk ((hB.block _ (blk_lt T_n.out)).trans T_n.out)
          replace T_m := Aside0.mk ((hB.block _ (blk_lt T_m.out)).trans T_m.out)
          replace T_r := Aside0.mk ((hB.block _ (blk_lt T_r.out)).trans T_r.out)
          replace T_s1 := Aside0.mk ((hB.block _ (blk_lt T_s1.out)).trans T_s1.out)
          replace T_s2 := Aside0.mk ((hB.block _ (blk_lt T_s2.out)).trans T_s2.out)
          replace T_g8 := Aside0.mk ((hB.block _ (blk_lt T_g8.out)).trans T_g8.out)
          replace R_p := Aside0.mk (Kd.R_below R_p.out hB)
          replace BB := Aside0.mk (BB.out.trans (hB.mono BB.out.size))
          replace SB := Aside0.mk (SB.out.trans (hB.mono SB.out.size))
          clear hB
          have hR' := Kd.R_lower hR BBo.out.size
          rw [flat2, DDE.out] at hR'
          obtain ⟨A55, c56, rfl⟩ := Kd.R_slice hR'
          have R_d := Aside0.mk hR'
          clear hR hR' BBo CC
          go_simp
          refine hK.out _ _ ?_ (fun hNew => ?_)
          · try dsimp only
            exact MK.out _ SB.out
          clear hK K hHeld hNew
          have hHeld := MK.out _ SB.out
          refine sp_take 14 hHeld ?_
          refine wpAnyH_ready (rs := [16]) (by kernel_rfl) (by simp) ?_
          refine (AllReadyH.cons rfl (fun K hK => ?_) AllReadyH.nil)
          have c_g80 : w54.cell? ⟨g50, 0, none⟩ = some (.bool false) := blk_cell T_g8.out 0
          have f_g80 : w54.frozen? ⟨g50, 0, none⟩ = false := blk_frozen T_g8.out 0
          have c_g81 : w54.cell? ⟨g50, 1, none⟩ = some (.slice none 0 0) := blk_cell T_g8.out 1
          have f_g81 : w54.frozen? ⟨g50, 1, none⟩ = false := blk_frozen T_g8.out 1
          have c_g82 : w54.cell? ⟨g50, 2, none⟩ = some (.slice none 0 0) := blk_cell T_g8.out 2
          have f_g82 : w54.frozen? ⟨g50, 2, none⟩ = false := blk_frozen T_g8.out 2
          have c_g83 : w54.cell? ⟨g50, 3, none⟩ = some (.slice none 0 0) := blk_cell T_g8.out 3
          have f_g83 : w54.frozen? ⟨g50, 3, none⟩ = false := blk_frozen T_g8.out 3
          go_simp
          clear c_g80 f_g80 c_g81 f_g81 c_g82 f_g82 c_g83 f_g83
          have hg := nd_grown4 w54 (g50) (.bool false) (.slice A52 PP.length c53) (.slice none 0 0) (.slice A55 DD.length c56)
          have tn := nd_put4 w54 (g50) 31 _ _ _ _ (.bool false) (.slice A52 PP.length c53) (.slice none 0 0) (.slice A55 DD.length c56) T_g8.out
          obtain ⟨w57, hw57⟩ : ∃ x, x = ((((w54.setCell ⟨g50, 0, none⟩ (.bool false)).setCell ⟨g50, 1, none⟩ (.slice A52 PP.length c53)).setCell ⟨g50, 2, none⟩ (.slice none 0 0)).setCell ⟨g50, 3, none⟩ (.slice A55 DD.length c56)) := ⟨_, rfl⟩
          rw [← hw57] at hg tn
          rw [← hw57]
          clear hw57
          replace R_p := Aside0.mk (Kd.R_mono (Kd.R_step (Kd.R_types R_p.out T_g8.out (by decide)) (fun k hk hl => hg.block k hl (fun e => hk.2 (Option.some.inj e)))) (fun _ _ => trivial))
          replace R_d := Aside0.mk (Kd.R_mono (Kd.R_step (Kd.R_types R_d.out T_g8.out (by decide)) (fun k hk hl => hg.block k hl (fun e => hk.2 (Option.some.inj e)))) (fun _ _ => trivial))
          replace T_n := Aside0.mk ((hg.block _ (blk_lt T_n.out) (fun e => by have := Option.some.inj e; have := NE_g8_n.out; omega)).trans T_n.out)
          replace T_m := Aside0.mk ((hg.block _ (blk_lt T_m.out) (fun e => by have := Option.some.inj e; have := NE_g8_m.out; omega)).trans T_m.out)
          replace T_r := Aside0.mk ((hg.block _ (blk_lt T_r.out) (fun e => by have := Option.some.inj e; have := NE_g8_r.out; omega)).trans T_r.out)
          replace T_s1 := Aside0.mk ((hg.block _ (blk_lt T_s1.out) (fun e => by have := Option.some.inj e; have := NE_g8_s1.out; omega)).trans T_s1.out)
          replace T_s2 := Aside0.mk ((hg.block _ (blk_lt T_s2.out) (fun e => by have := Option.some.inj e; have := NE_g8_s2.out; omega)).trans T_s2.out)
          replace BB := Aside0.mk (nd_grown_below hg BB.out BB.out.size GBB_g8.out)
          replace SB := Aside0.mk (nd_grown_below hg SB.out SB.out.size GSB_g8.out)
          replace T_g8 := Aside0.mk tn
          clear tn hg
          refine hK.out _ _ ?_ (fun hNew => ?_)
          · try dsimp only
            exact MK.out _ SB.out
          clear hK K hHeld hNew
          have hHeld := MK.out _ SB.out
          refine wpAnyH_done (by kernel_rfl) ?_ _
          clear hHeld MK
          clear SB
          go_wp2_with fail
          go_meet
          exact ⟨_, _, _, _, _, rfl, T_g8, R_p, R_d, GBB_g8, NE_g8_n, NE_g8_m, NE_g8_r, T_n, T_m, T_r, BB⟩
      · go_simp
        obtain ⟨g59, hg59⟩ : ∃ n, n = w5.heap.size := ⟨_, rfl⟩
        obtain ⟨w58, hw58⟩ : ∃ x, x = w5.alloc (.cells #[.bool false, .slice none 0 0, .slice none 0 0, .slice none 0 0] 31) := ⟨_, rfl⟩
        have tn := heap_alloc_new w5 (.cells #[.bool false, .slice none 0 0, .slice none 0 0, .slice none 0 0] 31)
        have hB := below_alloc (Below.refl w5.heap.size w5) (.cells #[.bool false, .slice none 0 0, .slice none 0 0, .slice none 0 0] 31)
        rw [← hw58] at tn hB
        rw [← hg59] at tn
        have GBB_g8 : Aside0 (w.heap.size ≤ g59) := ⟨by rw [hg59]; exact BB.out.size⟩
        have GSB_g8 : Aside0 (w3.heap.size ≤ g59) := ⟨by rw [hg59]; exact SB.out.size⟩
        have NE_g8_n : Aside0 (w.heap.size ≠ g59) := ⟨by have := blk_lt T_n.out; omega⟩
        have NE_g8_m : Aside0 ((w.heap.size + 1) ≠ g59) := ⟨by have := blk_lt T_m.out; omega⟩
        have NE_g8_r : Aside0 ((w.heap.size + 2) ≠ g59) := ⟨by have := blk_lt T_r.out; omega⟩
        have NE_g8_s1 : Aside0 (g6 ≠ g59) := ⟨by have := blk_lt T_s1.out; omega⟩
        replace T_n := Aside0.mk ((hB.block _ (blk_lt T_n.out)).trans T_n.out)
        replace T_m := Aside0.mk ((hB.block _ (blk_lt T_m.out)).trans T_m.out)
        replace T_r := Aside0.mk ((hB.block _ (blk_lt T_r.out)).trans T_r.out)
        replace T_s1 := Aside0.mk ((hB.block _ (blk_lt T_s1.out)).trans T_s1.out)
        replace BB := Aside0.mk (BB.out.trans (hB.mono BB.out.size))
        replace SB := Aside0.mk (SB.out.trans (hB.mono SB.out.size))
        have T_g8 := Aside0.mk tn
        clear tn hB
        rw [← hw58]
        try rw [← hg59]
        clear hw58 hg59
        refine hK.out _ _ ?_ (fun hNew => ?_)
        · try dsimp only
          exact MK.out _ SB.out
        clear hK K hHeld hNew
        have hHeld := MK.out _ SB.out
        refine wpAnyH_ready (rs := [7, 12]) (by kernel_rfl) (by simp) ?_
        refine (AllReadyH.cons rfl (fun K hK => ?_) (AllReadyH.cons rfl (fun K hK => ?_) AllReadyH.nil))
        · have BBo := BB
          have CC := concat_p (some ⟨g6, 0, none⟩) 2 [l1, m1] w58 (rows2 T_s1.out (Kd.C_below HR1.out BB.out) Hl1.out (Kd.C_below HS1.out BB.out) Hm1.out) (Nat.le_refl _) (by have := HLEN.out; simp only [flat2, List.length_append]; omega) (by simp)
          go_simp
          refine (CC).mono ?_
          rintro e w60 ⟨v0, rfl, hR, hB⟩
          replace T_n := Aside0.mk ((hB.block _ (blk_lt T_n.out)).trans T_n.out)
          replace T_m := Aside0.mk ((hB.block _ (blk_lt T_m.out)).trans T_m.out)
          replace T_r := Aside0.mk ((hB.block _ (blk_lt T_r.out)).trans T_r.out)
          replace T_s1 := Aside0.mk ((hB.block _ (blk_lt T_s1.out)).trans T_s1.out)
          replace T_g8 := Aside0.mk ((hB.block _ (blk_lt T_g8.out)).trans T_g8.out)
          replace BB := Aside0.mk (BB.out.trans (hB.mono BB.out.size))
          replace SB := Aside0.mk (SB.out.trans (hB.mono SB.out.size))
          clear hB
          have hR' := Kd.R_lower hR BBo.out.size
          rw [flat2, PPE.out] at hR'
          obtain ⟨A61, c62, rfl⟩ := Kd.R_slice hR'
          have R_p := Aside0.mk hR'
          clear hR hR' BBo CC
          go_simp
          refine hK.out _ _ ?_ (fun hNew => ?_)
          · try dsimp only
            exact MK.out _ SB.out
          clear hK K hHeld hNew
          have hHeld := MK.out _ SB.out
          refine wpAnyH_ready (rs := [12]) (by kernel_rfl) (by simp) ?_
          refine (AllReadyH.cons rfl (fun K hK => ?_) AllReadyH.nil)
          go_simp
          obtain ⟨g64, hg64⟩ : ∃ n, n = w60.heap.size := ⟨_, rfl⟩
          obtain ⟨w63, hw63⟩ : ∃ x, x = w60.alloc (.cells #[.slice A3 l3.length c3, .slice B3 m3.length d3] 24) := ⟨_, rfl⟩
          have tn := heap_alloc_new w60 (.cells #[.slice A3 l3.length c3, .slice B3 m3.length d3] 24)
          have hB := below_alloc (Below.refl w60.heap.size w60) (.cells #[.slice A3 l3.length c3, .slice B3 m3.length d3] 24)
          rw [← hw63] at tn hB
          rw [← hg64] at tn
          have GBB_s2 : Aside0 (w.heap.size ≤ g64) := ⟨by rw [hg64]; exact BB.out.size⟩
          have GSB_s2 : Aside0 (w3.heap.size ≤ g64) := ⟨by rw [hg64]; exact SB.out.size⟩
          have NE_s2_n : Aside0 (w.heap.size ≠ g64) := ⟨by have := blk_lt T_n.out; omega⟩
          have NE_s2_m : Aside0 ((w.heap.size + 1) ≠ g64) := ⟨by have := blk_lt T_m.out; omega⟩
          have NE_s2_r : Aside0 ((w.heap.size + 2) ≠ g64) := ⟨by have := blk_lt T_r.out; omega⟩
          have NE_s2_s1 : Aside0 (g6 ≠ g64) := ⟨by have := blk_lt T_s1.out; omega⟩
          have NE_s2_g8 : Aside0 (g59 ≠ g64) := ⟨by have := blk_lt T_g8.out; omega⟩
          replace T_n := Aside0.mk ((hB.block _ (blk_lt T_n.out)).trans T_n.out)
          replace T_m := Aside0.mk ((hB.block _ (blk_lt T_m.out)).trans T_m.out)
          replace T_r := Aside0.mk ((hB.block _ (blk_lt T_r.out)).trans T_r.out)
          replace T_s1 := Aside0.mk ((hB.block _ (blk_lt T_s1.out)).trans T_s1.out)
          replace T_g8 := Aside0.mk ((hB.block _ (blk_lt T_g8.out)).trans T_g8.out)
          replace R_p := Aside0.mk (Kd.R_below R_p.out hB)
          replace BB := Aside0.mk (BB.out.trans (hB.mono BB.out.size))
          replace SB := Aside0.mk (SB.out.trans (hB.mono SB.out.size))
          have T_s2 := Aside0.mk tn
          clear tn hB
          rw [← hw63]
          try rw [← hg64]
          clear hw63 hg64
          refine hK.out _ _ ?_ (fun hNew => ?_)
          · try dsimp only
            exact MK.out _ SB.out
          clear hK K hHeld hNew
          have hHeld := MK.out _ SB.out
          refine wpAnyH_ready (rs := [13]) (by kernel_rfl) (by simp) ?_
          refine (AllReadyH.cons rfl (fun K hK => ?_) AllReadyH.nil)
          have BBo := BB
          have CC := concat_i (some ⟨g64, 0, none⟩) 2 [l3, m3] w63 (rows2 T_s2.out (Kd.C_below HR3.out BB.out) Hl3.out (Kd.C_below HS3.out BB.out) Hm3.out) (Nat.le_refl _) (by have := HLEN.out; simp only [flat2, List.length_append]; omega) (by simp)
          go_simp
          refine (CC).mono ?_
          rintro e w65 ⟨v0, rfl, hR, hB⟩
          replace T_n := Aside0.mk ((hB.block _ (blk_lt T_n.out)).trans T_n.out)
          replace T_m := Aside0.mk ((hB.block _ (blk_lt T_m.out)).trans T_m.out)
          replace T_r := Aside0.mk ((hB.block _ (blk_lt T_r.out)).trans T_r.out)
          replace T_s1 := Aside0.mk ((hB.block _ (blk_lt T_s1.out)).trans T_s1.out)
          replace T_g8 := Aside0.mk ((hB.block _ (blk_lt T_g8.out)).trans T_g8.out)
          replace T_s2 := Aside0.mk ((hB.block _ (blk_lt T_s2.out)).trans T_s2.out)
          replace R_p := Aside0.mk (Kd.R_below R_p.out hB)
          replace BB := Aside0.mk (BB.out.trans (hB.mono BB.out.size))
          replace SB := Aside0.mk (SB.out.trans (hB.mono SB.out.size))
          clear hB
          have hR' := Kd.R_lower hR BBo.out.size
          rw [flat2, DDE.out] at hR'
          obtain ⟨A66, c67, rfl⟩ := Kd.R_slice hR'
          have R_d := Aside0.mk hR'
          clear hR hR' BBo CC
          go_simp
          refine hK.out _ _ ?_ (fun hNew => ?_)
          · try dsimp only
            exact MK.out _ SB.out
          clear hK K hHeld hNew
          have hHeld := MK.out _ SB.out
          refine sp_take 14 hHeld ?_
          refine wpAnyH_ready (rs := [16]) (by kernel_rfl) (by simp) ?_
          refine (AllReadyH.cons rfl (fun K hK => ?_) AllReadyH.nil)
          have c_g80 : w65.cell? ⟨g59, 0, none⟩ = some (.bool false) := blk_cell T_g8.out 0
          have f_g80 : w65.frozen? ⟨g59, 0, none⟩ = false := blk_frozen T_g8.out 0
          have c_g81 : w65.cell? ⟨g59, 1, none⟩ = some (.slice none 0 0) := blk_cell T_g8.out 1
          have f_g81 : w65.frozen? ⟨g59, 1, none⟩ = false := blk_frozen T_g8.out 1
          have c_g82 : w65.cell? ⟨g59, 2, none⟩ = some (.slice none 0 0) := blk_cell T_g8.out 2
          have f_g82 : w65.frozen? ⟨g59, 2, none⟩ = false := blk_frozen T_g8.out 2
          have c_g83 : w65.cell? ⟨g59, 3, none⟩ = some (.slice none 0 0) := blk_cell T_g8.out 3
          have f_g83 : w65.frozen? ⟨g59, 3, none⟩ = false := blk_frozen T_g8.out 3
          go_simp
          clear c_g80 f_g80 c_g81 f_g81 c_g82 f_g82 c_g83 f_g83
          have hg := nd_grown4 w65 (g59) (.bool false) (.slice A61 PP.length c62) (.slice none 0 0) (.slice A66 DD.length c67)
          have tn := nd_put4 w65 (g59) 31 _ _ _ _ (.bool false) (.slice A61 PP.length c62) (.slice none 0 0) (.slice A66 DD.length c67) T_g8.out
          obtain ⟨w68, hw68⟩ : ∃ x, x = ((((w65.setCell ⟨g59, 0, none⟩ (.bool false)).setCell ⟨g59, 1, none⟩ (.slice A61 PP.length c62)).setCell ⟨g59, 2, none⟩ (.slice none 0 0)).setCell ⟨g59, 3, none⟩ (.slice A66 DD.length c67)) := ⟨_, rfl⟩
          rw [← hw68] at hg tn
          rw [← hw68]
          clear hw68
          replace R_p := Aside0.mk (Kd.R_mono (Kd.R_step (Kd.R_types R_p.out T_g8.out (by decide)) (fun k hk hl => hg.block k hl (fun e => hk.2 (Option.some.inj e)))) (fun _ _ => trivial))
          replace R_d := Aside0.mk (Kd.R_mono (Kd.R_step (Kd.R_types R_d.out T_g8.out (by decide)) (fun k hk hl => hg.block k hl (fun e => hk.2 (Option.some.inj e)))) (fun _ _ => trivial))
          replace T_n := Aside0.mk ((hg.block _ (blk_lt T_n.out) (fun e => by have := Option.some.inj e; have := NE_g8_n.out; omega)).trans T_n.out)
          replace T_m := Aside0.mk ((hg.block _ (blk_lt T_m.out) (fun e => by have := Option.some.inj e; have := NE_g8_m.out; omega)).trans T_m.out)
          replace T_r := Aside0.mk ((hg.block _ (blk_lt T_r.out) (fun e => by have := Option.some.inj e; have := NE_g8_r.out; omega)).trans T_r.out)
          replace T_s1 := Aside0.mk ((hg.block _ (blk_lt T_s1.out) (fun e => by have := Option.some.inj e; have := NE_g8_s1.out; omega)).trans T_s1.out)
          replace T_s2 := Aside0.mk ((hg.block _ (blk_lt T_s2.out) (fun e => by have := Option.some.inj e; have := NE_s2_g8.out; omega)).trans T_s2.out)
          replace BB := Aside0.mk (nd_grown_below hg BB.out BB.out.size GBB_g8.out)
          replace SB := Aside0.mk (nd_grown_below hg SB.out SB.out.size GSB_g8.out)
          replace T_g8 := Aside0.mk tn
          clear tn hg
          refine hK.out _ _ ?_ (fun hNew => ?_)
          · try dsimp only
            exact MK.out _ SB.out
          clear hK K hHeld hNew
          have hHeld := MK.out _ SB.out
          refine wpAnyH_done (by kernel_rfl) ?_ _
          clear hHeld MK
          clear SB
          go_wp2_with fail
          go_meet
          exact ⟨_, _, _, _, _, rfl, T_g8, R_p, R_d, GBB_g8, NE_g8_n, NE_g8_m, NE_g8_r, T_n, T_m, T_r, BB⟩
        · go_simp
          obtain ⟨g70, hg70⟩ : ∃ n, n = w58.heap.size := ⟨_, rfl⟩
          obtain ⟨w69, hw69⟩ : ∃ x, x = w58.alloc (.cells #[.slice A3 l3.length c3, .slice B3 m3.length d3] 24) := ⟨_, rfl⟩
          have tn := heap_alloc_new w58 (.cells #[.slice A3 l3.length c3, .slice B3 m3.length d3] 24)
          have hB := below_alloc (Below.refl w58.heap.size w58) (.cells #[.slice A3 l3.length c3, .slice B3 m3.length d3] 24)
          rw [← hw69] at tn hB
          rw [← hg70] at tn
          have GBB_s2 : Aside0 (w.heap.size ≤ g70) := ⟨by rw [hg70]; exact BB.out.size⟩
          have GSB_s2 : Aside0 (w3.heap.size ≤ g70) := ⟨by rw [hg70]; exact SB.out.size⟩
          have NE_s2_n : Aside0 (w.heap.size ≠ g70) := ⟨by have := blk_lt T_n.out; omega⟩
          have NE_s2_m : Aside0 ((w.heap.size + 1) ≠ g70) := ⟨by have := blk_lt T_m.out; omega⟩
          have NE_s2_r : Aside0 ((w.heap.size + 2) ≠ g70) := ⟨by have := blk_lt T_r.out; omega⟩
          have NE_s2_s1 : Aside0 (g6 ≠ g70) := ⟨by have := blk_lt T_s1.out; omega⟩
          have NE_s2_g8 : Aside0 (g59 ≠ g70) := ⟨by have := blk_lt T_g8.out; omega⟩
          replace T_n := Aside0.mk ((hB.block _ (blk_lt T_n.out)).trans T_n.out)
          replace T_m := Aside0.mk ((hB.block _ (blk_lt T_m.out)).trans T_m.out)
          replace T_r := Aside0.mk ((hB.block _ (blk_lt T_r.out)).trans T_r.out)
          replace T_s1 := Aside0.mk ((hB.block _ (blk_lt T_s1.out)).trans T_s1.out)
          replace T_g8 := Aside0.mk ((hB.block _ (blk_lt T_g8.out)).trans T_g8.out)
          replace BB := Aside0.mk (BB.out.trans (hB.mono BB.out.size))
          replace SB := Aside0.mk (SB.out.trans (hB.mono SB.out.size))
          have T_s2 := Aside0.mk tn
          clear tn hB
          rw [← hw69]
          try rw [← hg70]
          clear hw69 hg70
          refine hK.out _ _ ?_ (fun hNew => ?_)
          · try dsimp only
            exact MK.out _ SB.out
          clear hK K hHeld hNew
          have hHeld := MK.out _ SB.out
          refine wpAnyH_ready (rs := [7]) (by kernel_rfl) (by simp) ?_
          refine (AllReadyH.cons rfl (fun K hK => ?_) AllReadyH.nil)
          have BBo := BB
          have CC := concat_p (some ⟨g6, 0, none⟩) 2 [l1, m1] w69 (rows2 T_s1.out (Kd.C_below HR1.out BB.out) Hl1.out (Kd.C_below HS1.out BB.out) Hm1.out) (Nat.le_refl _) (by have := HLEN.out; simp only [flat2, List.length_append]; omega) (by simp)
          go_simp
          refine (CC).mono ?_
          rintro e w71 ⟨v0, rfl, hR, hB⟩
          replace T_n := Aside0.mk ((hB.block _ (blk_lt T_n.out)).trans T_n.out)
          replace T_m := Aside0.mk ((hB.block _ (blk_lt T_m.out)).trans T_m.out)
          replace T_r := Aside0.mk ((hB.block _ (blk_lt T_r.out)).trans T_r.out)
          replace T_s1 := Aside0.mk ((hB.block _ (blk_lt T_s1.out)).trans T_s1.out)
          replace T_g8 := Aside0.mk ((hB.block _ (blk_lt T_g8.out)).trans T_g8.out)
          replace T_s2 := Aside0.mk ((hB.block _ (blk_lt T_s2.out)).trans T_s2.out)
          replace BB := Aside0.mk (BB.out.trans (hB.mono BB.out.size))
          replace SB := Aside0.mk (SB.out.trans (hB.mono SB.out.size))
          clear hB
          have hR' := Kd.R_lower hR BBo.out.size
          rw [flat2, PPE.out] at hR'
          obtain ⟨A72, c73, rfl⟩ := Kd.R_slice hR'
          have R_p := Aside0.mk hR'
          clear hR hR' BBo CC
          go_simp
          refine hK.out _ _ ?_ (fun hNew => ?_)
          · try dsimp only
            exact MK.out _ SB.out
          clear hK K hHeld hNew
          have hHeld := MK.out _ SB.out
          refine wpAnyH_ready (rs := [13]) (by kernel_rfl) (by simp) ?_
          refine (AllReadyH.cons rfl (fun K hK => ?_) AllReadyH.nil)
          have BBo := BB
          have CC := concat_i (some ⟨g70, 0, none⟩) 2 [l3, m3] w71 (rows2 T_s2.out (Kd.C_below HR3.out BB.out) Hl3.out (Kd.C_below HS3.out BB.out) Hm3.out) (Nat.le_refl _) (by have := HLEN.out; simp only [flat2, List.length_append]; omega) (by simp)
          go_simp
          refine (CC).mono ?_
          rintro e w74 ⟨v0, rfl, hR, hB⟩
          replace T_n := Aside0.mk ((hB.block _ (blk_lt T_n.out)).trans T_n.out)
          replace T_m := Aside0.mk ((hB.block _ (blk_lt T_m.out)).trans T_m.out)
          replace T_r := Aside0.mk ((hB.block _ (blk_lt T_r.out)).trans T_r.out)
          replace T_s1 := Aside0.mk ((hB.block _ (blk_lt T_s1.out)).trans T_s1.out)
          replace T_g8 := Aside0.mk ((hB.block _ (blk_lt T_g8.out)).trans T_g8.out)
          replace T_s2 := Aside0.mk ((hB.block _ (blk_lt T_s2.out)).trans T_s2.out)
          replace R_p := Aside0.mk (Kd.R_below R_p.out hB)
          replace BB := Aside0.mk (BB.out.trans (hB.mono BB.out.size))
          replace SB := Aside0.mk (SB.out.trans (hB.mono SB.out.size))
          clear hB
          have hR' := Kd.R_lower hR BBo.out.size
          rw [flat2, DDE.out] at hR'
          obtain ⟨A75, c76, rfl⟩ := Kd.R_slice hR'
          have R_d := Aside0.mk hR'
          clear hR hR' BBo CC
          go_simp
          refine hK.out _ _ ?_ (fun hNew => ?_)
          · try dsimp only
            exact MK.out _ SB.out
          clear hK K hHeld hNew
          have hHeld := MK.out _ SB.out
          refine sp_take 14 hHeld ?_
          refine wpAnyH_ready (rs := [16]) (by kernel_rfl) (by simp) ?_
          refine (AllReadyH.cons rfl (fun K hK => ?_) AllReadyH.nil)
          have c_g80 : w74.cell? ⟨g59, 0, none⟩ = some (.bool false) := blk_cell T_g8.out 0
          have f_g80 : w74.frozen? ⟨g59, 0, none⟩ = false := blk_frozen T_g8.out 0
          have c_g81 : w74.cell? ⟨g59, 1, none⟩ = some (.slice none 0 0) := blk_cell T_g8.out 1
          have f_g81 : w74.frozen? ⟨g59, 1, none⟩ = false := blk_frozen T_g8.out 1
          have c_g82 : w74.cell? ⟨g59, 2, none⟩ = some (.slice none 0 0) := blk_cell T_g8.out 2
          have f_g82 : w74.frozen? ⟨g59, 2, none⟩ = false := blk_frozen T_g8.out 2
          have c_g83 : w74.cell? ⟨g59, 3, none⟩ = some (.slice none 0 0) := blk_cell T_g8.out 3
          have f_g83 : w74.frozen? ⟨g59, 3, none⟩ = false := blk_frozen T_g8.out 3
          go_simp
          clear c_g80 f_g80 c_g81 f_g81 c_g82 f_g82 c_g83 f_g83
          have hg := nd_grown4 w74 (g59) (.bool false) (.slice A72 PP.length c73) (.slice none 0 0) (.slice A75 DD.length c76)
          have tn := nd_put4 w74 (g59) 31 _ _ _ _ (.bool false) (.slice A72 PP.length c73) (.slice none 0 0) (.slice A75 DD.length c76) T_g8.out
          obtain ⟨w77, hw77⟩ : ∃ x, x = ((((w74.setCell ⟨g59, 0, none⟩ (.bool false)).setCell ⟨g59, 1, none⟩ (.slice A72 PP.length c73)).setCell ⟨g59, 2, none⟩ (.slice none 0 0)).setCell ⟨g59, 3, none⟩ (.slice A75 DD.length c76)) := ⟨_, rfl⟩
          rw [← hw77] at hg tn
          rw [← hw77]
          clear hw77
          replace R_p := Aside0.mk (Kd.R_mono (Kd.R_step (Kd.R_types R_p.out T_g8.out (by decide)) (fun k hk hl => hg.block k hl (fun e => hk.2 (Option.some.inj e)))) (fun _ _ => trivial))
          replace R_d := Aside0.mk (Kd.R_mono (Kd.R_step (Kd.R_types R_d.out T_g8.out (by decide)) (fun k hk hl => hg.block k hl (fun e => hk.2 (Option.some.inj e)))) (fun _ _ => trivial))
          replace T_n := Aside0.mk ((hg.block _ (blk_lt T_n.out) (fun e => by have := Option.some.inj e; have := NE_g8_n.out; omega)).trans T_n.out)
          replace T_m := Aside0.mk ((hg.block _ (blk_lt T_m.out) (fun e => by have := Option.some.inj e; have := NE_g8_m.out; omega)).trans T_m.out)
          replace T_r := Aside0.mk ((hg.block _ (blk_lt T_r.out) (fun e => by have := Option.some.inj e; have := NE_g8_r.out; omega)).trans T_r.out)
          replace T_s1 := Aside0.mk ((hg.block _ (blk_lt T_s1.out) (fun e => by have := Option.some.inj e; have := NE_g8_s1.out; omega)).trans T_s1.out)
          replace T_s2 := Aside0.mk ((hg.block _ (blk_lt T_s2.out) (fun e => by have := Option.some.inj e; have := NE_s2_g8.out; omega)).trans T_s2.out)
          replace BB := Aside0.mk (nd_grown_below hg BB.out BB.out.size GBB_g8.out)
          replace SB := Aside0.mk (nd_grown_below hg SB.out SB.out.size GSB_g8.out)
          replace T_g8 := Aside0.mk tn
          clear tn hg
          refine hK.out _ _ ?_ (fun hNew => ?_)
          · try dsimp only
            exact MK.out _ SB.out
          clear hK K hHeld hNew
          have hHeld := MK.out _ SB.out
          refine wpAnyH_done (by kernel_rfl) ?_ _
          clear hHeld MK
          clear SB
          go_wp2_with fail
          go_meet
          exact ⟨_, _, _, _, _, rfl, T_g8, R_p, R_d, GBB_g8, NE_g8_n, NE_g8_m, NE_g8_r, T_n, T_m, T_r, BB⟩
    · go_simp
      obtain ⟨g79, hg79⟩ : ∃ n, n = w4.heap.size := ⟨_, rfl⟩
      obtain ⟨w78, hw78⟩ : ∃ x, x = w4.alloc (.cells #[.slice A3 l3.length c3, .slice B3 m3.length d3] 24) := ⟨_, rfl⟩
      have tn := heap_alloc_new w4 (.cells #[.slice A3 l3.length c3, .slice B3 m3.length d3] 24)
      have hB := below_alloc (Below.refl w4.heap.size w4) (.cells #[.slice A3 l3.length c3, .slice B3 m3.length d3] 24)
      rw [← hw78] at tn hB
      rw [← hg79] at tn
      have GBB_s2 : Aside0 (w.heap.size ≤ g79) := ⟨by rw [hg79]; exact BB.out.size⟩
      have GSB_s2 : Aside0 (w3.heap.size ≤ g79) := ⟨by rw [hg79]; exact SB.out.size⟩
      have NE_s2_n : Aside0 (w.heap.size ≠ g79) := ⟨by have := blk_lt T_n.out; omega⟩
      have NE_s2_m : Aside0 ((w.heap.size + 1) ≠ g79) := ⟨by have := blk_lt T_m.out; omega⟩
      have NE_s2_r : Aside0 ((w.heap.size + 2) ≠ g79) := ⟨by have := blk_lt T_r.out; omega⟩
      replace T_n := Aside0.mk ((hB.block _ (blk_lt T_n.out)).trans T_n.out)
      replace T_m := Aside0.mk ((hB.block _ (blk_lt T_m.out)).trans T_m.out)
      replace T_r := Aside0.mk ((hB.block _ (blk_lt T_r.out)).trans T_r.out)
      replace BB := Aside0.mk (BB.out.trans (hB.mono BB.out.size))
      replace SB := Aside0.mk (SB.out.trans (hB.mono SB.out.size))
      have T_s2 := Aside0.mk tn
      clear tn hB
      rw [← hw78]
      try rw [← hg79]
      clear hw78 hg79
      refine hK.out _ _ ?_ (fun hNew => ?_)
      · try dsimp only
        exact MK.out _ SB.out
      clear hK K hHeld hNew
      have hHeld := MK.out _ SB.out
      refine wpAnyH_ready (rs := [6, 15]) (by kernel_rfl) (by simp) ?_
      refine (AllReadyH.cons rfl (fun K hK => ?_) (AllReadyH.cons rfl (fun K hK => ?_) AllReadyH.nil))
      · go_simp
        obtain ⟨g81, hg81⟩ : ∃ n, n = w78.heap.size := ⟨_, rfl⟩
        obtain ⟨w80, hw80⟩ : ∃ x, x = w78.alloc (.cells #[.slice A1 l1.length c1, .slice B1 m1.length d1] 22) := ⟨_, rfl⟩
        have tn := heap_alloc_new w78 (.cells #[.slice A1 l1.length c1, .slice B1 m1.length d1] 22)
        have hB := below_alloc (Below.refl w78.heap.size w78) (.cells #[.slice A1 l1.length c1, .slice B1 m1.length d1] 22)
        rw [← hw80] at tn hB
        rw [← hg81] at tn
        have GBB_s1 : Aside0 (w.heap.size ≤ g81) := ⟨by rw [hg81]; exact BB.out.size⟩
        have GSB_s1 : Aside0 (w3.heap.size ≤ g81) := ⟨by rw [hg81]; exact SB.out.size⟩
        have NE_s1_n : Aside0 (w.heap.size ≠ g81) := ⟨by have := blk_lt T_n.out; omega⟩
        have NE_s1_m : Aside0 ((w.heap.size + 1) ≠ g81) := ⟨by have := blk_lt T_m.out; omega⟩
        have NE_s1_r : Aside0 ((w.heap.size + 2) ≠ g81) := ⟨by have := blk_lt T_r.out; omega⟩
        have NE_s1_s2 : Aside0 (g79 ≠ g81) := ⟨by have := blk_lt T_s2.out; omega⟩
        replace T_n := Aside0.mk ((hB.block _ (blk_lt T_n.out)).trans T_n.out)
        replace T_m := Aside0.mk ((hB.block _ (blk_lt T_m.out)).trans T_m.out)
        replace T_r := Aside0.mk ((hB.block _ (blk_lt T_r.out)).trans T_r.out)
        replace T_s2 := Aside0.mk ((hB.block _ (blk_lt T_s2.out)).trans T_s2.out)
        replace BB := Aside0.mk (BB.out.trans (hB.mono BB.out.size))
        replace SB := Aside0.mk (SB.out.trans (hB.mono SB.out.size))
        have T_s1 := Aside0.mk tn
        clear tn hB
        rw [← hw80]
        try rw [← hg81]
        clear hw80 hg81
        refine hK.out _ _ ?_ (fun hNew => ?_)
        · try dsimp only
          exact MK.out _ SB.out
        clear hK K hHeld hNew
        have hHeld := MK.out _ SB.out
        refine wpAnyH_ready (rs := [7, 15]) (by kernel_rfl) (by simp) ?_
        refine (AllReadyH.cons rfl (fun K hK => ?_) (AllReadyH.cons rfl (fun K hK => ?_) AllReadyH.nil))
        · have BBo := BB
          have CC := concat_p (some ⟨g81, 0, none⟩) 2 [l1, m1] w80 (rows2 T_s1.out (Kd.C_below HR1.out BB.out) Hl1.out (Kd.C_below HS1.out BB.out) Hm1.out) (Nat.le_refl _) (by have := HLEN.out; simp only [flat2, List.length_append]; omega) (by simp)
          go_simp
          refine (CC).mono ?_
          rintro e w82 ⟨v0, rfl, hR, hB⟩
          replace T_n := Aside0.mk ((hB.block _ (blk_lt T_n.out)).trans T_n.out)
          replace T_m := Aside0.mk ((hB.block _ (blk_lt T_m.out)).trans T_m.out)
          replace T_r := Aside0.mk ((hB.block _ (blk_lt T_r.out)).trans T_r.out)
          replace T_s2 := Aside0.mk ((hB.block _ (blk_lt T_s2.out)).trans T_s2.out)
          replace T_s1 := Aside0.mk ((hB.block _ (blk_lt T_s1.out)).trans T_s1.out)
          replace BB := Aside0.mk (BB.out.trans (hB.mono BB.out.size))
          replace SB := Aside0.mk (SB.out.trans (hB.mono SB.out.size))
          clear hB
          have hR' := Kd.R_lower hR BBo.out.size
          rw [flat2, PPE.out] at hR'
          obtain ⟨A83, c84, rfl⟩ := Kd.R_slice hR'
          have R_p := Aside0.mk hR'
          clear hR hR' BBo CC
          go_simp
          refine hK.out _ _ ?_ (fun hNew => ?_)
          · try dsimp only
            exact MK.out _ SB.out
          clear hK K hHeld hNew
          have hHeld := MK.out _ SB.out
          refine wpAnyH_ready (rs := [13, 15]) (by kernel_rfl) (by simp) ?_
          refine (AllReadyH.cons rfl (fun K hK => ?_) (AllReadyH.cons rfl (fun K hK => ?_) AllReadyH.nil))
          · have BBo := BB
            have CC := concat_i (some ⟨g79, 0, none⟩) 2 [l3, m3] w82 (rows2 T_s2.out (Kd.C_below HR3.out BB.out) Hl3.out (Kd.C_below HS3.out BB.out) Hm3.out) (Nat.le_refl _) (by have := HLEN.out; simp only [flat2, List.length_append]; omega) (by simp)
            go_simp
            refine (CC).mono ?_
            rintro e w85 ⟨v0, rfl, hR, hB⟩
            replace T_n := Aside0.mk ((hB.block _ (blk_lt T_n.out)).trans T_n.out)
            replace T_m := Aside0.mk ((hB.block _ (blk_lt T_m.out)).trans T_m.out)
            replace T_r := Aside0.mk ((hB.block _ (blk_lt T_r.out)).trans T_r.out)
            replace T_s2 := Aside0.mk ((hB.block _ (blk_lt T_s2.out)).trans T_s2.out)
            replace T_s1 := Aside0.mk ((hB.block _ (blk_lt T_s1.out)).trans T_s1.out)
            replace R_p := Aside0.mk (Kd.R_below R_p.out hB)
            replace BB := Aside0.mk (BB.out.trans (hB.mono BB.out.size))
            replace SB := Aside0.mk (SB.out.trans (hB.mono SB.out.size))
            clear hB
            have hR' := Kd.R_lower hR BBo.out.size
            rw [flat2, DDE.out] at hR'
            obtain ⟨A86, c87, rfl⟩ := Kd.R_slice hR'
            have R_d := Aside0.mk hR'
            clear hR hR' BBo CC
            go_simp
            refine hK.out _ _ ?_ (fun hNew => ?_)
            · try dsimp only
              exact MK.out _ SB.out
            clear hK K hHeld hNew
            have hHeld := MK.out _ SB.out
            refine sp_take 14 hHeld ?_
            refine wpAnyH_ready (rs := [15]) (by kernel_rfl) (by simp) ?_
            refine (AllReadyH.cons rfl (fun K hK => ?_) AllReadyH.nil)
            go_simp
            obtain ⟨g89, hg89⟩ : ∃ n, n = w85.heap.size := ⟨_, rfl⟩
            obtain ⟨w88, hw88⟩ : ∃ x, x = w85.alloc (.cells #[.bool false, .slice none 0 0, .slice none 0 0, .slice none 0 0] 31) := ⟨_, rfl⟩
            have tn := heap_alloc_new w85 (.cells #[.bool false, .slice none 0 0, .slice none 0 0, .slice none 0 0] 31)
            have hB := below_alloc (Below.refl w85.heap.size w85) (.cells #[.bool false, .slice none 0 0, .slice none 0 0, .slice none 0 0] 31)
            rw [← hw88] at tn hB
            rw [← hg89] at tn
            have GBB_g8 : Aside0 (w.heap.size ≤ g89) := ⟨by rw [hg89]; exact BB.out.size⟩
            have GSB_g8 : Aside0 (w3.heap.size ≤ g89) := ⟨by rw [hg89]; exact SB.out.size⟩
            have NE_g8_n : Aside0 (w.heap.size ≠ g89) := ⟨by have := blk_lt T_n.out; omega⟩
            have NE_g8_m : Aside0 ((w.heap.size + 1) ≠ g89) := ⟨by have := blk_lt T_m.out; omega⟩
            have NE_g8_r : Aside0 ((w.heap.size + 2) ≠ g89) := ⟨by have := blk_lt T_r.out; omega⟩
            have NE_g8_s2 : Aside0 (g79 ≠ g89) := ⟨by have := blk_lt T_s2.out; omega⟩
            have NE_g8_s1 : Aside0 (g81 ≠ g89) := ⟨by have := blk_lt T_s1.out; omega⟩
            replace T_n := Aside0.mk ((hB.block _ (blk_lt T_n.out)).trans T_n.out)
            replace T_m := Aside0.mk ((hB.block _ (blk_lt T_m.out)).trans T_m.out)
            replace T_r := Aside0.mk ((hB.block _ (blk_lt T_r.out)).trans T_r.out)
            replace T_s2 := Aside0.mk ((hB.block _ (blk_lt T_s2.out)).trans T_s2.out)
            replace T_s1 := Aside0.mk ((hB.block _ (blk_lt T_s1.out)).trans T_s1.out)
            replace R_p := Aside0.mk (Kd.R_below R_p.out hB)
            replace R_d := Aside0.mk (Kd.R_below R_d.out hB)
            replace BB := Aside0.mk (BB.out.trans (hB.mono BB.out.size))
            replace SB := Aside0.mk (SB.out.trans (hB.mono SB.out.size))
            have T_g8 := Aside0.mk tn
            clear tn hB
            rw [← hw88]
            try rw [← hg89]
            clear hw88 hg89
            refine hK.out _ _ ?_ (fun hNew => ?_)
            · try dsimp only
              exact MK.out _ SB.out
            clear hK K hHeld hNew
            have hHeld := MK.out _ SB.out
            refine wpAnyH_ready (rs := [16]) (by kernel_rfl) (by simp) ?_
            refine (AllReadyH.cons rfl (fun K hK => ?_) AllReadyH.nil)
            have c_g80 : w88.cell? ⟨g89, 0, none⟩ = some (.bool false) := blk_cell T_g8.out 0
            have f_g80 : w88.frozen? ⟨g89, 0, none⟩ = false := blk_frozen T_g8.out 0
            have c_g81 : w88.cell? ⟨g89, 1, none⟩ = some (.slice none 0 0) := blk_cell T_g8.out 1
            have f_g81 : w88.frozen? ⟨g89, 1, none⟩ = false := blk_frozen T_g8.out 1
            have c_g82 : w88.cell? ⟨g89, 2, none⟩ = some (.slice none 0 0) := blk_cell T_g8.out 2
            have f_g82 : w88.frozen? ⟨g89, 2, none⟩ = false := blk_frozen T_g8.out 2
            have c_g83 : w88.cell? ⟨g89, 3, none⟩ = some (.slice none 0 0) := blk_cell T_g8.out 3
            have f_g83 : w88.frozen? ⟨g89, 3, none⟩ = false := blk_frozen T_g8.out 3
            go_simp
            clear c_g80 f_g80 c_g81 f_g81 c_g82 f_g82 c_g83 f_g83
            have hg := nd_grown4 w88 (g89) (.bool false) (.slice A83 PP.length c84) (.slice none 0 0) (.slice A86 DD.length c87)
            have tn := nd_put4 w88 (g89) 31 _ _ _ _ (.bool false) (.slice A83 PP.length c84) (.slice none 0 0) (.slice A86 DD.length c87) T_g8.out
            obtain ⟨w90, hw90⟩ : ∃ x, x = ((((w88.setCell ⟨g89, 0, none⟩ (.bool false)).setCell ⟨g89, 1, none⟩ (.slice A83 PP.length c84)).setCell ⟨g89, 2, none⟩ (.slice none 0 0)).setCell ⟨g89, 3, none⟩ (.slice A86 DD.length c87)) := ⟨_, rfl⟩
            rw [← hw90] at hg tn
            rw [← hw90]
            clear hw90
            replace R_p := Aside0.mk (Kd.R_mono (Kd.R_step (Kd.R_types R_p.out T_g8.out (by decide)) (fun k hk hl => hg.block k hl (fun e => hk.2 (Option.some.inj e)))) (fun _ _ => trivial))
            replace R_d := Aside0.mk (Kd.R_mono (Kd.R_step (Kd.R_types R_d.out T_g8.out (by decide)) (fun k hk hl => hg.block k hl (fun e => hk.2 (Option.some.inj e)))) (fun _ _ => trivial))
            replace T_n := Aside0.mk ((hg.block _ (blk_lt T_n.out) (fun e => by have := Option.some.inj e; have := NE_g8_n.out; omega)).trans T_n.out)
            replace T_m := Aside0.mk ((hg.block _ (blk_lt T_m.out) (fun e => by have := Option.some.inj e; have := NE_g8_m.out; omega)).trans T_m.out)
            replace T_r := Aside0.mk ((hg.block _ (blk_lt T_r.out) (fun e => by have := Option.some.inj e; have := NE_g8_r.out; omega)).trans T_r.out)
            replace T_s2 := Aside0.mk ((hg.block _ (blk_lt T_s2.out) (fun e => by have := Option.some.inj e; have := NE_g8_s2.out; omega)).trans T_s2.out)
            replace T_s1 := Aside0.mk ((hg.block _ (blk_lt T_s1.out) (fun e => by have := Option.some.inj e; have := NE_g8_s1.out; omega)).trans T_s1.out)
            replace BB := Aside0.mk (nd_grown_below hg BB.out BB.out.size GBB_g8.out)
            replace SB := Aside0.mk (nd_grown_below hg SB.out SB.out.size GSB_g8.out)
            replace T_g8 := Aside0.mk tn
            clear tn hg
            refine hK.out _ _ ?_ (fun hNew => ?_)
            · try dsimp only
              exact MK.out _ SB.out
            clear hK K hHeld hNew
            have hHeld := MK.out _ SB.out
            refine wpAnyH_done (by kernel_rfl) ?_ _
            clear hHeld MK
            clear SB
            go_wp2_with fail
            go_meet
            exact ⟨_, _, _, _, _, rfl, T_g8, R_p, R_d, GBB_g8, NE_g8_n, NE_g8_m, NE_g8_r, T_n, T_m, T_r, BB⟩
          · go_simp
            obtain ⟨g92, hg92⟩ : ∃ n, n = w82.heap.size := ⟨_, rfl⟩
            obtain ⟨w91, hw91⟩ : ∃ x, x = w82.alloc (.cells #[.bool false, .slice none 0 0, .slice none 0 0, .slice none 0 0] 31) := ⟨_, rfl⟩
            have tn := heap_alloc_new w82 (.cells #[.bool false, .slice none 0 0, .slice none 0 0, .slice none 0 0] 31)
            have hB := below_alloc (Below.refl w82.heap.size w82) (.cells #[.bool false, .slice none 0 0, .slice none 0 0, .slice none 0 0] 31)
            rw [← hw91] at tn hB
            rw [← hg92] at tn
            have GBB_g8 : Aside0 (w.heap.size ≤ g92) := ⟨by rw [hg92]; exact BB.out.size⟩
            have GSB_g8 : Aside0 (w3.heap.size ≤ g92) := ⟨by rw [hg92]; exact SB.out.size⟩
            have NE_g8_n : Aside0 (w.heap.size ≠ g92) := ⟨by have := blk_lt T_n.out; omega⟩
            have NE_g8_m : Aside0 ((w.heap.size + 1) ≠ g92) := ⟨by have := blk_lt T_m.out; omega⟩
            have NE_g8_r : Aside0 ((w.heap.size + 2) ≠ g92) := ⟨by have := blk_lt T_r.out; omega⟩
            have NE_g8_s2 : Aside0 (g79 ≠ g92) := ⟨by have := blk_lt T_s2.out; omega⟩
            have NE_g8_s1 : Aside0 (g81 ≠ g92) := ⟨by have := blk_lt T_s1.out; omega⟩
            replace T_n := Aside0.mk ((hB.block _ (blk_lt T_n.out)).trans T_n.out)
            replace T_m := Aside0.mk ((hB.block _ (blk_lt T_m.out)).trans T_m.out)
            replace T_r := Aside0.mk ((hB.block _ (blk_lt T_r.out)).trans T_r.out)
            replace T_s2 := Aside0.mk ((hB.block _ (blk_lt T_s2.out)).trans T_s2.out)
            replace T_s1 := Aside0.mk ((hB.block _ (blk_lt T_s1.out)).trans T_s1.out)
            replace R_p := Aside0.mk (Kd.R_below R_p.out hB)
            replace BB := Aside0.mk (BB.out.trans (hB.mono BB.out.size))
            replace SB := Aside0.mk (SB.out.trans (hB.mono SB.out.size))
            have T_g8 := Aside0.mk tn
            clear tn hB
            rw [← hw91]
            try rw [← hg92]
            clear hw91 hg92
            refine hK.out _ _ ?_ (fun hNew => ?_)
            · try dsimp only
              exact MK.out _ SB.out
            clear hK K hHeld hNew
            have hHeld := MK.out _ SB.out
            refine wpAnyH_ready (rs := [13]) (by kernel_rfl) (by simp) ?_
            refine (AllReadyH.cons rfl (fun K hK => ?_) AllReadyH.nil)
            have BBo := BB
            have CC := concat_i (some ⟨g79, 0, none⟩) 2 [l3, m3] w91 (rows2 T_s2.out (Kd.C_below HR3.out BB.out) Hl3.out (Kd.C_below HS3.out BB.out) Hm3.out) (Nat.le_refl _) (by have := HLEN.out; simp only [flat2, List.length_append]; omega) (by simp)
            go_simp
            refine (CC).mono ?_
            rintro e w93 ⟨v0, rfl, hR, hB⟩
            replace T_n := Aside0.mk ((hB.block _ (blk_lt T_n.out)).trans T_n.out)
            replace T_m := Aside0.mk ((hB.block _ (blk_lt T_m.out)).trans T_m.out)
            replace T_r := Aside0.mk ((hB.block _ (blk_lt T_r.out)).trans T_r.out)
            replace T_s2 := Aside0.mk ((hB.block _ (blk_lt T_s2.out)).trans T_s2.out)
            replace T_s1 := Aside0.mk ((hB.block _ (blk_lt T_s1.out)).trans T_s1.out)
            replace T_g8 := Aside0.mk ((hB.block _ (blk_lt T_g8.out)).trans T_g8.out)
            replace R_p := Aside0.mk (Kd.R_below R_p.out hB)
            replace BB := Aside0.mk (BB.out.trans (hB.mono BB.out.size))
            replace SB := Aside0.mk (SB.out.trans (hB.mono SB.out.size))
            clear hB
            have hR' := Kd.R_lower hR BBo.out.size
            rw [flat2, DDE.out] at hR'
            obtain ⟨A94, c95, rfl⟩ := Kd.R_slice hR'
            have R_d := Aside0.mk hR'
            clear hR hR' BBo CC
            go_simp
            refine hK.out _ _ ?_ (fun hNew => ?_)
            · try dsimp only
              exact MK.out _ SB.out
            clear hK K hHeld hNew
            have hHeld := MK.out _ SB.out
            refine sp_take 14 hHeld ?_
            refine wpAnyH_ready (rs := [16]) (by kernel_rfl) (by simp) ?_
            refine (AllReadyH.cons rfl (fun K hK => ?_) AllReadyH.nil)
            have c_g80 : w93.cell? ⟨g92, 0, none⟩ = some (.bool false) := blk_cell T_g8.out 0
            have f_g80 : w93.frozen? ⟨g92, 0, none⟩ = false := blk_frozen T_g8.out 0
            have c_g81 : w93.cell? ⟨g92, 1, none⟩ = some (.slice none 0 0) := blk_cell T_g8.out 1
            have f_g81 : w93.frozen? ⟨g92, 1, none⟩ = false := blk_frozen T_g8.out 1
            have c_g82 : w93.cell? ⟨g92, 2, none⟩ = some (.slice none 0 0) := blk_cell T_g8.out 2
            have f_g82 : w93.frozen? ⟨g92, 2, none⟩ = false := blk_frozen T_g8.out 2
            have c_g83 : w93.cell? ⟨g92, 3, none⟩ = some (.slice none 0 0) := blk_cell T_g8.out 3
            have f_g83 : w93.frozen? ⟨g92, 3, none⟩ = false := blk_frozen T_g8.out 3
            go_simp
            clear c_g80 f_g80 c_g81 f_g81 c_g82 f_g82 c_g83 f_g83
            have hg := nd_grown4 w93 (g92) (.bool false) (.slice A83 PP.length c84) (.slice none 0 0) (.slice A94 DD.length c95)
            have tn := nd_put4 w93 (g92) 31 _ _ _ _ (.bool false) (.slice A83 PP.length c84) (.slice none 0 0) (.slice A94 DD.length c95) T_g8.out
            obtain ⟨w96, hw96⟩ : ∃ x, x = ((((w93.setCell ⟨g92, 0, none⟩ (.bool false)).setCell ⟨g92, 1, none⟩ (.slice A83 PP.length c84)).setCell ⟨g92, 2, none⟩ (.slice none 0 0)).setCell ⟨g92, 3, none⟩ (.slice A94 DD.length c95)) := ⟨_, rfl⟩
            rw [← hw96] at hg tn
            rw [← hw96]
            clear hw96
            replace R_p := Aside0.mk (Kd.R_mono (Kd.R_step (Kd.R_types R_p.out T_g8.out (by decide)) (fun k hk hl => hg.block k hl (fun e => hk.2 (Option.some.inj e)))) (fun _ _ => trivial))
            replace R_d := Aside0.mk (Kd.R_mono (Kd.R_step (Kd.R_types R_d.out T_g8.out (by decide)) (fun k hk hl => hg.block k hl (fun e => hk.2 (Option.some.inj e)))) (fun _ _ => trivial))
            replace T_n := Aside0.mk ((hg.block _ (blk_lt T_n.out) (fun e => by have := Option.some.inj e; have := NE_g8_n.out; omega)).trans T_n.out)
            replace T_m := Aside0.mk ((hg.block _ (blk_lt T_m.out) (fun e => by have := Option.some.inj e; have := NE_g8_m.out; omega)).trans T_m.out)
            replace T_r := Aside0.mk ((hg.block _ (blk_lt T_r.out) (fun e => by have := Option.some.inj e; have := NE_g8_r.out; omega)).trans T_r.out)
            replace T_s2 := Aside0.mk ((hg.block _ (blk_lt T_s2.out) (fun e => by have := Option.some.inj e; have := NE_g8_s2.out; omega)).trans T_s2.out)
            replace T_s1 := Aside0.mk ((hg.block _ (blk_lt T_s1.out) (fun e => by have := Option.some.inj e; have := NE_g8_s1.out; omega)).trans T_s1.out)
            replace BB := Aside0.mk (nd_grown_below hg BB.out BB.out.size GBB_g8.out)
            replace SB := Aside0.mk (nd_grown_below hg SB.out SB.out.size GSB_g8.out)
            replace T_g8 := Aside0.mk tn
            clear tn hg
            refine hK.out _ _ ?_ (fun hNew => ?_)
            · try dsimp only
              exact MK.out _ SB.out
            clear hK K hHeld hNew
            have hHeld := MK.out _ SB.out
            refine wpAnyH_done (by kernel_rfl) ?_ _
            clear hHeld MK
            clear SB
            go_wp2_with fail
            go_meet
            exact ⟨_, _, _, _, _, rfl, T_g8, R_p, R_d, GBB_g8, NE_g8_n, NE_g8_m, NE_g8_r, T_n, T_m, T_r, BB⟩
        · go_simp
          obtain ⟨g98, hg98⟩ : ∃ n, n = w80.heap.size := ⟨_, rfl⟩
          obtain ⟨w97, hw97⟩ : ∃ x, x = w80.alloc (.cells #[.bool false, .slice none 0 0, .slice none 0 0, .slice none 0 0] 31) := ⟨_, rfl⟩
          have tn := heap_alloc_new w80 (.cells #[.bool false, .slice none 0 0, .slice none 0 0, .slice none 0 0] 31)
          have hB := below_alloc (Below.refl w80.heap.size w80) (.cells #[.bool false, .slice none 0 0, .slice none 0 0, .slice none 0 0] 31)
          rw [← hw97] at tn hB
          rw [← hg98] at tn
          have GBB_g8 : Aside0 (w.heap.size ≤ g98) := ⟨by rw [hg98]; exact BB.out.size⟩
          have GSB_g8 : Aside0 (w3.heap.size ≤ g98) := ⟨by rw [hg98]; exact SB.out.size⟩
          have NE_g8_n : Aside0 (w.heap.size ≠ g98) := ⟨by have := blk_lt T_n.out; omega⟩
          have NE_g8_m : Aside0 ((w.heap.size + 1) ≠ g98) := ⟨by have := blk_lt T_m.out; omega⟩
          have NE_g8_r : Aside0 ((w.heap.size + 2) ≠ g98) := ⟨by have := blk_lt T_r.out; omega⟩
          have NE_g8_s2 : Aside0 (g79 ≠ g98) := ⟨by have := blk_lt T_s2.out; omega⟩
          have NE_g8_s1 : Aside0 (g81 ≠ g98) := ⟨by have := blk_lt T_s1.out; omega⟩
          replace T_n := Aside0.mk ((hB.block _ (blk_lt T_n.out)).trans T_n.out)
          replace T_m := Aside0.mk ((hB.block _ (blk_lt T_m.out)).trans T_m.out)
          replace T_r := Aside0.mk ((hB.block _ (blk_lt T_r.out)).trans T_r.out)
          replace T_s2 := Aside0.mk ((hB.block _ (blk_lt T_s2.out)).trans T_s2.out)
          replace T_s1 := Aside0.mk ((hB.block _ (blk_lt T_s1.out)).trans T_s1.out)
          replace BB := Aside0.mk (BB.out.trans (hB.mono BB.out.size))
          replace SB := Aside0.mk (SB.out.trans (hB.mono SB.out.size))
          have T_g8 := Aside0.mk tn
          clear tn hB
          rw [← hw97]
          try rw [← hg98]
          clear hw97 hg98
          refine hK.out _ _ ?_ (fun hNew => ?_)
          · try dsimp only
            exact MK.out _ SB.out
          clear hK K hHeld hNew
          have hHeld := MK.out _ SB.out
          refine wpAnyH_ready (rs := [7]) (by kernel_rfl) (by simp) ?_
          refine (AllReadyH.cons rfl (fun K hK => ?_) AllReadyH.nil)
          have BBo := BB
          have CC := concat_p (some ⟨g81, 0, none⟩) 2 [l1, m1] w97 (rows2 T_s1.out (Kd.C_below HR1.out BB.out) Hl1.out (Kd.C_below HS1.out BB.out) Hm1.out) (Nat.le_refl _) (by have := HLEN.out; simp only [flat2, List.length_append]; omega) (by simp)
          go_simp
          refine (CC).mono ?_
          rintro e w99 ⟨v0, rfl, hR, hB⟩
          replace T_n := Aside0.mk ((hB.block _ (blk_lt T_n.out)).trans T_n.out)
          replace T_m := Aside0.mk ((hB.block _ (blk_lt T_m.out)).trans T_m.out)
          replace T_r := Aside0.mk ((hB.block _ (blk_lt T_r.out)).trans T_r.out)
          replace T_s2 := Aside0.mk ((hB.block _ (blk_lt T_s2.out)).trans T_s2.out)
          replace T_s1 := Aside0.mk ((hB.block _ (blk_lt T_s1.out)).trans T_s1.out)
          replace T_g8 := Aside0.mk ((hB.block _ (blk_lt T_g8.out)).trans T_g8.out)
          replace BB := Aside0.mk (BB.out.trans (hB.mono BB.out.size))
          replace SB := Aside0.mk (SB.out.trans (hB.mono SB.out.size))
          clear hB
          have hR' := Kd.R_lower hR BBo.out.size
          rw [flat2, PPE.out] at hR'
          obtain ⟨A100, c101, rfl⟩ := Kd.R_slice hR'
          have R_p := Aside0.mk hR'
          clear hR hR' BBo CC
          go_simp
          refine hK.out _ _ ?_ (fun hNew => ?_)
          · try dsimp only
            exact MK.out _ SB.out
          clear hK K hHeld hNew
          have hHeld := MK.out _ SB.out
          refine wpAnyH_ready (rs := [13]) (by kernel_rfl) (by simp) ?_
          refine (AllReadyH.cons rfl (fun K hK => ?_) AllReadyH.nil)
          have BBo := BB
          have CC := concat_i (some ⟨g79, 0, none⟩) 2 [l3, m3] w99 (rows2 T_s2.out (Kd.C_below HR3.out BB.out) Hl3.out (Kd.C_below HS3.out BB.out) Hm3.out) (Nat.le_refl _) (by have := HLEN.out; simp only [flat2, List.length_append]; omega) (by simp)
          go_simp
          refine (CC).mono ?_
          rintro e w102 ⟨v0, rfl, hR, hB⟩
          replace T_n := Aside0.mk ((hB.block _ (blk_lt T_n.out)).trans T_n.out)
          replace T_m := Aside0.mk ((hB.block _ (blk_lt T_m.out)).trans T_m.out)
          replace T_r := Aside0.mk ((hB.block _ (blk_lt T_r.out)).trans T_r.out)
          replace T_s2 := Aside0.mk ((hB.block _ (blk_lt T_s2.out)).trans T_s2.out)
          replace T_s1 := Aside0.mk ((hB.block _ (blk_lt T_s1.out)).trans T_s1.out)
          replace T_g8 := Aside0.mk ((hB.block _ (blk_lt T_g8.out)).trans T_g8.out)
          replace R_p := Aside0.mk (Kd.R_below R_p.out hB)
          replace BB := Aside0.mk (BB.out.trans (hB.mono BB.out.size))
          replace SB := Aside0.mk (SB.out.trans (hB.mono SB.out.size))
          clear hB
          have hR' := Kd.R_lower hR BBo.out.size
          rw [flat2, DDE.out] at hR'
          obtain ⟨A103, c104, rfl⟩ := Kd.R_slice hR'
          have R_d := Aside0.mk hR'
          clear hR hR' BBo CC
          go_simp
          refine hK.out _ _ ?_ (fun hNew => ?_)
          · try dsimp only
            exact MK.out _ SB.out
          clear hK K hHeld hNew
          have hHeld := MK.out _ SB.out
          refine sp_take 14 hHeld ?_
          refine wpAnyH_ready (rs := [16]) (by kernel_rfl) (by simp) ?_
          refine (AllReadyH.cons rfl (fun K hK => ?_) AllReadyH.nil)
          have c_g80 : w102.cell? ⟨g98, 0, none⟩ = some (.bool false) := blk_cell T_g8.out 0
          have f_g80 : w102.frozen? ⟨g98, 0, none⟩ = false := blk_frozen T_g8.out 0
          have c_g81 : w102.cell? ⟨g98, 1, none⟩ = some (.slice none 0 0) := blk_cell T_g8.out 1
          have f_g81 : w102.frozen? ⟨g98, 1, none⟩ = false := blk_frozen T_g8.out 1
          have c_g82 : w102.cell? ⟨g98, 2, none⟩ = some (.slice none 0 0) := blk_cell T_g8.out 2
          have f_g82 : w102.frozen? ⟨g98, 2, none⟩ = false := blk_frozen T_g8.out 2
          have c_g83 : w102.cell? ⟨g98, 3, none⟩ = some (.slice none 0 0) := blk_cell T_g8.out 3
          have f_g83 : w102.frozen? ⟨g98, 3, none⟩ = false := blk_frozen T_g8.out 3
          go_simp
          clear c_g80 f_g80 c_g81 f_g81 c_g82 f_g82 c_g83 f_g83
          have hg := nd_grown4 w102 (g98) (.bool false) (.slice A100 PP.length c101) (.slice none 0 0) (.slice A103 DD.length c104)
          have tn := nd_put4 w102 (g98) 31 _ _ _ _ (.bool false) (.slice A100 PP.length c101) (.slice none 0 0) (.slice A103 DD.length c104) T_g8.out
          obtain ⟨w105, hw105⟩ : ∃ x, x = ((((w102.setCell ⟨g98, 0, none⟩ (.bool false)).setCell ⟨g98, 1, none⟩ (.slice A100 PP.length c101)).setCell ⟨g98, 2, none⟩ (.slice none 0 0)).setCell ⟨g98, 3, none⟩ (.slice A103 DD.length c104)) := ⟨_, rfl⟩
          rw [← hw105] at hg tn
          rw [← hw105]
          clear hw105
          replace R_p := Aside0.mk (Kd.R_mono (Kd.R_step (Kd.R_types R_p.out T_g8.out (by decide)) (fun k hk hl => hg.block k hl (fun e => hk.2 (Option.some.inj e)))) (fun _ _ => trivial))
          replace R_d := Aside0.mk (Kd.R_mono (Kd.R_step (Kd.R_types R_d.out T_g8.out (by decide)) (fun k hk hl => hg.block k hl (fun e => hk.2 (Option.some.inj e)))) (fun _ _ => trivial))
          replace T_n := Aside0.mk ((hg.block _ (blk_lt T_n.out) (fun e => by have := Option.some.inj e; have := NE_g8_n.out; omega)).trans T_n.out)
          replace T_m := Aside0.mk ((hg.block _ (blk_lt T_m.out) (fun e => by have := Option.some.inj e; have := NE_g8_m.out; omega)).trans T_m.out)
          replace T_r := Aside0.mk ((hg.block _ (blk_lt T_r.out) (fun e => by have := Option.some.inj e; have := NE_g8_r.out; omega)).trans T_r.out)
          replace T_s2 := Aside0.mk ((hg.block _ (blk_lt T_s2.out) (fun e => by have := Option.some.inj e; have := NE_g8_s2.out; omega)).trans T_s2.out)
          replace T_s1 := Aside0.mk ((hg.block _ (blk_lt T_s1.out) (fun e => by have := Option.some.inj e; have := NE_g8_s1.out; omega)).trans T_s1.out)
          replace BB := Aside0.mk (nd_grown_below hg BB.out BB.out.size GBB_g8.out)
          replace SB := Aside0.mk (nd_grown_below hg SB.out SB.out.size GSB_g8.out)
          replace T_g8 := Aside0.mk tn
          clear tn hg
          refine hK.out _ _ ?_ (fun hNew => ?_)
          · try dsimp only
            exact MK.out _ SB.out
          clear hK K hHeld hNew
          have hHeld := MK.out _ SB.out
          refine wpAnyH_done (by kernel_rfl) ?_ _
          clear hHeld MK
          clear SB
          go_wp2_with fail
          go_meet
          exact ⟨_, _, _, _, _, rfl, T_g8, R_p, R_d, GBB_g8, NE_g8_n, NE_g8_m, NE_g8_r, T_n, T_m, T_r, BB⟩
      · go_simp
        obtain ⟨g107, hg107⟩ : ∃ n, n = w78.heap.size := ⟨_, rfl⟩
        obtain ⟨w106, hw106⟩ : ∃ x, x = w78.alloc (.cells #[.bool false, .slice none 0 0, .slice none 0 0, .slice none 0 0] 31) := ⟨_, rfl⟩
        have tn := heap_alloc_new w78 (.cells #[.bool false, .slice none 0 0, .slice none 0 0, .slice none 0 0] 31)
        have hB := below_alloc (Below.refl w78.heap.size w78) (.cells #[.bool false, .slice none 0 0, .slice none 0 0, .slice none 0 0] 31)
        rw [← hw106] at tn hB
        rw [← hg107] at tn
        have GBB_g8 : Aside0 (w.heap.size ≤ g107) := ⟨by rw [hg107]; exact BB.out.size⟩
        have GSB_g8 : Aside0 (w3.heap.size ≤ g107) := ⟨by rw [hg107]; exact SB.out.size⟩
        have NE_g8_n : Aside0 (w.heap.size ≠ g107) := ⟨by have := blk_lt T_n.out; omega⟩
        have NE_g8_m : Aside0 ((w.heap.size + 1) ≠ g107) := ⟨by have := blk_lt T_m.out; omega⟩
        have NE_g8_r : Aside0 ((w.heap.size + 2) ≠ g107) := ⟨by have := blk_lt T_r.out; omega⟩
        have NE_g8_s2 : Aside0 (g79 ≠ g107) := ⟨by have := blk_lt T_s2.out; omega⟩
        replace T_n := Aside0.mk ((hB.block _ (blk_lt T_n.out)).trans T_n.out)
        replace T_m := Aside0.mk ((hB.block _ (blk_lt T_m.out)).trans T_m.out)
        replace T_r := Aside0.mk ((hB.block _ (blk_lt T_r.out)).trans T_r.out)
        replace T_s2 := Aside0.mk ((hB.block _ (blk_lt T_s2.out)).trans T_s2.out)
        replace BB := Aside0.mk (BB.out.trans (hB.mono BB.out.size))
        replace SB := Aside0.mk (SB.out.trans (hB.mono SB.out.size))
        have T_g8 := Aside0.mk tn
        clear tn hB
        rw [← hw106]
        try rw [← hg107]
        clear hw106 hg107
        refine hK.out _ _ ?_ (fun hNew => ?_)
        · try dsimp only
          exact MK.out _ SB.out
        clear hK K hHeld hNew
        have hHeld := MK.out _ SB.out
        refine wpAnyH_ready (rs := [6]) (by kernel_rfl) (by simp) ?_
        refine (AllReadyH.cons rfl (fun K hK => ?_) AllReadyH.nil)
        go_simp
        obtain ⟨g109, hg109⟩ : ∃ n, n = w106.heap.size := ⟨_, rfl⟩
        obtain ⟨w108, hw108⟩ : ∃ x, x = w106.alloc (.cells #[.slice A1 l1.length c1, .slice B1 m1.length d1] 22) := ⟨_, rfl⟩
        have tn := heap_alloc_new w106 (.cells #[.slice A1 l1.length c1, .slice B1 m1.length d1] 22)
        have hB := below_alloc (Below.refl w106.heap.size w106) (.cells #[.slice A1 l1.length c1, .slice B1 m1.length d1] 22)
        rw [← hw108] at tn hB
        rw [← hg109] at tn
        have GBB_s1 : Aside0 (w.heap.size ≤ g109) := ⟨by rw [hg109]; exact BB.out.size⟩
        have GSB_s1 : Aside0 (w3.heap.size ≤ g109) := ⟨by rw [hg109]; exact SB.out.size⟩
        have NE_s1_n : Aside0 (w.heap.size ≠ g109) := ⟨by have := blk_lt T_n.out; omega⟩
        have NE_s1_m : Aside0 ((w.heap.size + 1) ≠ g109) := ⟨by have := blk_lt T_m.out; omega⟩
        have NE_s1_r : Aside0 ((w.heap.size + 2) ≠ g109) := ⟨by have := blk_lt T_r.out; omega⟩
        have NE_s1_s2 : Aside0 (g79 ≠ g109) := ⟨by have := blk_lt T_s2.out; omega⟩
        have NE_s1_g8 : Aside0 (g107 ≠ g109) := ⟨by have := blk_lt T_g8.out; omega⟩
        replace T_n := Aside0.mk ((hB.block _ (blk_lt T_n.out)).trans T_n.out)
        replace T_m := Aside0.mk ((hB.block _ (blk_lt T_m.out)).trans T_m.out)
        replace T_r := Aside0.mk ((hB.block _ (blk_lt T_r.out)).trans T_r.out)
        replace T_s2 := Aside0.mk ((hB.block _ (blk_lt T_s2.out)).trans T_s2.out)
        replace T_g8 := Aside0.mk ((hB.block _ (blk_lt T_g8.out)).trans T_g8.out)
        replace BB := Aside0.mk (BB.out.trans (hB.mono BB.out.size))
        replace SB := Aside0.mk (SB.out.trans (hB.mono SB.out.size))
        have T_s1 := Aside0.mk tn
        clear tn hB
        rw [← hw108]
        try rw [← hg109]
        clear hw108 hg109
        refine hK.out _ _ ?_ (fun hNew => ?_)
        · try dsimp only
          exact MK.out _ SB.out
        clear hK K hHeld hNew
        have hHeld := MK.out _ SB.out
        refine wpAnyH_ready (rs := [7]) (by kernel_rfl) (by simp) ?_
        refine (AllReadyH.cons rfl (fun K hK => ?_) AllReadyH.nil)
        have BBo := BB
        have CC := concat_p (some ⟨g109, 0, none⟩) 2 [l1, m1] w108 (rows2 T_s1.out (Kd.C_below HR1.out BB.out) Hl1.out (Kd.C_below HS1.out BB.out) Hm1.out) (Nat.le_refl _) (by have := HLEN.out; simp only [flat2, List.length_append]; omega) (by simp)
        go_simp
        refine (CC).mono ?_
        rintro e w110 ⟨v0, rfl, hR, hB⟩
        replace T_n := Aside0.mk ((hB.block _ (blk_lt T_n.out)).trans T_n.out)
        replace T_m := Aside0.mk ((hB.block _ (blk_lt T_m.out)).trans T_m.out)
        replace T_r := Aside0.mk ((hB.block _ (blk_lt T_r.out)).trans T_r.out)
        replace T_s2 := Aside0.mk ((hB.block _ (blk_lt T_s2.out)).trans T_s2.out)
        replace T_g8 := Aside0.mk ((hB.block _ (blk_lt T_g8.out)).trans T_g8.out)
        replace T_s1 := Aside0.mk ((hB.block _ (blk_lt T_s1.out)).trans T_s1.out)
        replace BB := Aside0.mk (BB.out.trans (hB.mono BB.out.size))
        replace SB := Aside0.mk (SB.out.trans (hB.mono SB.out.size))
        clear hB
        have hR' := Kd.R_lower hR BBo.out.size
        rw [flat2, PPE.out] at hR'
        obtain ⟨A111, c112, rfl⟩ := Kd.R_slice hR'
        have R_p := Aside0.mk hR'
        clear hR hR' BBo CC
        go_simp
        refine hK.out _ _ ?_ (fun hNew => ?_)
        · try dsimp only
          exact MK.out _ SB.out
        clear hK K hHeld hNew
        have hHeld := MK.out _ SB.out
        refine wpAnyH_ready (rs := [13]) (by kernel_rfl) (by simp) ?_
        refine (AllReadyH.cons rfl (fun K hK => ?_) AllReadyH.nil)
        have BBo := BB
        have CC := concat_i (some ⟨g79, 0, none⟩) 2 [l3, m3] w110 (rows2 T_s2.out (Kd.C_below HR3.out BB.out) Hl3.out (Kd.C_below HS3.out BB.out) Hm3.out) (Nat.le_refl _) (by have := HLEN.out; simp only [flat2, List.length_append]; omega) (by simp)
        go_simp
        refine (CC).mono ?_
        rintro e w113 ⟨v0, rfl, hR, hB⟩
        replace T_n := Aside0.mk ((hB.block _ (blk_lt T_n.out)).trans T_n.out)
        replace T_m := Aside0.mk ((hB.block _ (blk_lt T_m.out)).trans T_m.out)
        replace T_r := Aside0.mk ((hB.block _ (blk_lt T_r.out)).trans T_r.out)
        replace T_s2 := Aside0.mk ((hB.block _ (blk_lt T_s2.out)).trans T_s2.out)
        replace T_g8 := Aside0.mk ((hB.block _ (blk_lt T_g8.out)).trans T_g8.out)
        replace T_s1 := Aside0.mk ((hB.block _ (blk_lt T_s1.out)).trans T_s1.out)
        replace R_p := Aside0.mk (Kd.R_below R_p.out hB)
        replace BB := Aside0.mk (BB.out.trans (hB.mono BB.out.size))
        replace SB := Aside0.mk (SB.out.trans (hB.mono SB.out.size))
        clear hB
        have hR' := Kd.R_lower hR BBo.out.size
        rw [flat2, DDE.out] at hR'
        obtain ⟨A114, c115, rfl⟩ := Kd.R_slice hR'
        have R_d := Aside0.mk hR'
        clear hR hR' BBo CC
        go_simp
        refine hK.out _ _ ?_ (fun hNew => ?_)
        · try dsimp only
          exact MK.out _ SB.out
        clear hK K hHeld hNew
        have hHeld := MK.out _ SB.out
        refine sp_take 14 hHeld ?_
        refine wpAnyH_ready (rs := [16]) (by kernel_rfl) (by simp) ?_
        refine (AllReadyH.cons rfl (fun K hK => ?_) AllReadyH.nil)
        have c_g80 : w113.cell? ⟨g107, 0, none⟩ = some (.bool false) := blk_cell T_g8.out 0
        have f_g80 : w113.frozen? ⟨g107, 0, none⟩ = false := blk_frozen T_g8.out 0
        have c_g81 : w113.cell? ⟨g107, 1, none⟩ = some (.slice none 0 0) := blk_cell T_g8.out 1
        have f_g81 : w113.frozen? ⟨g107, 1, none⟩ = false := blk_frozen T_g8.out 1
        have c_g82 : w113.cell? ⟨g107, 2, none⟩ = some (.slice none 0 0) := blk_cell T_g8.out 2
        have f_g82 : w113.frozen? ⟨g107, 2, none⟩ = false := blk_frozen T_g8.out 2
        have c_g83 : w113.cell? ⟨g107, 3, none⟩ = some (.slice none 0 0) := blk_cell T_g8.out 3
        have f_g83 : w113.frozen? ⟨g107, 3, none⟩ = false := blk_frozen T_g8.out 3
        go_simp
        clear c_g80 f_g80 c_g81 f_g81 c_g82 f_g82 c_g83 f_g83
        have hg := nd_grown4 w113 (g107) (.bool false) (.slice A111 PP.length c112) (.slice none 0 0) (.slice A114 DD.length c115)
        have tn := nd_put4 w113 (g107) 31 _ _ _ _ (.bool false) (.slice A111 PP.length c112) (.slice none 0 0) (.slice A114 DD.length c115) T_g8.out
        obtain ⟨w116, hw116⟩ : ∃ x, x = ((((w113.setCell ⟨g107, 0, none⟩ (.bool false)).setCell ⟨g107, 1, none⟩ (.slice A111 PP.length c112)).setCell ⟨g107, 2, none⟩ (.slice none 0 0)).setCell ⟨g107, 3, none⟩ (.slice A114 DD.length c115)) := ⟨_, rfl⟩
        rw [← hw116] at hg tn
        rw [← hw116]
        clear hw116
        replace R_p := Aside0.mk (Kd.R_mono (Kd.R_step (Kd.R_types R_p.out T_g8.out (by decide)) (fun k hk hl => hg.block k hl (fun e => hk.2 (Option.some.inj e)))) (fun _ _ => trivial))
        replace R_d := Aside0.mk (Kd.R_mono (Kd.R_step (Kd.R_types R_d.out T_g8.out (by decide)) (fun k hk hl => hg.block k hl (fun e => hk.2 (Option.some.inj e)))) (fun _ _ => trivial))
        replace T_n := Aside0.mk ((hg.block _ (blk_lt T_n.out) (fun e => by have := Option.some.inj e; have := NE_g8_n.out; omega)).trans T_n.out)
        replace T_m := Aside0.mk ((hg.block _ (blk_lt T_m.out) (fun e => by have := Option.some.inj e; have := NE_g8_m.out; omega)).trans T_m.out)
        replace T_r := Aside0.mk ((hg.block _ (blk_lt T_r.out) (fun e => by have := Option.some.inj e; have := NE_g8_r.out; omega)).trans T_r.out)
        replace T_s2 := Aside0.mk ((hg.block _ (blk_lt T_s2.out) (fun e => by have := Option.some.inj e; have := NE_g8_s2.out; omega)).trans T_s2.out)
        replace T_s1 := Aside0.mk ((hg.block _ (blk_lt T_s1.out) (fun e => by have := Option.some.inj e; have := NE_s1_g8.out; omega)).trans T_s1.out)
        replace BB := Aside0.mk (nd_grown_below hg BB.out BB.out.size GBB_g8.out)
        replace SB := Aside0.mk (nd_grown_below hg SB.out SB.out.size GSB_g8.out)
        replace T_g8 := Aside0.mk tn
        clear tn hg
        refine hK.out _ _ ?_ (fun hNew => ?_)
        · try dsimp only
          exact MK.out _ SB.out
        clear hK K hHeld hNew
        have hHeld := MK.out _ SB.out
        refine wpAnyH_done (by kernel_rfl) ?_ _
        clear hHeld MK
        clear SB
        go_wp2_with fail
        go_meet
        exact ⟨_, _, _, _, _, rfl, T_g8, R_p, R_d, GBB_g8, NE_g8_n, NE_g8_m, NE_g8_r, T_n, T_m, T_r, BB⟩
    · go_simp
      obtain ⟨g118, hg118⟩ : ∃ n, n = w4.heap.size := ⟨_, rfl⟩
      obtain ⟨w117, hw117⟩ : ∃ x, x = w4.alloc (.cells #[.bool false, .slice none 0 0, .slice none 0 0, .slice none 0 0] 31) := ⟨_, rfl⟩
      have tn := heap_alloc_new w4 (.cells #[.bool false, .slice none 0 0, .slice none 0 0, .slice none 0 0] 31)
      have hB := below_alloc (Below.refl w4.heap.size w4) (.cells #[.bool false, .slice none 0 0, .slice none 0 0, .slice none 0 0] 31)
      rw [← hw117] at tn hB
      rw [← hg118] at tn
      have GBB_g8 : Aside0 (w.heap.size ≤ g118) := ⟨by rw [hg118]; exact BB.out.size⟩
      have GSB_g8 : Aside0 (w3.heap.size ≤ g118) := ⟨by rw [hg118]; exact SB.out.size⟩
      have NE_g8_n : Aside0 (w.heap.size ≠ g118) := ⟨by have := blk_lt T_n.out; omega⟩
      have NE_g8_m : Aside0 ((w.heap.size + 1) ≠ g118) := ⟨by have := blk_lt T_m.out; omega⟩
      have NE_g8_r : Aside0 ((w.heap.size + 2) ≠ g118) := ⟨by have := blk_lt T_r.out; omega⟩
      replace T_n := Aside0.mk ((hB.block _ (blk_lt T_n.out)).trans T_n.out)
      replace T_m := Aside0.mk ((hB.block _ (blk_lt T_m.out)).trans T_m.out)
      replace T_r := Aside0.mk ((hB.block _ (blk_lt T_r.out)).trans T_r.out)
      replace BB := Aside0.mk (BB.out.trans (hB.mono BB.out.size))
      replace SB := Aside0.mk (SB.out.trans (hB.mono SB.out.size))
      have T_g8 := Aside0.mk tn
      clear tn hB
      rw [← hw117]
      try rw [← hg118]
      clear hw117 hg118
      refine hK.out _ _ ?_ (fun hNew => ?_)
      · try dsimp only
        exact MK.out _ SB.out
      clear hK K hHeld hNew
      have hHeld := MK.out _ SB.out
      refine wpAnyH_ready (rs := [6, 12]) (by kernel_rfl) (by simp) ?_
      refine (AllReadyH.cons rfl (fun K hK => ?_) (AllReadyH.cons rfl (fun K hK => ?_) AllReadyH.nil))
      · go_simp
        obtain ⟨g120, hg120⟩ : ∃ n, n = w117.heap.size := ⟨_, rfl⟩
        obtain ⟨w119, hw119⟩ : ∃ x, x = w117.alloc (.cells #[.slice A1 l1.length c1, .slice B1 m1.length d1] 22) := ⟨_, rfl⟩
        have tn := heap_alloc_new w117 (.cells #[.slice A1 l1.length c1, .slice B1 m1.length d1] 22)
        have hB := below_alloc (Below.refl w117.heap.size w117) (.cells #[.slice A1 l1.length c1, .slice B1 m1.length d1] 22)
        rw [← hw119] at tn hB
        rw [← hg120] at tn
        have GBB_s1 : Aside0 (w.heap.size ≤ g120) := ⟨by rw [hg120]; exact BB.out.size⟩
        have GSB_s1 : Aside0 (w3.heap.size ≤ g120) := ⟨by rw [hg120]; exact SB.out.size⟩
        have NE_s1_n : Aside0 (w.heap.size ≠ g120) := ⟨by have := blk_lt T_n.out; omega⟩
        have NE_s1_m : Aside0 ((w.heap.size + 1) ≠ g120) := ⟨by have := blk_lt T_m.out; omega⟩
        have NE_s1_r : Aside0 ((w.heap.size + 2) ≠ g120) := ⟨by have := blk_lt T_r.out; omega⟩
        have NE_s1_g8 : Aside0 (g118 ≠ g120) := ⟨by have := blk_lt T_g8.out; omega⟩
        replace T_n := Aside0.mk ((hB.block _ (blk_lt T_n.out)).trans T_n.out)
        replace T_m := Aside0.mk ((hB.block _ (blk_lt T_m.out)).trans T_m.out)
        replace T_r := Aside0.mk ((hB.block _ (blk_lt T_r.out)).trans T_r.out)
        replace T_g8 := Aside0.mk ((hB.block _ (blk_lt T_g8.out)).trans T_g8.out)
        replace BB := Aside0.mk (BB.out.trans (hB.mono BB.out.size))
        replace SB := Aside0.mk (SB.out.trans (hB.mono SB.out.size))
        have T_s1 := Aside0.mk tn
        clear tn hB
        rw [← hw119]
        try rw [← hg120]
        clear hw119 hg120
        refine hK.out _ _ ?_ (fun hNew => ?_)
        · try dsimp only
          exact MK.out _ SB.out
        clear hK K hHeld hNew
        have hHeld := MK.out _ SB.out
        refine wpAnyH_ready (rs := [7, 12]) (by kernel_rfl) (by simp) ?_
        refine (AllReadyH.cons rfl (fun K hK => ?_) (AllReadyH.cons rfl (fun K hK => ?_) AllReadyH.nil))
        · have BBo := BB
          have CC := concat_p (some ⟨g120, 0, none⟩) 2 [l1, m1] w119 (rows2 T_s1.out (Kd.C_below HR1.out BB.out) Hl1.out (Kd.C_below HS1.out BB.out) Hm1.out) (Nat.le_refl _) (by have := HLEN.out; simp only [flat2, List.length_append]; omega) (by simp)
          go_simp
          refine (CC).mono ?_
          rintro e w121 ⟨v0, rfl, hR, hB⟩
          replace T_n := Aside0.mk ((hB.block _ (blk_lt T_n.out)).trans T_n.out)
          replace T_m := Aside0.mk ((hB.block _ (blk_lt T_m.out)).trans T_m.out)
          replace T_r := Aside0.mk ((hB.block _ (blk_lt T_r.out)).trans T_r.out)
          replace T_g8 := Aside0.mk ((hB.block _ (blk_lt T_g8.out)).trans T_g8.out)
          replace T_s1 := Aside0.mk ((hB.block _ (blk_lt T_s1.out)).trans T_s1.out)
          replace BB := Aside0.mk (BB.out.trans (hB.mono BB.out.size))
          replace SB := Aside0.mk (SB.out.trans (hB.mono SB.out.size))
          clear hB
          have hR' := Kd.R_lower hR BBo.out.size
          rw [flat2, PPE.out] at hR'
          obtain ⟨A122, c123, rfl⟩ := Kd.R_slice hR'
          have R_p := Aside0.mk hR'
          clear hR hR' BBo CC
          go_simp
          refine hK.out _ _ ?_ (fun hNew => ?_)
          · try dsimp only
            exact MK.out _ SB.out
          clear hK K hHeld hNew
          have hHeld := MK.out _ SB.out
          refine wpAnyH_ready (rs := [12]) (by kernel_rfl) (by simp) ?_
          refine (AllReadyH.cons rfl (fun K hK => ?_) AllReadyH.nil)
          go_simp
          obtain ⟨g125, hg125⟩ : ∃ n, n = w121.heap.size := ⟨_, rfl⟩
          obtain ⟨w124, hw124⟩ : ∃ x, x = w121.alloc (.cells #[.slice A3 l3.length c3, .slice B3 m3.length d3] 24) := ⟨_, rfl⟩
          have tn := heap_alloc_new w121 (.cells #[.slice A3 l3.length c3, .slice B3 m3.length d3] 24)
          have hB := below_alloc (Below.refl w121.heap.size w121) (.cells #[.slice A3 l3.length c3, .slice B3 m3.length d3] 24)
          rw [← hw124] at tn hB
          rw [← hg125] at tn
          have GBB_s2 : Aside0 (w.heap.size ≤ g125) := ⟨by rw [hg125]; exact BB.out.size⟩
          have GSB_s2 : Aside0 (w3.heap.size ≤ g125) := ⟨by rw [hg125]; exact SB.out.size⟩
          have NE_s2_n : Aside0 (w.heap.size ≠ g125) := ⟨by have := blk_lt T_n.out; omega⟩
          have NE_s2_m : Aside0 ((w.heap.size + 1) ≠ g125) := ⟨by have := blk_lt T_m.out; omega⟩
          have NE_s2_r : Aside0 ((w.heap.size + 2) ≠ g125) := ⟨by have := blk_lt T_r.out; omega⟩
          have NE_s2_g8 : Aside0 (g118 ≠ g125) := ⟨by have := blk_lt T_g8.out; omega⟩
          have NE_s2_s1 : Aside0 (g120 ≠ g125) := ⟨by have := blk_lt T_s1.out; omega⟩
          replace T_n := Aside0.mk ((hB.block _ (blk_lt T_n.out)).trans T_n.out)
          replace T_m := Aside0.mk ((hB.block _ (blk_lt T_m.out)).trans T_m.out)
          replace T_r := Aside0.mk ((hB.block _ (blk_lt T_r.out)).trans T_r.out)
          replace T_g8 := Aside0.mk ((hB.block _ (blk_lt T_g8.out)).trans T_g8.out)
          replace T_s1 := Aside0.mk ((hB.block _ (blk_lt T_s1.out)).trans T_s1.out)
          replace R_p := Aside0.mk (Kd.R_below R_p.out hB)
          replace BB := Aside0.mk (BB.out.trans (hB.mono BB.out.size))
          replace SB := Aside0.mk (SB.out.trans (hB.mono SB.out.size))
          have T_s2 := Aside0.mk tn
          clear tn hB
          rw [← hw124]
          try rw [← hg125]
          clear hw124 hg125
          refine hK.out _ _ ?_ (fun hNew => ?_)
          · try dsimp only
            exact MK.out _ SB.out
          clear hK K hHeld hNew
          have hHeld := MK.out _ SB.out
          refine wpAnyH_ready (rs := [13]) (by kernel_rfl) (by simp) ?_
          refine (AllReadyH.cons rfl (fun K hK => ?_) AllReadyH.nil)
          have BBo := BB
          have CC := concat_i (some ⟨g125, 0, none⟩) 2 [l3, m3] w124 (rows2 T_s2.out (Kd.C_below HR3.out BB.out) Hl3.out (Kd.C_below HS3.out BB.out) Hm3.out) (Nat.le_refl _) (by have := HLEN.out; simp only [flat2, List.length_append]; omega) (by simp)
          go_simp
          refine (CC).mono ?_
          rintro e w126 ⟨v0, rfl, hR, hB⟩
          replace T_n := Aside0.mk ((hB.block _ (blk_lt T_n.out)).trans T_n.out)
          replace T_m := Aside0.mk ((hB.block _ (blk_lt T_m.out)).trans T_m.out)
          replace T_r := Aside0.mk ((hB.block _ (blk_lt T_r.out)).trans T_r.out)
          replace T_g8 := Aside0.mk ((hB.block _ (blk_lt T_g8.out)).trans T_g8.out)
          replace T_s1 := Aside0.mk ((hB.block _ (blk_lt T_s1.out)).trans T_s1.out)
          replace T_s2 := Aside0.mk ((hB.block _ (blk_lt T_s2.out)).trans T_s2.out)
          replace R_p := Aside0.mk (Kd.R_below R_p.out hB)
          replace BB := Aside0.mk (BB.out.trans (hB.mono BB.out.size))
          replace SB := Aside0.mk (SB.out.trans (hB.mono SB.out.size))
          clear hB
          have hR' := Kd.R_lower hR BBo.out.size
          rw [flat2, DDE.out] at hR'
          obtain ⟨A127, c128, rfl⟩ := Kd.R_slice hR'
          have R_d := Aside0.mk hR'
          clear hR hR' BBo CC
          go_simp
          refine hK.out _ _ ?_ (fun hNew => ?_)
          · try dsimp only
            exact MK.out _ SB.out
          clear hK K hHeld hNew
          have hHeld := MK.out _ SB.out
          refine sp_take 14 hHeld ?_
          refine wpAnyH_ready (rs := [16]) (by kernel_rfl) (by simp) ?_
          refine (AllReadyH.cons rfl (fun K hK => ?_) AllReadyH.nil)
          have c_g80 : w126.cell? ⟨g118, 0, none⟩ = some (.bool false) := blk_cell T_g8.out 0
          have f_g80 : w126.frozen? ⟨g118, 0, none⟩ = false := blk_frozen T_g8.out 0
          have c_g81 : w126.cell? ⟨g118, 1, none⟩ = some (.slice none 0 0) := blk_cell T_g8.out 1
          have f_g81 : w126.frozen? ⟨g118, 1, none⟩ = false := blk_frozen T_g8.out 1
          have c_g82 : w126.cell? ⟨g118, 2, none⟩ = some (.slice none 0 0) := blk_cell T_g8.out 2
          have f_g82 : w126.frozen? ⟨g118, 2, none⟩ = false := blk_frozen T_g8.out 2
          have c_g83 : w126.cell? ⟨g118, 3, none⟩ = some (.slice none 0 0) := blk_cell T_g8.out 3
          have f_g83 : w126.frozen? ⟨g118, 3, none⟩ = false := blk_frozen T_g8.out 3
          go_simp
          clear c_g80 f_g80 c_g81 f_g81 c_g82 f_g82 c_g83 f_g83
          have hg := nd_grown4 w126 (g118) (.bool false) (.slice A122 PP.length c123) (.slice none 0 0) (.slice A127 DD.length c128)
          have tn := nd_put4 w126 (g118) 31 _ _ _ _ (.bool false) (.slice A122 PP.length c123) (.slice none 0 0) (.slice A127 DD.length c128) T_g8.out
          obtain ⟨w129, hw129⟩ : ∃ x, x = ((((w126.setCell ⟨g118, 0, none⟩ (.bool false)).setCell ⟨g118, 1, none⟩ (.slice A122 PP.length c123)).setCell ⟨g118, 2, none⟩ (.slice none 0 0)).setCell ⟨g118, 3, none⟩ (.slice A127 DD.length c128)) := ⟨_, rfl⟩
          rw [← hw129] at hg tn
          rw [← hw129]
          clear hw129
          replace R_p := Aside0.mk (Kd.R_mono (Kd.R_step (Kd.R_types R_p.out T_g8.out (by decide)) (fun k hk hl => hg.block k hl (fun e => hk.2 (Option.some.inj e)))) (fun _ _ => trivial))
          replace R_d := Aside0.mk (Kd.R_mono (Kd.R_step (Kd.R_types R_d.out T_g8.out (by decide)) (fun k hk hl => hg.block k hl (fun e => hk.2 (Option.some.inj e)))) (fun _ _ => trivial))
          replace T_n := Aside0.mk ((hg.block _ (blk_lt T_n.out) (fun e => by have := Option.some.inj e; have := NE_g8_n.out; omega)).trans T_n.out)
          replace T_m := Aside0.mk ((hg.block _ (blk_lt T_m.out) (fun e => by have := Option.some.inj e; have := NE_g8_m.out; omega)).trans T_m.out)
          replace T_r := Aside0.mk ((hg.block _ (blk_lt T_r.out) (fun e => by have := Option.some.inj e; have := NE_g8_r.out; omega)).trans T_r.out)
          replace T_s1 := Aside0.mk ((hg.block _ (blk_lt T_s1.out) (fun e => by have := Option.some.inj e; have := NE_s1_g8.out; omega)).trans T_s1.out)
          replace T_s2 := Aside0.mk ((hg.block _ (blk_lt T_s2.out) (fun e => by have := Option.some.inj e; have := NE_s2_g8.out; omega)).trans T_s2.out)
          replace BB := Aside0.mk (nd_grown_below hg BB.out BB.out.size GBB_g8.out)
          replace SB := Aside0.mk (nd_grown_below hg SB.out SB.out.size GSB_g8.out)
          replace T_g8 := Aside0.mk tn
          clear tn hg
          refine hK.out _ _ ?_ (fun hNew => ?_)
          · try dsimp only
            exact MK.out _ SB.out
          clear hK K hHeld hNew
          have hHeld := MK.out _ SB.out
          refine wpAnyH_done (by kernel_rfl) ?_ _
          clear hHeld MK
          clear SB
          go_wp2_with fail
          go_meet
          exact ⟨_, _, _, _, _, rfl, T_g8, R_p, R_d, GBB_g8, NE_g8_n, NE_g8_m, NE_g8_r, T_n, T_m, T_r, BB⟩
        · go_simp
          obtain ⟨g131, hg131⟩ : ∃ n, n = w119.heap.size := ⟨_, rfl⟩
          obtain ⟨w130, hw130⟩ : ∃ x, x = w119.alloc (.cells #[.slice A3 l3.length c3, .slice B3 m3.length d3] 24) := ⟨_, rfl⟩
          have tn := heap_alloc_new w119 (.cells #[.slice A3 l3.length c3, .slice B3 m3.length d3] 24)
          have hB := below_alloc (Below.refl w119.heap.size w119) (.cells #[.slice A3 l3.length c3, .slice B3 m3.length d3] 24)
          rw [← hw130] at tn hB
          rw [← hg131] at tn
          have GBB_s2 : Aside0 (w.heap.size ≤ g131) := ⟨by rw [hg131]; exact BB.out.size⟩
          have GSB_s2 : Aside0 (w3.heap.size ≤ g131) := ⟨by rw [hg131]; exact SB.out.size⟩
          have NE_s2_n : Aside0 (w.heap.size ≠ g131) := ⟨by have := blk_lt T_n.out; omega⟩
          have NE_s2_m : Aside0 ((w.heap.size + 1) ≠ g131) := ⟨by have := blk_lt T_m.out; omega⟩
          have NE_s2_r : Aside0 ((w.heap.size + 2) ≠ g131) := ⟨by have := blk_lt T_r.out; omega⟩
          have NE_s2_g8 : Aside0 (g118 ≠ g131) := ⟨by have := blk_lt T_g8.out; omega⟩
          have NE_s2_s1 : Aside0 (g120 ≠ g131) := ⟨by have := blk_lt T_s1.out; omega⟩
          replace T_n := Aside0.mk ((hB.block _ (blk_lt T_n.out)).trans T_n.out)
          replace T_m := Aside0.mk ((hB.block _ (blk_lt T_m.out)).trans T_m.out)
          replace T_r := Aside0.mk ((hB.block _ (blk_lt T_r.out)).trans T_r.out)
          replace T_g8 := Aside0.mk ((hB.block _ (blk_lt T_g8.out)).trans T_g8.out)
          replace T_s1 := Aside0.mk ((hB.block _ (blk_lt T_s1.out)).trans T_s1.out)
          replace BB := Aside0.mk (BB.out.trans (hB.mono BB.out.size))
          replace SB := Aside0.mk (SB.out.trans (hB.mono SB.out.size))
          have T_s2 := Aside0.mk tn
          clear tn hB
          rw [← hw130]
          try rw [← hg131]
          clear hw130 hg131
          refine hK.out _ _ ?_ (fun hNew => ?_)
          · try dsimp only
            exact MK.out _ SB.out
          clear hK K hHeld hNew
          have hHeld := MK.out _ SB.out
          refine wpAnyH_ready (rs := [7]) (by kernel_rfl) (by simp) ?_
          refine (AllReadyH.cons rfl (fun K hK => ?_) AllReadyH.nil)
          have BBo := BB
          have CC := concat_p (some ⟨g120, 0, none⟩) 2 [l1, m1] w130 (rows2 T_s1.out (Kd.C_below HR1.out BB.out) Hl1.out (Kd.C_below HS1.out BB.out) Hm1.out) (Nat.le_refl _) (by have := HLEN.out; simp only [flat2, List.length_append]; omega) (by simp)
          go_simp
          refine (CC).mono ?_
          rintro e w132 ⟨v0, rfl, hR, hB⟩
          replace T_n := Aside0.mk ((hB.block _ (blk_lt T_n.out)).trans T_n.out)
          replace T_m := Aside0.mk ((hB.block _ (blk_lt T_m.out)).trans T_m.out)
          replace T_r := Aside0.mk ((hB.block _ (blk_lt T_r.out)).trans T_r.out)
          replace T_g8 := Aside0.mk ((hB.block _ (blk_lt T_g8.out)).trans T_g8.out)
          replace T_s1 := Aside0.mk ((hB.block _ (blk_lt T_s1.out)).trans T_s1.out)
          replace T_s2 := Aside0.mk ((hB.block _ (blk_lt T_s2.out)).trans T_s2.out)
          replace BB := Aside0.mk (BB.out.trans (hB.mono BB.out.size))
          replace SB := Aside0.mk (SB.out.trans (hB.mono SB.out.size))
          clear hB
          have hR' := Kd.R_lower hR BBo.out.size
          rw [flat2, PPE.out] at hR'
          obtain ⟨A133, c134, rfl⟩ := Kd.R_slice hR'
          have R_p := Aside0.mk hR'
          clear hR hR' BBo CC
          go_simp
          refine hK.out _ _ ?_ (fun hNew => ?_)
          · try dsimp only
            exact MK.out _ SB.out
          clear hK K hHeld hNew
          have hHeld := MK.out _ SB.out
          refine wpAnyH_ready (rs := [13]) (by kernel_rfl) (by simp) ?_
          refine (AllReadyH.cons rfl (fun K hK => ?_) AllReadyH.nil)
          have BBo := BB
          have CC := concat_i (some ⟨g131, 0, none⟩) 2 [l3, m3] w132 (rows2 T_s2.out (Kd.C_below HR3.out BB.out) Hl3.out (Kd.C_below HS3.out BB.out) Hm3.out) (Nat.le_refl _) (by have := HLEN.out; simp only [flat2, List.length_append]; omega) (by simp)
          go_simp
          refine (CC).mono ?_
          rintro e w135 ⟨v0, rfl, hR, hB⟩
          replace T_n := Aside0.mk ((hB.block _ (blk_lt T_n.out)).trans T_n.out)
          replace T_m := Aside0.mk ((hB.block _ (blk_lt T_m.out)).trans T_m.out)
          replace T_r := Aside0.mk ((hB.block _ (blk_lt T_r.out)).trans T_r.out)
          replace T_g8 := Aside0.mk ((hB.block _ (blk_lt T_g8.out)).trans T_g8.out)
          replace T_s1 := Aside0.mk ((hB.block _ (blk_lt T_s1.out)).trans T_s1.out)
          replace T_s2 := Aside0.mk ((hB.block _ (blk_lt T_s2.out)).trans T_s2.out)
          replace R_p := Aside0.mk (Kd.R_below R_p.out hB)
          replace BB := Aside0.mk (BB.out.trans (hB.mono BB.out.size))
          replace SB := Aside0.mk (SB.out.trans (hB.mono SB.out.size))
          clear hB
          have hR' := Kd.R_lower hR BBo.out.size
          rw [flat2, DDE.out] at hR'
          obtain ⟨A136, c137, rfl⟩ := Kd.R_slice hR'
          have R_d := Aside0.mk hR'
          clear hR hR' BBo CC
          go_simp
          refine hK.out _ _ ?_ (fun hNew => ?_)
          · try dsimp only
            exact MK.out _ SB.out
          clear hK K hHeld hNew
          have hHeld := MK.out _ SB.out
          refine sp_take 14 hHeld ?_
          refine wpAnyH_ready (rs := [16]) (by kernel_rfl) (by simp) ?_
          refine (AllReadyH.cons rfl (fun K hK => ?_) AllReadyH.nil)
          have c_g80 : w135.cell? ⟨g118, 0, none⟩ = some (.bool false) := blk_cell T_g8.out 0
          have f_g80 : w135.frozen? ⟨g118, 0, none⟩ = false := blk_frozen T_g8.out 0
          have c_g81 : w135.cell? ⟨g118, 1, none⟩ = some (.slice none 0 0) := blk_cell T_g8.out 1
          have f_g81 : w135.frozen? ⟨g118, 1, none⟩ = false := blk_frozen T_g8.out 1
          have c_g82 : w135.cell? ⟨g118, 2, none⟩ = some (.slice none 0 0) := blk_cell T_g8.out 2
          have f_g82 : w135.frozen? ⟨g118, 2, none⟩ = false := blk_frozen T_g8.out 2
          have c_g83 : w135.cell? ⟨g118, 3, none⟩ = some (.slice none 0 0) := blk_cell T_g8.out 3
          have f_g83 : w135.frozen? ⟨g118, 3, none⟩ = false := blk_frozen T_g8.out 3
          go_simp
          clear c_g80 f_g80 c_g81 f_g81 c_g82 f_g82 c_g83 f_g83
          have hg := nd_grown4 w135 (g118) (.bool false) (.slice A133 PP.length c134) (.slice none 0 0) (.slice A136 DD.length c137)
          have tn := nd_put4 w135 (g118) 31 _ _ _ _ (.bool false) (.slice A133 PP.length c134) (.slice none 0 0) (.slice A136 DD.length c137) T_g8.out
          obtain ⟨w138, hw138⟩ : ∃ x, x = ((((w135.setCell ⟨g118, 0, none⟩ (.bool false)).setCell ⟨g118, 1, none⟩ (.slice A133 PP.length c134)).setCell ⟨g118, 2, none⟩ (.slice none 0 0)).setCell ⟨g118, 3, none⟩ (.slice A136 DD.length c137)) := ⟨_, rfl⟩
          rw [← hw138] at hg tn
          rw [← hw138]
          clear hw138
          replace R_p := Aside0.mk (Kd.R_mono (Kd.R_step (Kd.R_types R_p.out T_g8.out (by decide)) (fun k hk hl => hg.block k hl (fun e => hk.2 (Option.some.inj e)))) (fun _ _ => trivial))
          replace R_d := Aside0.mk (Kd.R_mono (Kd.R_step (Kd.R_types R_d.out T_g8.out (by decide)) (fun k hk hl => hg.block k hl (fun e => hk.2 (Option.some.inj e)))) (fun _ _ => trivial))
          replace T_n := Aside0.mk ((hg.block _ (blk_lt T_n.out) (fun e => by have := Option.some.inj e; have := NE_g8_n.out; omega)).trans T_n.out)
          replace T_m := Aside0.mk ((hg.block _ (blk_lt T_m.out) (fun e => by have := Option.some.inj e; have := NE_g8_m.out; omega)).trans T_m.out)
          replace T_r := Aside0.mk ((hg.block _ (blk_lt T_r.out) (fun e => by have := Option.some.inj e; have := NE_g8_r.out; omega)).trans T_r.out)
          replace T_s1 := Aside0.mk ((hg.block _ (blk_lt T_s1.out) (fun e => by have := Option.some.inj e; have := NE_s1_g8.out; omega)).trans T_s1.out)
          replace T_s2 := Aside0.mk ((hg.block _ (blk_lt T_s2.out) (fun e => by have := Option.some.inj e; have := NE_s2_g8.out; omega)).trans T_s2.out)
          replace BB := Aside0.mk (nd_grown_below hg BB.out BB.out.size GBB_g8.out)
          replace SB := Aside0.mk (nd_grown_below hg SB.out SB.out.size GSB_g8.out)
          replace T_g8 := Aside0.mk tn
          clear tn hg
          refine hK.out _ _ ?_ (fun hNew => ?_)
          · try dsimp only
            exact MK.out _ SB.out
          clear hK K hHeld hNew
          have hHeld := MK.out _ SB.out
          refine wpAnyH_done (by kernel_rfl) ?_ _
          clear hHeld MK
          clear SB
          go_wp2_with fail
          go_meet
          exact ⟨_, _, _, _, _, rfl, T_g8, R_p, R_d, GBB_g8, NE_g8_n, NE_g8_m, NE_g8_r, T_n, T_m, T_r, BB⟩
      · go_simp
        obtain ⟨g140, hg140⟩ : ∃ n, n = w117.heap.size := ⟨_, rfl⟩
        obtain ⟨w139, hw139⟩ : ∃ x, x = w117.alloc (.cells #[.slice A3 l3.length c3, .slice B3 m3.length d3] 24) := ⟨_, rfl⟩
        have tn := heap_alloc_new w117 (.cells #[.slice A3 l3.length c3, .slice B3 m3.length d3] 24)
        have hB := below_alloc (Below.refl w117.heap.size w117) (.cells #[.slice A3 l3.length c3, .slice B3 m3.length d3] 24)
        rw [← hw139] at tn hB
        rw [← hg140] at tn
        have GBB_s2 : Aside0 (w.heap.size ≤ g140) := ⟨by rw [hg140]; exact BB.out.size⟩
        have GSB_s2 : Aside0 (w3.heap.size ≤ g140) := ⟨by rw [hg140]; exact SB.out.size⟩
        have NE_s2_n : Aside0 (w.heap.size ≠ g140) := ⟨by have := blk_lt T_n.out; omega⟩
        have NE_s2_m : Aside0 ((w.heap.size + 1) ≠ g140) := ⟨by have := blk_lt T_m.out; omega⟩
        have NE_s2_r : Aside0 ((w.heap.size + 2) ≠ g140) := ⟨by have := blk_lt T_r.out; omega⟩
        have NE_s2_g8 : Aside0 (g118 ≠ g140) := ⟨by have := blk_lt T_g8.out; omega⟩
        replace T_n := Aside0.mk ((hB.block _ (blk_lt T_n.out)).trans T_n.out)
        replace T_m := Aside0.mk ((hB.block _ (blk_lt T_m.out)).trans T_m.out)
        replace T_r := Aside0.mk ((hB.block _ (blk_lt T_r.out)).trans T_r.out)
        replace T_g8 := Aside0.mk ((hB.block _ (blk_lt T_g8.out)).trans T_g8.out)
        replace BB := Aside0.mk (BB.out.trans (hB.mono BB.out.size))
        replace SB := Aside0.mk (SB.out.trans (hB.mono SB.out.size))
        have T_s2 := Aside0.mk tn
        clear tn hB
        rw [← hw139]
        try rw [← hg140]
        clear hw139 hg140
        refine hK.out _ _ ?_ (fun hNew => ?_)
        · try dsimp only
          exact MK.out _ SB.out
        clear hK K hHeld hNew
        have hHeld := MK.out _ SB.out
        refine wpAnyH_ready (rs := [6]) (by kernel_rfl) (by simp) ?_
        refine (AllReadyH.cons rfl (fun K hK => ?_) AllReadyH.nil)
        go_simp
        obtain ⟨g142, hg142⟩ : ∃ n, n = w139.heap.size := ⟨_, rfl⟩
        obtain ⟨w141, hw141⟩ : ∃ x, x = w139.alloc (.cells #[.slice A1 l1.length c1, .slice B1 m1.length d1] 22) := ⟨_, rfl⟩
        have tn := heap_alloc_new w139 (.cells #[.slice A1 l1.length c1, .slice B1 m1.length d1] 22)
        have hB := below_alloc (Below.refl w139.heap.size w139) (.cells #[.slice A1 l1.length c1, .slice B1 m1.length d1] 22)
        rw [← hw141] at tn hB
        rw [← hg142] at tn
        have GBB_s1 : Aside0 (w.heap.size ≤ g142) := ⟨by rw [hg142]; exact BB.out.size⟩
        have GSB_s1 : Aside0 (w3.heap.size ≤ g142) := ⟨by rw [hg142]; exact SB.out.size⟩
        have NE_s1_n : Aside0 (w.heap.size ≠ g142) := ⟨by have := blk_lt T_n.out; omega⟩
        have NE_s1_m : Aside0 ((w.heap.size + 1) ≠ g142) := ⟨by have := blk_lt T_m.out; omega⟩
        have NE_s1_r : Aside0 ((w.heap.size + 2) ≠ g142) := ⟨by have := blk_lt T_r.out; omega⟩
        have NE_s1_g8 : Aside0 (g118 ≠ g142) := ⟨by have := blk_lt T_g8.out; omega⟩
        have NE_s1_s2 : Aside0 (g140 ≠ g142) := ⟨by have := blk_lt T_s2.out; omega⟩
        replace T_n := Aside0.mk ((hB.block _ (blk_lt T_n.out)).trans T_n.out)
        replace T_m := Aside0.mk ((hB.block _ (blk_lt T_m.out)).trans T_m.out)
        replace T_r := Aside0.mk ((hB.block _ (blk_lt T_r.out)).trans T_r.out)
        replace T_g8 := Aside0.mk ((hB.block _ (blk_lt T_g8.out)).trans T_g8.out)
        replace T_s2 := Aside0.mk ((hB.block _ (blk_lt T_s2.out)).trans T_s2.out)
        replace BB := Aside0.mk (BB.out.trans (hB.mono BB.out.size))
        replace SB := Aside0.mk (SB.out.trans (hB.mono SB.out.size))
        have T_s1 := Aside0.mk tn
        clear tn hB
        rw [← hw141]
        try rw [← hg142]
        clear hw141 hg142
        refine hK.out _ _ ?_ (fun hNew => ?_)
        · try dsimp only
          exact MK.out _ SB.out
        clear hK K hHeld hNew
        have hHeld := MK.out _ SB.out
        refine wpAnyH_ready (rs := [7]) (by kernel_rfl) (by simp) ?_
        refine (AllReadyH.cons rfl (fun K hK => ?_) AllReadyH.nil)
        have BBo := BB
        have CC := concat_p (some ⟨g142, 0, none⟩) 2 [l1, m1] w141 (rows2 T_s1.out (Kd.C_below HR1.out BB.out) Hl1.out (Kd.C_below HS1.out BB.out) Hm1.out) (Nat.le_refl _) (by have := HLEN.out; simp only [flat2, List.length_append]; omega) (by simp)
        go_simp
        refine (CC).mono ?_
        rintro e w143 ⟨v0, rfl, hR, hB⟩
        replace T_n := Aside0.mk ((hB.block _ (blk_lt T_n.out)).trans T_n.out)
        replace T_m := Aside0.mk ((hB.block _ (blk_lt T_m.out)).trans T_m.out)
        replace T_r := Aside0.mk ((hB.block _ (blk_lt T_r.out)).trans T_r.out)
        replace T_g8 := Aside0.mk ((hB.block _ (blk_lt T_g8.out)).trans T_g8.out)
        replace T_s2 := Aside0.mk ((hB.block _ (blk_lt T_s2.out)).trans T_s2.out)
        replace T_s1 := Aside0.mk ((hB.block _ (blk_lt T_s1.out)).trans T_s1.out)
        replace BB := Aside0.mk (BB.out.trans (hB.mono BB.out.size))
        replace SB := Aside0.mk (SB.out.trans (hB.mono SB.out.size))
        clear hB
        have hR' := Kd.R_lower hR BBo.out.size
        rw [flat2, PPE.out] at hR'
        obtain ⟨A144, c145, rfl⟩ := Kd.R_slice hR'
        have R_p := Aside0.mk hR'
        clear hR hR' BBo CC
        go_simp
        refine hK.out _ _ ?_ (fun hNew => ?_)
        · try dsimp only
          exact MK.out _ SB.out
        clear hK K hHeld hNew
        have hHeld := MK.out _ SB.out
        refine wpAnyH_ready (rs := [13]) (by kernel_rfl) (by simp) ?_
        refine (AllReadyH.cons rfl (fun K hK => ?_) AllReadyH.nil)
        have BBo := BB
        have CC := concat_i (some ⟨g140, 0, none⟩) 2 [l3, m3] w143 (rows2 T_s2.out (Kd.C_below HR3.out BB.out) Hl3.out (Kd.C_below HS3.out BB.out) Hm3.out) (Nat.le_refl _) (by have := HLEN.out; simp only [flat2, List.length_append]; omega) (by simp)
        go_simp
        refine (CC).mono ?_
        rintro e w146 ⟨v0, rfl, hR, hB⟩
        replace T_n := Aside0.mk ((hB.block _ (blk_lt T_n.out)).trans T_n.out)
        replace T_m := Aside0.mk ((hB.block _ (blk_lt T_m.out)).trans T_m.out)
        replace T_r := Aside0.mk ((hB.block _ (blk_lt T_r.out)).trans T_r.out)
        replace T_g8 := Aside0.mk ((hB.block _ (blk_lt T_g8.out)).trans T_g8.out)
        replace T_s2 := Aside0.mk ((hB.block _ (blk_lt T_s2.out)).trans T_s2.out)
        replace T_s1 := Aside0.mk ((hB.block _ (blk_lt T_s1.out)).trans T_s1.out)
        replace R_p := Aside0.mk (Kd.R_below R_p.out hB)
        replace BB := Aside0.mk (BB.out.trans (hB.mono BB.out.size))
        replace SB := Aside0.mk (SB.out.trans (hB.mono SB.out.size))
        clear hB
        have hR' := Kd.R_lower hR BBo.out.size
        rw [flat2, DDE.out] at hR'
        obtain ⟨A147, c148, rfl⟩ := Kd.R_slice hR'
        have R_d := Aside0.mk hR'
        clear hR hR' BBo CC
        go_simp
        refine hK.out _ _ ?_ (fun hNew => ?_)
        · try dsimp only
          exact MK.out _ SB.out
        clear hK K hHeld hNew
        have hHeld := MK.out _ SB.out
        refine sp_take 14 hHeld ?_
        refine wpAnyH_ready (rs := [16]) (by kernel_rfl) (by simp) ?_
        refine (AllReadyH.cons rfl (fun K hK => ?_) AllReadyH.nil)
        have c_g80 : w146.cell? ⟨g118, 0, none⟩ = some (.bool false) := blk_cell T_g8.out 0
        have f_g80 : w146.frozen? ⟨g118, 0, none⟩ = false := blk_frozen T_g8.out 0
        have c_g81 : w146.cell? ⟨g118, 1, none⟩ = some (.slice none 0 0) := blk_cell T_g8.out 1
        have f_g81 : w146.frozen? ⟨g118, 1, none⟩ = false := blk_frozen T_g8.out 1
        have c_g82 : w146.cell? ⟨g118, 2, none⟩ = some (.slice none 0 0) := blk_cell T_g8.out 2
        have f_g82 : w146.frozen? ⟨g118, 2, none⟩ = false := blk_frozen T_g8.out 2
        have c_g83 : w146.cell? ⟨g118, 3, none⟩ = some (.slice none 0 0) := blk_cell T_g8.out 3
        have f_g83 : w146.frozen? ⟨g118, 3, none⟩ = false := blk_frozen T_g8.out 3
        go_simp
        clear c_g80 f_g80 c_g81 f_g81 c_g82 f_g82 c_g83 f_g83
        have hg := nd_grown4 w146 (g118) (.bool false) (.slice A144 PP.length c145) (.slice none 0 0) (.slice A147 DD.length c148)
        have tn := nd_put4 w146 (g118) 31 _ _ _ _ (.bool false) (.slice A144 PP.length c145) (.slice none 0 0) (.slice A147 DD.length c148) T_g8.out
        obtain ⟨w149, hw149⟩ : ∃ x, x = ((((w146.setCell ⟨g118, 0, none⟩ (.bool false)).setCell ⟨g118, 1, none⟩ (.slice A144 PP.length c145)).setCell ⟨g118, 2, none⟩ (.slice none 0 0)).setCell ⟨g118, 3, none⟩ (.slice A147 DD.length c148)) := ⟨_, rfl⟩
        rw [← hw149] at hg tn
        rw [← hw149]
        clear hw149
        replace R_p := Aside0.mk (Kd.R_mono (Kd.R_step (Kd.R_types R_p.out T_g8.out (by decide)) (fun k hk hl => hg.block k hl (fun e => hk.2 (Option.some.inj e)))) (fun _ _ => trivial))
        replace R_d := Aside0.mk (Kd.R_mono (Kd.R_step (Kd.R_types R_d.out T_g8.out (by decide)) (fun k hk hl => hg.block k hl (fun e => hk.2 (Option.some.inj e)))) (fun _ _ => trivial))
        replace T_n := Aside0.mk ((hg.block _ (blk_lt T_n.out) (fun e => by have := Option.some.inj e; have := NE_g8_n.out; omega)).trans T_n.out)
        replace T_m := Aside0.mk ((hg.block _ (blk_lt T_m.out) (fun e => by have := Option.some.inj e; have := NE_g8_m.out; omega)).trans T_m.out)
        replace T_r := Aside0.mk ((hg.block _ (blk_lt T_r.out) (fun e => by have := Option.some.inj e; have := NE_g8_r.out; omega)).trans T_r.out)
        replace T_s2 := Aside0.mk ((hg.block _ (blk_lt T_s2.out) (fun e => by have := Option.some.inj e; have := NE_s2_g8.out; omega)).trans T_s2.out)
        replace T_s1 := Aside0.mk ((hg.block _ (blk_lt T_s1.out) (fun e => by have := Option.some.inj e; have := NE_s1_g8.out; omega)).trans T_s1.out)
        replace BB := Aside0.mk (nd_grown_below hg BB.out BB.out.size GBB_g8.out)
        replace SB := Aside0.mk (nd_grown_below hg SB.out SB.out.size GSB_g8.out)
        replace T_g8 := Aside0.mk tn
        clear tn hg
        refine hK.out _ _ ?_ (fun hNew => ?_)
        · try dsimp only
          exact MK.out _ SB.out
        clear hK K hHeld hNew
        have hHeld := MK.out _ SB.out
        refine wpAnyH_done (by kernel_rfl) ?_ _
        clear hHeld MK
        clear SB
        go_wp2_with fail
        go_meet
        exact ⟨_, _, _, _, _, rfl, T_g8, R_p, R_d, GBB_g8, NE_g8_n, NE_g8_m, NE_g8_r, T_n, T_m, T_r, BB⟩
  case rest =>
    clear c_n0 c_n1 c_n2 c_n3 c_m0 c_m1 c_m2 c_m3
    clear T_n T_m T_r BB
    obtain ⟨g150, A151, c152, A153, c154, rfl, T_g8, R_p, R_d, GBB_g8, NE_g8_n, NE_g8_m, NE_g8_r, T_n, T_m, T_r, BB⟩ := hcut
    obtain ⟨w155, hw155⟩ : ∃ x, x = wc := ⟨_, rfl⟩
    subst hw155
    have c_n0 : w155.cell? ⟨w.heap.size, 0, none⟩ = some (.bool false) := blk_cell T_n.out 0
    have c_n1 : w155.cell? ⟨w.heap.size, 1, none⟩ = some (.slice A1 l1.length c1) := blk_cell T_n.out 1
    have c_n2 : w155.cell? ⟨w.heap.size, 2, none⟩ = some (.slice A2 l2.length c2) := blk_cell T_n.out 2
    have c_n3 : w155.cell? ⟨w.heap.size, 3, none⟩ = some (.slice A3 l3.length c3) := blk_cell T_n.out 3
    have c_m0 : w155.cell? ⟨(w.heap.size + 1), 0, none⟩ = some (.bool false) := blk_cell T_m.out 0
    have c_m1 : w155.cell? ⟨(w.heap.size + 1), 1, none⟩ = some (.slice B1 m1.length d1) := blk_cell T_m.out 1
    have c_m2 : w155.cell? ⟨(w.heap.size + 1), 2, none⟩ = some (.slice B2 m2.length d2) := blk_cell T_m.out 2
    have c_m3 : w155.cell? ⟨(w.heap.size + 1), 3, none⟩ = some (.slice B3 m3.length d3) := blk_cell T_m.out 3
    have c_g80 : w155.cell? ⟨g150, 0, none⟩ = some (.bool false) := blk_cell T_g8.out 0
    have f_g80 : w155.frozen? ⟨g150, 0, none⟩ = false := blk_frozen T_g8.out 0
    have c_g81 : w155.cell? ⟨g150, 1, none⟩ = some (.slice A151 PP.length c152) := blk_cell T_g8.out 1
    have f_g81 : w155.frozen? ⟨g150, 1, none⟩ = false := blk_frozen T_g8.out 1
    have c_g82 : w155.cell? ⟨g150, 2, none⟩ = some (.slice none 0 0) := blk_cell T_g8.out 2
    have f_g82 : w155.frozen? ⟨g150, 2, none⟩ = false := blk_frozen T_g8.out 2
    have c_g83 : w155.cell? ⟨g150, 3, none⟩ = some (.slice A153 DD.length c154) := blk_cell T_g8.out 3
    have f_g83 : w155.frozen? ⟨g150, 3, none⟩ = false := blk_frozen T_g8.out 3
    have c_m2x : (w155.alloc (.cells #[.string k] 9)).cell? ⟨(w.heap.size + 1), 2, none⟩ = some (.slice B2 m2.length d2) := nd_cell (below_alloc (Below.refl _ _) _) c_m2
    go_wp2_with fail
    clear c_n0 c_n1 c_n2 c_n3 c_m0 c_m1 c_m2 c_m3
    clear c_g80 f_g80 c_g81 f_g81 c_g82 f_g82 c_g83 f_g83
    clear c_m2x
    obtain ⟨wq1, hwq1⟩ : ∃ x, x = w155.alloc (.cells #[.string k] 9) := ⟨_, rfl⟩
    have tn1 := heap_alloc_new w155 (.cells #[.string k] 9)
    have hB1 := below_alloc (Below.refl w155.heap.size w155) (.cells #[.string k] 9)
    have sz1 : wq1.heap.size = w155.heap.size + 1 := by rw [hwq1]; simp
    rw [← hwq1] at tn1 hB1 ⊢
    obtain ⟨wq2, hwq2⟩ : ∃ x, x = wq1.alloc (.cells #[.slice A2 l2.length c2, .slice (some ⟨w155.heap.size, 0, none⟩) 1 1, .slice B2 m2.length d2] 23) := ⟨_, rfl⟩
    have tn2 := heap_alloc_new wq1 (.cells #[.slice A2 l2.length c2, .slice (some ⟨w155.heap.size, 0, none⟩) 1 1, .slice B2 m2.length d2] 23)
    rw [sz1] at tn2
    have hB2 := below_alloc (Below.refl wq1.heap.size wq1) (.cells #[.slice A2 l2.length c2, .slice (some ⟨w155.heap.size, 0, none⟩) 1 1, .slice B2 m2.length d2] 23)
    rw [← hwq2] at tn2 hB2 ⊢
    have hB : Below w155.heap.size w155 wq2 := hB1.trans (hB2.mono hB1.size)
    have tn1' := (hB2.block _ (blk_lt tn1)).trans tn1
    replace T_n := Aside0.mk ((hB.block _ (blk_lt T_n.out)).trans T_n.out)
    replace T_m := Aside0.mk ((hB.block _ (blk_lt T_m.out)).trans T_m.out)
    replace T_r := Aside0.mk ((hB.block _ (blk_lt T_r.out)).trans T_r.out)
    replace T_g8 := Aside0.mk ((hB.block _ (blk_lt T_g8.out)).trans T_g8.out)
    replace R_p := Aside0.mk (Kd.R_below R_p.out hB)
    replace R_d := Aside0.mk (Kd.R_below R_d.out hB)
    replace BB := Aside0.mk (BB.out.trans (hB.mono BB.out.size))
    have BBo := BB
    have CC := concat_s (some ⟨w155.heap.size + 1, 0, none⟩) 3 [l2, [k], m2] wq2 (rows3 (P := l2) (Q := [k]) (R := m2) tn2 (Kd.C_below HR2.out BB.out) Hl2.out (row1s tn1') (Nat.le_refl _) (Kd.C_below HS2.out BB.out) Hm2.out) (Nat.le_refl _) (by have := HLEN.out; simp only [flat3, List.length_append, List.length_singleton]; omega) (by simp)
    clear tn1 tn1' tn2 hB1 hB2 hB sz1 hwq1 hwq2
    refine (CC).mono ?_
    rintro e w156 ⟨v0, rfl, hR, hB⟩
    replace T_n := Aside0.mk ((hB.block _ (blk_lt T_n.out)).trans T_n.out)
    replace T_m := Aside0.mk ((hB.block _ (blk_lt T_m.out)).trans T_m.out)
    replace T_r := Aside0.mk ((hB.block _ (blk_lt T_r.out)).trans T_r.out)
    replace T_g8 := Aside0.mk ((hB.block _ (blk_lt T_g8.out)).trans T_g8.out)
    replace R_p := Aside0.mk (Kd.R_below R_p.out hB)
    replace R_d := Aside0.mk (Kd.R_below R_d.out hB)
    replace BB := Aside0.mk (BB.out.trans (hB.mono BB.out.size))
    clear hB
    have hR' := Kd.R_lower hR BBo.out.size
    rw [flat3, NNE.out] at hR'
    obtain ⟨A157, c158, rfl⟩ := Kd.R_slice hR'
    have R_k := Aside0.mk hR'
    clear hR hR' BBo CC
    have c_g80 : w156.cell? ⟨g150, 0, none⟩ = some (.bool false) := blk_cell T_g8.out 0
    have f_g80 : w156.frozen? ⟨g150, 0, none⟩ = false := blk_frozen T_g8.out 0
    have c_g81 : w156.cell? ⟨g150, 1, none⟩ = some (.slice A151 PP.length c152) := blk_cell T_g8.out 1
    have f_g81 : w156.frozen? ⟨g150, 1, none⟩ = false := blk_frozen T_g8.out 1
    have c_g82 : w156.cell? ⟨g150, 2, none⟩ = some (.slice none 0 0) := blk_cell T_g8.out 2
    have f_g82 : w156.frozen? ⟨g150, 2, none⟩ = false := blk_frozen T_g8.out 2
    have c_g83 : w156.cell? ⟨g150, 3, none⟩ = some (.slice A153 DD.length c154) := blk_cell T_g8.out 3
    have f_g83 : w156.frozen? ⟨g150, 3, none⟩ = false := blk_frozen T_g8.out 3
    go_upto_region 6 with fail
    clear c_g80 f_g80 c_g81 f_g81 c_g82 f_g82 c_g83 f_g83
    have hg : w156.grownBy (w156.setCell ⟨g150, 2, none⟩ (.slice A157 NN.length c158)) (some g150) := grown_setCells g150 [.slice A157 NN.length c158] 2 w156 w156 ⟨rfl, rfl, rfl, Nat.le_refl _, fun _ _ _ => rfl⟩
    have tn := heap_setCell_same w156 g150 2 _ 31 (.slice A157 NN.length c158) T_g8.out
    obtain ⟨w159, hw159⟩ : ∃ x, x = w156.setCell ⟨g150, 2, none⟩ (.slice A157 NN.length c158) := ⟨_, rfl⟩
    rw [← hw159] at hg tn
    rw [← hw159]
    clear hw159
    replace R_p := Aside0.mk (Kd.R_mono (Kd.R_step (Kd.R_types R_p.out T_g8.out (by decide)) (fun k hk hl => hg.block k hl (fun e => hk.2 (Option.some.inj e)))) (fun _ _ => trivial))
    replace R_d := Aside0.mk (Kd.R_mono (Kd.R_step (Kd.R_types R_d.out T_g8.out (by decide)) (fun k hk hl => hg.block k hl (fun e => hk.2 (Option.some.inj e)))) (fun _ _ => trivial))
    replace R_k := Aside0.mk (Kd.R_mono (Kd.R_step (Kd.R_types R_k.out T_g8.out (by decide)) (fun k hk hl => hg.block k hl (fun e => hk.2 (Option.some.inj e)))) (fun _ _ => trivial))
    replace T_n := Aside0.mk ((hg.block _ (blk_lt T_n.out) (fun e => by have := Option.some.inj e; have := NE_g8_n.out; omega)).trans T_n.out)
    replace T_m := Aside0.mk ((hg.block _ (blk_lt T_m.out) (fun e => by have := Option.some.inj e; have := NE_g8_m.out; omega)).trans T_m.out)
    replace T_r := Aside0.mk ((hg.block _ (blk_lt T_r.out) (fun e => by have := Option.some.inj e; have := NE_g8_r.out; omega)).trans T_r.out)
    replace BB := Aside0.mk (nd_grown_below hg BB.out BB.out.size GBB_g8.out)
    replace T_g8 := Aside0.mk (show w159.heap[g150]? = some (.cells #[.bool false, .slice A151 PP.length c152, .slice A157 NN.length c158, .slice A153 DD.length c154] 31 (0, 0)) from tn)
    clear tn hg
    have c_g80 : w159.cell? ⟨g150, 0, none⟩ = some (.bool false) := blk_cell T_g8.out 0
    have c_g81 : w159.cell? ⟨g150, 1, none⟩ = some (.slice A151 PP.length c152) := blk_cell T_g8.out 1
    have c_g82 : w159.cell? ⟨g150, 2, none⟩ = some (.slice A157 NN.length c158) := blk_cell T_g8.out 2
    have c_g83 : w159.cell? ⟨g150, 3, none⟩ = some (.slice A153 DD.length c154) := blk_cell T_g8.out 3
    go_wp2_with fail
    have CC := node_Check.calls false A151 c152 PP A157 c158 NN A153 c154 DD v w159 (Kd.R_reads' R_p.out).2.2 (Kd.R_reads' R_p.out).2.1 (Kd.R_reads' R_k.out).2.2 (Kd.R_reads' R_k.out).2.1 (Kd.R_reads' R_d.out).2.2 (Kd.R_reads' R_d.out).2.1 HCV.out
    refine (CC).mono ?_
    rintro e w160 ⟨rfl, hB⟩
    replace T_n := Aside0.mk ((hB.block _ (blk_lt T_n.out)).trans T_n.out)
    replace T_m := Aside0.mk ((hB.block _ (blk_lt T_m.out)).trans T_m.out)
    replace T_r := Aside0.mk ((hB.block _ (blk_lt T_r.out)).trans T_r.out)
    replace T_g8 := Aside0.mk ((hB.block _ (blk_lt T_g8.out)).trans T_g8.out)
    replace R_p := Aside0.mk (Kd.R_below R_p.out hB)
    replace R_d := Aside0.mk (Kd.R_below R_d.out hB)
    replace R_k := Aside0.mk (Kd.R_below R_k.out hB)
    replace BB := Aside0.mk (BB.out.trans (hB.mono BB.out.size))
    clear hB
    clear c_g80 c_g81 c_g82 c_g83
    clear CC
    rcases HV.out with ⟨rfl, HE⟩ | ⟨rfl, HE⟩
    · have HE := Aside0.mk HE
      obtain ⟨rfl, rfl, rfl, rfl, rfl⟩ := HE.out
      have c_g80 : w160.cell? ⟨g150, 0, none⟩ = some (.bool false) := blk_cell T_g8.out 0
      have c_g81 : w160.cell? ⟨g150, 1, none⟩ = some (.slice A151 PP.length c152) := blk_cell T_g8.out 1
      have c_g82 : w160.cell? ⟨g150, 2, none⟩ = some (.slice A157 NN.length c158) := blk_cell T_g8.out 2
      have c_g83 : w160.cell? ⟨g150, 3, none⟩ = some (.slice A153 DD.length c154) := blk_cell T_g8.out 3
      have c_r0 : w160.cell? ⟨(w.heap.size + 2), 0, none⟩ = some (.bool false) := blk_cell T_r.out 0
      have f_r0 : w160.frozen? ⟨(w.heap.size + 2), 0, none⟩ = false := blk_frozen T_r.out 0
      have c_r1 : w160.cell? ⟨(w.heap.size + 2), 1, none⟩ = some (.slice none 0 0) := blk_cell T_r.out 1
      have f_r1 : w160.frozen? ⟨(w.heap.size + 2), 1, none⟩ = false := blk_frozen T_r.out 1
      have c_r2 : w160.cell? ⟨(w.heap.size + 2), 2, none⟩ = some (.slice none 0 0) := blk_cell T_r.out 2
      have f_r2 : w160.frozen? ⟨(w.heap.size + 2), 2, none⟩ = false := blk_frozen T_r.out 2
      have c_r3 : w160.cell? ⟨(w.heap.size + 2), 3, none⟩ = some (.slice none 0 0) := blk_cell T_r.out 3
      have f_r3 : w160.frozen? ⟨(w.heap.size + 2), 3, none⟩ = false := blk_frozen T_r.out 3
      go_wp2_with fail
      clear c_r0 f_r0 c_r1 f_r1 c_r2 f_r2 c_r3 f_r3
      have hg := nd_grown4 w160 (w.heap.size + 2) (.bool false) (.slice A151 PP.length c152) (.slice A157 NN.length c158) (.slice A153 DD.length c154)
      have tn := nd_put4 w160 (w.heap.size + 2) 31 _ _ _ _ (.bool false) (.slice A151 PP.length c152) (.slice A157 NN.length c158) (.slice A153 DD.length c154) T_r.out
      obtain ⟨w161, hw161⟩ : ∃ x, x = ((((w160.setCell ⟨(w.heap.size + 2), 0, none⟩ (.bool false)).setCell ⟨(w.heap.size + 2), 1, none⟩ (.slice A151 PP.length c152)).setCell ⟨(w.heap.size + 2), 2, none⟩ (.slice A157 NN.length c158)).setCell ⟨(w.heap.size + 2), 3, none⟩ (.slice A153 DD.length c154)) := ⟨_, rfl⟩
      rw [← hw161] at hg tn
      rw [← hw161]
      clear hw161
      replace R_p := Aside0.mk (Kd.R_mono (Kd.R_step (Kd.R_types R_p.out T_r.out (by decide)) (fun k hk hl => hg.block k hl (fun e => hk.2 (Option.some.inj e)))) (fun _ _ => trivial))
      replace R_d := Aside0.mk (Kd.R_mono (Kd.R_step (Kd.R_types R_d.out T_r.out (by decide)) (fun k hk hl => hg.block k hl (fun e => hk.2 (Option.some.inj e)))) (fun _ _ => trivial))
      replace R_k := Aside0.mk (Kd.R_mono (Kd.R_step (Kd.R_types R_k.out T_r.out (by decide)) (fun k hk hl => hg.block k hl (fun e => hk.2 (Option.some.inj e)))) (fun _ _ => trivial))
      replace T_n := Aside0.mk ((hg.block _ (blk_lt T_n.out) (fun e => by have := Option.some.inj e; have := trivial; omega)).trans T_n.out)
      replace T_m := Aside0.mk ((hg.block _ (blk_lt T_m.out) (fun e => by have := Option.some.inj e; have := trivial; omega)).trans T_m.out)
      replace T_g8 := Aside0.mk ((hg.block _ (blk_lt T_g8.out) (fun e => by have := Option.some.inj e; have := NE_g8_r.out; omega)).trans T_g8.out)
      replace BB := Aside0.mk (nd_grown_below hg BB.out BB.out.size (by omega))
      replace T_r := Aside0.mk tn
      clear tn hg
      refine bodyPost_ret (results_ct rfl _ _ (w.heap.size + 2) 31 #[.bool false, .slice A151 PP.length c152, .slice A157 NN.length c158, .slice A153 DD.length c154] (0, 0) _ rfl T_r.out Try.underlying31 rfl (by kernel_rfl)) rfl ?_
      exact ⟨_, _, _, rfl, R_p.out, R_k.out, R_d.out, BB.out⟩
    · have HE := Aside0.mk HE
      obtain ⟨rfl, rfl, rfl, rfl, rfl⟩ := HE.out
      have c_r0 : w160.cell? ⟨(w.heap.size + 2), 0, none⟩ = some (.bool false) := blk_cell T_r.out 0
      have f_r0 : w160.frozen? ⟨(w.heap.size + 2), 0, none⟩ = false := blk_frozen T_r.out 0
      have c_r1 : w160.cell? ⟨(w.heap.size + 2), 1, none⟩ = some (.slice none 0 0) := blk_cell T_r.out 1
      have f_r1 : w160.frozen? ⟨(w.heap.size + 2), 1, none⟩ = false := blk_frozen T_r.out 1
      have c_r2 : w160.cell? ⟨(w.heap.size + 2), 2, none⟩ = some (.slice none 0 0) := blk_cell T_r.out 2
      have f_r2 : w160.frozen? ⟨(w.heap.size + 2), 2, none⟩ = false := blk_frozen T_r.out 2
      have c_r3 : w160.cell? ⟨(w.heap.size + 2), 3, none⟩ = some (.slice none 0 0) := blk_cell T_r.out 3
      have f_r3 : w160.frozen? ⟨(w.heap.size + 2), 3, none⟩ = false := blk_frozen T_r.out 3
      go_wp2_with fail
      clear c_r0 f_r0 c_r1 f_r1 c_r2 f_r2 c_r3 f_r3
      have hg := nd_grown4 w160 (w.heap.size + 2) (.bool false) (.slice none 0 0) (.slice none 0 0) (.slice none 0 0)
      have tn := nd_put4 w160 (w.heap.size + 2) 31 _ _ _ _ (.bool false) (.slice none 0 0) (.slice none 0 0) (.slice none 0 0) T_r.out
      obtain ⟨w162, hw162⟩ : ∃ x, x = ((((w160.setCell ⟨(w.heap.size + 2), 0, none⟩ (.bool false)).setCell ⟨(w.heap.size + 2), 1, none⟩ (.slice none 0 0)).setCell ⟨(w.heap.size + 2), 2, none⟩ (.slice none 0 0)).setCell ⟨(w.heap.size + 2), 3, none⟩ (.slice none 0 0)) := ⟨_, rfl⟩
      rw [← hw162] at hg tn
      rw [← hw162]
      clear hw162
      replace R_p := Aside0.mk (Kd.R_mono (Kd.R_step (Kd.R_types R_p.out T_r.out (by decide)) (fun k hk hl => hg.block k hl (fun e => hk.2 (Option.some.inj e)))) (fun _ _ => trivial))
      replace R_d := Aside0.mk (Kd.R_mono (Kd.R_step (Kd.R_types R_d.out T_r.out (by decide)) (fun k hk hl => hg.block k hl (fun e => hk.2 (Option.some.inj e)))) (fun _ _ => trivial))
      replace R_k := Aside0.mk (Kd.R_mono (Kd.R_step (Kd.R_types R_k.out T_r.out (by decide)) (fun k hk hl => hg.block k hl (fun e => hk.2 (Option.some.inj e)))) (fun _ _ => trivial))
      replace T_n := Aside0.mk ((hg.block _ (blk_lt T_n.out) (fun e => by have := Option.some.inj e; have := trivial; omega)).trans T_n.out)
      replace T_m := Aside0.mk ((hg.block _ (blk_lt T_m.out) (fun e => by have := Option.some.inj e; have := trivial; omega)).trans T_m.out)
      replace T_g8 := Aside0.mk ((hg.block _ (blk_lt T_g8.out) (fun e => by have := Option.some.inj e; have := NE_g8_r.out; omega)).trans T_g8.out)
      replace BB := Aside0.mk (nd_grown_below hg BB.out BB.out.size (by omega))
      replace T_r := Aside0.mk tn
      clear tn hg
      refine bodyPost_ret (results_ct rfl _ _ (w.heap.size + 2) 31 #[.bool false, .slice none 0 0, .slice none 0 0, .slice none 0 0] (0, 0) _ rfl T_r.out Try.underlying31 rfl (by kernel_rfl)) rfl ?_
      exact ⟨_, _, _, rfl, Kd.R_nil _ _ _ _ _, Kd.R_nil _ _ _ _ _, Kd.R_nil _ _ _ _ _, BB.out⟩
def node_Merge.f (a : Bool) (l1 : List S48) (l2 : List ByteArray) (l3 : List Int) (k : ByteArray) (b : Bool) (m1 : List S48) (m2 : List ByteArray) (m3 : List Int) : Option MgR := some (mergeV a l1 l2 l3 k b m1 m2 m3)
theorem node_Merge.calls (a : Bool) (A1 : Option Addr) (c1 : Nat) (l1 : List S48) (A2 : Option Addr) (c2 : Nat) (l2 : List ByteArray) (A3 : Option Addr) (c3 : Nat) (l3 : List Int) (k : ByteArray) (b : Bool) (B1 : Option Addr) (d1 : Nat) (m1 : List S48) (B2 : Option Addr) (d2 : Nat) (m2 : List ByteArray) (B3 : Option Addr) (d3 : Nat) (m3 : List Int) (r1 : Bool) (r2 : List S48) (r3 : List ByteArray) (r4 : List Int) (re : Int) (w : World) (hr1 : Kd.C k48 w A1 l1.length l1) (hc1 : l1.length ≤ c1) (hr2 : Kd.C Kd.string w A2 l2.length l2) (hc2 : l2.length ≤ c2) (hr3 : Kd.C (Kd.int .i64) w A3 l3.length l3) (hc3 : l3.length ≤ c3) (hs1 : Kd.C k48 w B1 m1.length m1) (hd1 : m1.length ≤ d1) (hs2 : Kd.C Kd.string w B2 m2.length m2) (hd2 : m2.length ≤ d2) (hs3 : Kd.C (Kd.int .i64) w B3 m3.length m3) (hd3 : m3.length ≤ d3) (h : node_Merge.f a l1 l2 l3 k b m1 m2 m3 = some (r1, r2, r3, r4, re)) :
    Calls Try.prog 22 #[.agg #[.bool a, .slice A1 l1.length c1, .slice A2 l2.length c2, .slice A3 l3.length c3], .string k, .agg #[.bool b, .slice B1 m1.length d1, .slice B2 m2.length d2, .slice B3 m3.length d3]] w fun e w' => ∃ v1_ v2_ v3_ : Value, e = .returned (.tuple #[.agg #[.bool r1, v1_, v2_, v3_], .int .i64 re]) ∧ Kd.R k48 48 w' w.heap.size (fun _ => True) v1_ r2 ∧ Kd.R Kd.string 9 w' w.heap.size (fun _ => True) v2_ r3 ∧ Kd.R (Kd.int .i64) 3 w' w.heap.size (fun _ => True) v3_ r4 ∧ Below w.heap.size w w' := by
  replace h := Option.some.inj h
  unfold mergeV at h
  by_cases hfa : (leafV a l1 l2 l3 || innerV a l1 l2 l3) = true
  · by_cases hfb : (leafV b m1 m2 m3 || innerV b m1 m2 m3) = true
    · by_cases hab : a = b
      · subst hab
        cases hk : keyB k
        · rw [if_neg (fun x => by have := x.2.2.2.1; rw [hk] at this; cases this)] at h
          cases h
          cases a
          · exact merge_bad4_false A1 c1 l1 A2 c2 l2 A3 c3 l3 k B1 d1 m1 B2 d2 m2 B3 d3 m3 w hr1 hc1 hr2 hc2 hr3 hc3 hs1 hd1 hs2 hd2 hs3 hd3 hfa hfb hk
          · exact merge_bad4_true A1 c1 l1 A2 c2 l2 A3 c3 l3 k B1 d1 m1 B2 d2 m2 B3 d3 m3 w hr1 hc1 hr2 hc2 hr3 hc3 hs1 hd1 hs2 hd2 hs3 hd3 hfa hfb hk
        · cases a
          · exact merge_inner A1 c1 l1 A2 c2 l2 A3 c3 l3 k B1 d1 m1 B2 d2 m2 B3 d3 m3 r1 r2 r3 r4 re w hr1 hc1 hr2 hc2 hr3 hc3 hs1 hd1 hs2 hd2 hs3 hd3 hfa hfb hk (by
          by_cases hv : (leafV false (l1 ++ m1) (l2 ++ ([k] ++ m2)) (l3 ++ m3) || innerV false (l1 ++ m1) (l2 ++ ([k] ++ m2)) (l3 ++ m3)) = true
          · rw [if_pos hv]
            rw [if_pos ⟨hfa, hfb, rfl, hk, hv⟩] at h
            exact h
          · rw [if_neg hv]
            rw [if_neg (fun x => hv x.2.2.2.2)] at h
            exact h)
          · exact merge_leaf A1 c1 l1 A2 c2 l2 A3 c3 l3 k B1 d1 m1 B2 d2 m2 B3 d3 m3 r1 r2 r3 r4 re w hr1 hc1 hr2 hc2 hr3 hc3 hs1 hd1 hs2 hd2 hs3 hd3 hfa hfb hk (by
          by_cases hv : (leafV true (l1 ++ m1) ([] : List ByteArray) (l3 ++ m3) || innerV true (l1 ++ m1) ([] : List ByteArray) (l3 ++ m3)) = true
          · rw [if_pos hv]
            rw [if_pos ⟨hfa, hfb, rfl, hk, hv⟩] at h
            exact h
          · rw [if_neg hv]
            rw [if_neg (fun x => hv x.2.2.2.2)] at h
            exact h)
      · rw [if_neg (fun x => hab x.2.2.1)] at h
        cases h
        cases a <;> cases b
        · exact absurd rfl hab
        · exact merge_bad3_false A1 c1 l1 A2 c2 l2 A3 c3 l3 k B1 d1 m1 B2 d2 m2 B3 d3 m3 w hr1 hc1 hr2 hc2 hr3 hc3 hs1 hd1 hs2 hd2 hs3 hd3 hfa hfb
        · exact merge_bad3_true A1 c1 l1 A2 c2 l2 A3 c3 l3 k B1 d1 m1 B2 d2 m2 B3 d3 m3 w hr1 hc1 hr2 hc2 hr3 hc3 hs1 hd1 hs2 hd2 hs3 hd3 hfa hfb
        · exact absurd rfl hab
    · rw [if_neg (fun x => hfb x.2.1)] at h
      cases h
      exact merge_bad2 a A1 c1 l1 A2 c2 l2 A3 c3 l3 k b B1 d1 m1 B2 d2 m2 B3 d3 m3 w hr1 hc1 hr2 hc2 hr3 hc3 hs1 hd1 hs2 hd2 hs3 hd3 hfa hfb
  · rw [if_neg (fun x => hfa x.1)] at h
    cases h
    exact merge_bad1 a A1 c1 l1 A2 c2 l2 A3 c3 l3 k b B1 d1 m1 B2 d2 m2 B3 d3 m3 w hr1 hc1 hr2 hc2 hr3 hc3 hs1 hd1 hs2 hd2 hs3 hd3 hfa
end
end Go.Proofs.Ytjjfeoigjhbbpaa.PA
namespace Go.Proofs.Ytjjfeoigjhbbpaa.PA
section

open Go.RowKit Go.Proofs.YtjjfeoigjhbbpaaW.PrintWords Go.Proofs.YtjjfeoigjhbbpaaW.PrintLast Go.Proofs.YtjjfeoigjhbbpaaW.PrintMore
attribute [local go_sem] pr_leq pr_geq pr_gtr max2_int min2_int max_two min_two max_three min_three max_four min_four
set_option linter.unusedVariables false
set_option linter.unusedSimpArgs false
def kl (a b : ByteArray) : Prop := Op.bytesLess a.toList b.toList = true
instance (a b : ByteArray) : Decidable (kl a b) := inferInstanceAs (Decidable (_ = true))
end
end Go.Proofs.Ytjjfeoigjhbbpaa.PA
namespace Go.Proofs.Ytjjfeoigjhbbpaa.PA
section

open Go.RowKit Go.Proofs.YtjjfeoigjhbbpaaW.PrintWords Go.Proofs.YtjjfeoigjhbbpaaW.PrintLast Go.Proofs.YtjjfeoigjhbbpaaW.PrintMore
attribute [local go_sem] pr_leq pr_geq pr_gtr max2_int min2_int max_two min_two max_three min_three max_four min_four
set_option linter.unusedVariables false
set_option linter.unusedSimpArgs false
def node_Put.v (a0_0 : Bool) (l0_1 : List (S48)) (l0_2 : List ByteArray) (l0_3 : List Int) (a1_0 : ByteArray) (a1_1 : ByteArray) : Bool × List S48 × List ByteArray × List Int × Int := if leafV a0_0 l0_1 l0_2 l0_3 = true ∧ keyB a1_0 = true ∧ a1_1.size ≤ 48 then (if isP l0_1 a1_0 = true then (true, l0_1.set (atP l0_1 a1_0) ⟨a1_0, a1_1⟩, [], [], 0) else if l0_1.length = 255 then (false, [], [], [], 2) else (true, l0_1.take (atP l0_1 a1_0) ++ (⟨a1_0, a1_1⟩ : S48) :: l0_1.drop (atP l0_1 a1_0), [], [], 0)) else (false, [], [], [], 2)
def node_Put.f (a0_0 : Bool) (l0_1 : List (S48)) (l0_2 : List ByteArray) (l0_3 : List Int) (a1_0 : ByteArray) (a1_1 : ByteArray) : Option (Bool × List S48 × List ByteArray × List Int × Int) := some (node_Put.v a0_0 l0_1 l0_2 l0_3 a1_0 a1_1)
set_option maxHeartbeats 4000000 in
set_option maxRecDepth 100000 in
theorem node_Put.calls (a0_0 : Bool) (A0_1 : Option Addr) (c0_1 : Nat) (l0_1 : List S48) (A0_2 : Option Addr) (c0_2 : Nat) (l0_2 : List ByteArray) (A0_3 : Option Addr) (c0_3 : Nat) (l0_3 : List Int) (a1_0 : ByteArray) (a1_1 : ByteArray) (r1 : Bool) (r2 : List (S48)) (r3 : List ByteArray) (r4 : List Int) (r5 : Int) (w : World) (hr0_1 : Kd.C k48 w A0_1 l0_1.length l0_1) (hc0_1 : l0_1.length ≤ c0_1) (hr0_2 : Kd.C Kd.string w A0_2 l0_2.length l0_2) (hc0_2 : l0_2.length ≤ c0_2) (hr0_3 : Kd.C (Kd.int .i64) w A0_3 l0_3.length l0_3) (hc0_3 : l0_3.length ≤ c0_3) (h : node_Put.f a0_0 l0_1 l0_2 l0_3 a1_0 a1_1 = some (r1, r2, r3, r4, r5)) :
    Calls Try.prog 28 #[.agg #[.bool a0_0, .slice A0_1 l0_1.length c0_1, .slice A0_2 l0_2.length c0_2, .slice A0_3 l0_3.length c0_3], .agg #[.string a1_0, .string a1_1]] w fun e w' => ∃ v1_ v2_ v3_ : Value, e = .returned (.tuple #[.agg #[.bool r1, v1_, v2_, v3_], .int .i64 r5]) ∧ Kd.R k48 48 w' w.heap.size (fun _ => True) v1_ r2 ∧ Kd.R Kd.string 9 w' w.heap.size (fun _ => True) v2_ r3 ∧ Kd.R (Kd.int .i64) 3 w' w.heap.size (fun _ => True) v3_ r4 ∧ Below w.heap.size w w' := by
  have LF := Aside0.mk (fun W hw => node_Node_leaf.calls a0_0 A0_1 c0_1 l0_1 A0_2 c0_2 l0_2 A0_3 c0_3 l0_3 (leafV a0_0 l0_1 l0_2 l0_3) W (Kd.C_below hr0_1 hw) hc0_1 (Kd.C_below hr0_2 hw) hc0_2 (Kd.C_below hr0_3 hw) hc0_3 rfl)
  have CL := Aside0.mk (fun W hw hb => api_Pair_44.calls A0_1 c0_1 l0_1 l0_1 W (Kd.C_below hr0_1 hw) hc0_1 (by unfold api_Pair_44.f; rw [if_pos hb]))
  have KY := Aside0.mk (fun W => node_isKey.calls a1_0 (keyB a1_0) W (isKey_val a1_0))
  replace h := Option.some.inj h
  unfold node_Put.v at h
  clear hr0_1 hc0_1 hr0_2 hc0_2 hr0_3 hc0_3
  by_cases hl : leafV a0_0 l0_1 l0_2 l0_3 = true
  · have hlen : l0_1.length ≤ 255 := (leafV_true hl).2.2.2.1
    rw [hl] at LF h
    clear hl
    by_cases hk : keyB a1_0 = true
    · rw [hk] at KY h
      clear hk
      by_cases hv : a1_1.size ≤ 48
      · rw [if_pos ⟨rfl, rfl, hv⟩] at h
        have hv1 : decide ((48 : Int) < (a1_1.size : Int)) = false := decide_eq_false (by omega)
        have hv2 : ¬ ((48 : Int) < (a1_1.size : Int)) := by omega
        clear hv
        obtain ⟨k, hk⟩ : ∃ k, k = atP l0_1 a1_0 := ⟨_, rfl⟩
        obtain ⟨b, hb⟩ : ∃ b, b = isP l0_1 a1_0 := ⟨_, rfl⟩
        have hkl : k ≤ l0_1.length := by rw [hk]; exact (srch_bounds _ _ 0 _ (Nat.le_refl _) (by omega)).2
        have hbk : b = true → k < l0_1.length := fun e => by rw [hb] at e; unfold isP at e; simp at e; rw [hk]; exact e.1
        have HK := Aside0.mk hk
        have HBb := Aside0.mk hb
        rw [← hk, ← hb] at h
        clear hk hb
        cases b
        · rw [if_neg (by decide)] at h
          by_cases h255 : l0_1.length = 255
          · rw [if_pos h255] at h
            cases h
            clear hbk
            have g255 : ((l0_1.length : Int) == 255) = true := beq_iff_eq.2 (by omega)
            have H255 := Aside0.mk h255
            clear h255
            obtain ⟨wy, hwy⟩ : ∃ wy, wy = ((w.alloc (.cells #[.bool a0_0, .slice A0_1 l0_1.length c0_1, .slice A0_2 l0_2.length c0_2, .slice A0_3 l0_3.length c0_3] 31)).alloc (.cells #[.string a1_0, .string a1_1] 48)) := ⟨_, rfl⟩
            obtain ⟨wx, hwx⟩ : ∃ wx, wx = wy.alloc (.cells #[.bool false, .slice none 0 0, .slice none 0 0, .slice none 0 0] 31) := ⟨_, rfl⟩
            have ny : wy.heap.size = (w.heap.size + 2) := by rw [hwy]; simp
            have b0y := heap_alloc_new w (.cells #[.bool a0_0, .slice A0_1 l0_1.length c0_1, .slice A0_2 l0_2.length c0_2, .slice A0_3 l0_3.length c0_3] 31)
            have p0y := heap_alloc_new (w.alloc (.cells #[.bool a0_0, .slice A0_1 l0_1.length c0_1, .slice A0_2 l0_2.length c0_2, .slice A0_3 l0_3.length c0_3] 31)) (.cells #[.string a1_0, .string a1_1] 48)
            have b1y := (Lib.alloc_old (w.alloc (.cells #[.bool a0_0, .slice A0_1 l0_1.length c0_1, .slice A0_2 l0_2.length c0_2, .slice A0_3 l0_3.length c0_3] 31)) (.cells #[.string a1_0, .string a1_1] 48) w.heap.size (blk_lt b0y)).trans b0y
            rw [← hwy] at p0y b1y
            have sy : (w.alloc (.cells #[.bool a0_0, .slice A0_1 l0_1.length c0_1, .slice A0_2 l0_2.length c0_2, .slice A0_3 l0_3.length c0_3] 31)).heap.size = w.heap.size + 1 := by simp
            rw [sy] at p0y
            have bel := below_alloc (below_alloc (Below.refl w.heap.size w) (.cells #[.bool a0_0, .slice A0_1 l0_1.length c0_1, .slice A0_2 l0_2.length c0_2, .slice A0_3 l0_3.length c0_3] 31)) (.cells #[.string a1_0, .string a1_1] 48)
            rw [← hwy] at bel
            have bx := (Lib.alloc_old wy (.cells #[.bool false, .slice none 0 0, .slice none 0 0, .slice none 0 0] 31) w.heap.size (blk_lt b1y)).trans b1y
            have tx := heap_alloc_new wy (.cells #[.bool false, .slice none 0 0, .slice none 0 0, .slice none 0 0] 31)
            rw [← hwx] at bx tx
            rw [ny] at tx
            have BXX : Aside0 (Below w.heap.size w wx) := ⟨by rw [hwx]; exact below_alloc bel _⟩
            have TX := Aside0.mk tx
            have NX : Aside0 (wx.heap.size = (w.heap.size + 2) + 1) := ⟨by rw [hwx]; simp; omega⟩
            have HWX : Aside0 (wx = ((w.alloc (.cells #[.bool a0_0, .slice A0_1 l0_1.length c0_1, .slice A0_2 l0_2.length c0_2, .slice A0_3 l0_3.length c0_3] 31)).alloc (.cells #[.string a1_0, .string a1_1] 48)).alloc (.cells #[.bool false, .slice none 0 0, .slice none 0 0, .slice none 0 0] 31)) := ⟨by rw [hwx, hwy]⟩
            have b0 : wx.cell? ⟨w.heap.size, 0, none⟩ = some (.bool a0_0) := blk_cell bx 0
            have b1 : wx.cell? ⟨w.heap.size, 1, none⟩ = some (.slice A0_1 l0_1.length c0_1) := blk_cell bx 1
            have b2 : wx.cell? ⟨w.heap.size, 2, none⟩ = some (.slice A0_2 l0_2.length c0_2) := blk_cell bx 2
            have b3 : wx.cell? ⟨w.heap.size, 3, none⟩ = some (.slice A0_3 l0_3.length c0_3) := blk_cell bx 3
            have px := (Lib.alloc_old wy (.cells #[.bool false, .slice none 0 0, .slice none 0 0, .slice none 0 0] 31) (w.heap.size + 1) (blk_lt p0y)).trans p0y
            rw [← hwx] at px
            have q0 : wx.cell? ⟨w.heap.size + 1, 0, none⟩ = some (.string a1_0) := blk_cell px 0
            have q1 : wx.cell? ⟨w.heap.size + 1, 1, none⟩ = some (.string a1_1) := blk_cell px 1
            clear px p0y sy
            clear hwx hwy ny b0y b1y bel bx tx
            go_enter Try.func28, Try.ntmps28
            go_wp2_with fail
            rw [← HWX.out]
            refine (LF.out _ BXX.out).mono ?_
            rintro e w1 ⟨rfl, hB⟩
            have B1 := Aside0.mk (BXX.out.trans (hB.mono BXX.out.size))
            have t1 : w1.heap[(w.heap.size + 2)]? = some (.cells #[.bool false, .slice none 0 0, .slice none 0 0, .slice none 0 0] 31 (0, 0)) := (hB.block _ (by have := NX.out; omega)).trans TX.out
            have d0 := nd_cell hB b0
            have d1 := nd_cell hB b1
            have d2 := nd_cell hB b2
            have d3 := nd_cell hB b3
            have r0 := nd_cell hB q0
            have r1 := nd_cell hB q1
            clear b0 b1 b2 b3 q0 q1 hB

            go_wp2_with fail
            refine (KY.out _).mono ?_
            rintro e w2 ⟨rfl, hd⟩
            have hB := hd.below
            have B2 := Aside0.mk (B1.out.trans (hB.mono B1.out.size))
            have t2 : w2.heap[(w.heap.size + 2)]? = some (.cells #[.bool false, .slice none 0 0, .slice none 0 0, .slice none 0 0] 31 (0, 0)) := (hB.block _ (blk_lt t1)).trans t1
            have e0 := nd_cell hB d0
            have e1 := nd_cell hB d1
            have e2 := nd_cell hB d2
            have e3 := nd_cell hB d3
            have s0 := nd_cell hB r0
            have s1 := nd_cell hB r1
            clear d0 d1 d2 d3 r0 r1 hB hd t1

            have T2 := Aside0.mk t2
            have hz := blk_lt t2
            clear t2
            go_wp2_with fail
            refine (CL.out _ B2.out (by omega)).mono ?_
            rintro e w3 ⟨v0, rfl, hR, hB⟩
            have B3 := Aside0.mk (B2.out.trans (hB.mono B2.out.size))
            have t3 : w3.heap[(w.heap.size + 2)]? = some (.cells #[.bool false, .slice none 0 0, .slice none 0 0, .slice none 0 0] 31 (0, 0)) := (hB.block _ hz).trans T2.out
            have m0 := nd_cell hB s0
            have m1 := nd_cell hB s1
            have hZ := Aside0.mk hz
            have S3 := Aside0.mk hB.size
            obtain ⟨A, c, rfl⟩ := Kd.R_slice hR
            have R3 := Aside0.mk hR
            have hcl : l0_1.length ≤ c := (Kd.R_reads' hR).2.1
            have PA := Aside0.mk (node_pairAt.calls A c l0_1 a1_0 (k : Int) false w3 (Kd.R_reads' hR).2.2 hcl (by unfold node_pairAt.f; rw [HK.out, HBb.out]))
            clear hR hB hz s0 s1 e0 e1 e2 e3
            go_wp2_with fail
            refine PA.out.mono ?_
            rintro e w4 ⟨rfl, hB⟩
            have B4 := Aside0.mk (B3.out.trans (hB.mono B3.out.size))
            have S4 := Aside0.mk (Nat.le_trans S3.out hB.size)
            have t4 : w4.heap[(w.heap.size + 2)]? = some (.cells #[.bool false, .slice none 0 0, .slice none 0 0, .slice none 0 0] 31 (0, 0)) := (hB.block _ (blk_lt t3)).trans t3
            have n0 := nd_cell hB m0
            have n1 := nd_cell hB m1
            have R4 := Aside0.mk (Kd.R_below R3.out hB)
            clear hB m0 m1 t3 R3

            have c0 : w4.cell? ⟨(w.heap.size + 2), 0, none⟩ = some (.bool false) := blk_cell t4 0
            have c1 : w4.cell? ⟨(w.heap.size + 2), 1, none⟩ = some (.slice none 0 0) := blk_cell t4 1
            have c2 : w4.cell? ⟨(w.heap.size + 2), 2, none⟩ = some (.slice none 0 0) := blk_cell t4 2
            have c3 : w4.cell? ⟨(w.heap.size + 2), 3, none⟩ = some (.slice none 0 0) := blk_cell t4 3
            have f0 : w4.frozen? ⟨(w.heap.size + 2), 0, none⟩ = false := blk_frozen t4 0
            have f1 : w4.frozen? ⟨(w.heap.size + 2), 1, none⟩ = false := blk_frozen t4 1
            have f2 : w4.frozen? ⟨(w.heap.size + 2), 2, none⟩ = false := blk_frozen t4 2
            have f3 : w4.frozen? ⟨(w.heap.size + 2), 3, none⟩ = false := blk_frozen t4 3
            go_wp2
            have hg4 := nd_grown4 w4 (w.heap.size + 2) (.bool false) (.slice none 0 0) (.slice none 0 0) (.slice none 0 0)
            refine bodyPost_ret (results_ct rfl _ _ (w.heap.size + 2) 31 #[.bool false, .slice none 0 0, .slice none 0 0, .slice none 0 0] (0, 0) _ rfl (nd_put4 w4 (w.heap.size + 2) 31 _ _ _ _ (.bool false) (.slice none 0 0) (.slice none 0 0) (.slice none 0 0) t4) Try.underlying31 rfl (by kernel_rfl)) rfl ?_
            exact ⟨_, _, _, rfl, Kd.R_nil _ _ _ _ _, Kd.R_nil _ _ _ _ _, Kd.R_nil _ _ _ _ _, nd_grown_below hg4 B4.out B4.out.size (by omega)⟩
          · rw [if_neg h255] at h
            cases h
            clear hbk
            have g255 : ((l0_1.length : Int) == 255) = false := beq_eq_false_iff_ne.2 (by omega)
            have g255' : ¬ ((l0_1.length : Int) = 255) := by omega
            obtain ⟨wy, hwy⟩ : ∃ wy, wy = ((w.alloc (.cells #[.bool a0_0, .slice A0_1 l0_1.length c0_1, .slice A0_2 l0_2.length c0_2, .slice A0_3 l0_3.length c0_3] 31)).alloc (.cells #[.string a1_0, .string a1_1] 48)) := ⟨_, rfl⟩
            obtain ⟨wx, hwx⟩ : ∃ wx, wx = wy.alloc (.cells #[.bool false, .slice none 0 0, .slice none 0 0, .slice none 0 0] 31) := ⟨_, rfl⟩
            have ny : wy.heap.size = (w.heap.size + 2) := by rw [hwy]; simp
            have b0y := heap_alloc_new w (.cells #[.bool a0_0, .slice A0_1 l0_1.length c0_1, .slice A0_2 l0_2.length c0_2, .slice A0_3 l0_3.length c0_3] 31)
            have p0y := heap_alloc_new (w.alloc (.cells #[.bool a0_0, .slice A0_1 l0_1.length c0_1, .slice A0_2 l0_2.length c0_2, .slice A0_3 l0_3.length c0_3] 31)) (.cells #[.string a1_0, .string a1_1] 48)
            have b1y := (Lib.alloc_old (w.alloc (.cells #[.bool a0_0, .slice A0_1 l0_1.length c0_1, .slice A0_2 l0_2.length c0_2, .slice A0_3 l0_3.length c0_3] 31)) (.cells #[.string a1_0, .string a1_1] 48) w.heap.size (blk_lt b0y)).trans b0y
            rw [← hwy] at p0y b1y
            have sy : (w.alloc (.cells #[.bool a0_0, .slice A0_1 l0_1.length c0_1, .slice A0_2 l0_2.length c0_2, .slice A0_3 l0_3.length c0_3] 31)).heap.size = w.heap.size + 1 := by simp
            rw [sy] at p0y
            have bel := below_alloc (below_alloc (Below.refl w.heap.size w) (.cells #[.bool a0_0, .slice A0_1 l0_1.length c0_1, .slice A0_2 l0_2.length c0_2, .slice A0_3 l0_3.length c0_3] 31)) (.cells #[.string a1_0, .string a1_1] 48)
            rw [← hwy] at bel
            have bx := (Lib.alloc_old wy (.cells #[.bool false, .slice none 0 0, .slice none 0 0, .slice none 0 0] 31) w.heap.size (blk_lt b1y)).trans b1y
            have tx := heap_alloc_new wy (.cells #[.bool false, .slice none 0 0, .slice none 0 0, .slice none 0 0] 31)
            rw [← hwx] at bx tx
            rw [ny] at tx
            have BXX : Aside0 (Below w.heap.size w wx) := ⟨by rw [hwx]; exact below_alloc bel _⟩
            have TX := Aside0.mk tx
            have NX : Aside0 (wx.heap.size = (w.heap.size + 2) + 1) := ⟨by rw [hwx]; simp; omega⟩
            have HWX : Aside0 (wx = ((w.alloc (.cells #[.bool a0_0, .slice A0_1 l0_1.length c0_1, .slice A0_2 l0_2.length c0_2, .slice A0_3 l0_3.length c0_3] 31)).alloc (.cells #[.string a1_0, .string a1_1] 48)).alloc (.cells #[.bool false, .slice none 0 0, .slice none 0 0, .slice none 0 0] 31)) := ⟨by rw [hwx, hwy]⟩
            have b0 : wx.cell? ⟨w.heap.size, 0, none⟩ = some (.bool a0_0) := blk_cell bx 0
            have b1 : wx.cell? ⟨w.heap.size, 1, none⟩ = some (.slice A0_1 l0_1.length c0_1) := blk_cell bx 1
            have b2 : wx.cell? ⟨w.heap.size, 2, none⟩ = some (.slice A0_2 l0_2.length c0_2) := blk_cell bx 2
            have b3 : wx.cell? ⟨w.heap.size, 3, none⟩ = some (.slice A0_3 l0_3.length c0_3) := blk_cell bx 3
            have px := (Lib.alloc_old wy (.cells #[.bool false, .slice none 0 0, .slice none 0 0, .slice none 0 0] 31) (w.heap.size + 1) (blk_lt p0y)).trans p0y
            rw [← hwx] at px
            have q0 : wx.cell? ⟨w.heap.size + 1, 0, none⟩ = some (.string a1_0) := blk_cell px 0
            have q1 : wx.cell? ⟨w.heap.size + 1, 1, none⟩ = some (.string a1_1) := blk_cell px 1
            clear px p0y sy
            clear hwx hwy ny b0y b1y bel bx tx
            go_enter Try.func28, Try.ntmps28
            go_wp2_with fail
            rw [← HWX.out]
            refine (LF.out _ BXX.out).mono ?_
            rintro e w1 ⟨rfl, hB⟩
            have B1 := Aside0.mk (BXX.out.trans (hB.mono BXX.out.size))
            have t1 : w1.heap[(w.heap.size + 2)]? = some (.cells #[.bool false, .slice none 0 0, .slice none 0 0, .slice none 0 0] 31 (0, 0)) := (hB.block _ (by have := NX.out; omega)).trans TX.out
            have d0 := nd_cell hB b0
            have d1 := nd_cell hB b1
            have d2 := nd_cell hB b2
            have d3 := nd_cell hB b3
            have r0 := nd_cell hB q0
            have r1 := nd_cell hB q1
            clear b0 b1 b2 b3 q0 q1 hB

            go_wp2_with fail
            refine (KY.out _).mono ?_
            rintro e w2 ⟨rfl, hd⟩
            have hB := hd.below
            have B2 := Aside0.mk (B1.out.trans (hB.mono B1.out.size))
            have t2 : w2.heap[(w.heap.size + 2)]? = some (.cells #[.bool false, .slice none 0 0, .slice none 0 0, .slice none 0 0] 31 (0, 0)) := (hB.block _ (blk_lt t1)).trans t1
            have e0 := nd_cell hB d0
            have e1 := nd_cell hB d1
            have e2 := nd_cell hB d2
            have e3 := nd_cell hB d3
            have s0 := nd_cell hB r0
            have s1 := nd_cell hB r1
            clear d0 d1 d2 d3 r0 r1 hB hd t1

            have T2 := Aside0.mk t2
            have hz := blk_lt t2
            clear t2
            go_wp2_with fail
            refine (CL.out _ B2.out (by omega)).mono ?_
            rintro e w3 ⟨v0, rfl, hR, hB⟩
            have B3 := Aside0.mk (B2.out.trans (hB.mono B2.out.size))
            have t3 : w3.heap[(w.heap.size + 2)]? = some (.cells #[.bool false, .slice none 0 0, .slice none 0 0, .slice none 0 0] 31 (0, 0)) := (hB.block _ hz).trans T2.out
            have m0 := nd_cell hB s0
            have m1 := nd_cell hB s1
            have hZ := Aside0.mk hz
            have S3 := Aside0.mk hB.size
            obtain ⟨A, c, rfl⟩ := Kd.R_slice hR
            have R3 := Aside0.mk hR
            have hcl : l0_1.length ≤ c := (Kd.R_reads' hR).2.1
            have PA := Aside0.mk (node_pairAt.calls A c l0_1 a1_0 (k : Int) false w3 (Kd.R_reads' hR).2.2 hcl (by unfold node_pairAt.f; rw [HK.out, HBb.out]))
            clear hR hB hz s0 s1 e0 e1 e2 e3
            go_wp2_with fail
            refine PA.out.mono ?_
            rintro e w4 ⟨rfl, hB⟩
            have B4 := Aside0.mk (B3.out.trans (hB.mono B3.out.size))
            have S4 := Aside0.mk (Nat.le_trans S3.out hB.size)
            have t4 : w4.heap[(w.heap.size + 2)]? = some (.cells #[.bool false, .slice none 0 0, .slice none 0 0, .slice none 0 0] 31 (0, 0)) := (hB.block _ (blk_lt t3)).trans t3
            have n0 := nd_cell hB m0
            have n1 := nd_cell hB m1
            have R4 := Aside0.mk (Kd.R_below R3.out hB)
            clear hB m0 m1 t3 R3

            have T4 := Aside0.mk t4
            have kv := Aside0.mk (heap_alloc_new w4 (.cells #[.string a1_0, .string a1_1] 48))
            have bv := below_alloc (Below.refl w4.heap.size w4) (.cells #[.string a1_0, .string a1_1] 48)
            have INS := Aside0.mk (insert_one w2.heap.size A c l0_1 k w4.heap.size ⟨a1_0, a1_1⟩ _ (Kd.R_below R4.out bv) kv.out (fun a ha => by
              subst ha
              obtain ⟨_, h0 | ⟨g, cs, e, h1, h2, _⟩⟩ := R48_open R4.out
              · cases h0.1
              · cases e
                have := blk_lt h2
                show w4.heap.size ≠ g
                omega) (Nat.le_trans S4.out bv.size) (by omega) hkl)
            have BV := Aside0.mk bv
            clear t4 bv
            go_wp2_with fail
            refine INS.out.mono ?_
            rintro e w5 ⟨v5, rfl, hR, _, hB⟩
            obtain ⟨A5, c5, rfl⟩ := Kd.R_slice hR
            have t5 : w5.heap[(w.heap.size + 2)]? = some (.cells #[.bool false, .slice none 0 0, .slice none 0 0, .slice none 0 0] 31 (0, 0)) := (hB.block _ hZ.out).trans ((BV.out.block _ (blk_lt T4.out)).trans T4.out)
            have B5 := Aside0.mk ((B4.out.trans (BV.out.mono B4.out.size)).trans (hB.mono B2.out.size))
            have R5 := Aside0.mk hR
            clear hR hB n0 n1
            obtain ⟨n5, hn5⟩ : ∃ n, n = (l0_1.take k ++ (⟨a1_0, a1_1⟩ : S48) :: l0_1.drop k).length := ⟨_, rfl⟩
            rw [← hn5] at R5 ⊢
            clear hn5
            have c0 : w5.cell? ⟨(w.heap.size + 2), 0, none⟩ = some (.bool false) := blk_cell t5 0
            have c1 : w5.cell? ⟨(w.heap.size + 2), 1, none⟩ = some (.slice none 0 0) := blk_cell t5 1
            have c2 : w5.cell? ⟨(w.heap.size + 2), 2, none⟩ = some (.slice none 0 0) := blk_cell t5 2
            have c3 : w5.cell? ⟨(w.heap.size + 2), 3, none⟩ = some (.slice none 0 0) := blk_cell t5 3
            have f0 : w5.frozen? ⟨(w.heap.size + 2), 0, none⟩ = false := blk_frozen t5 0
            have f1 : w5.frozen? ⟨(w.heap.size + 2), 1, none⟩ = false := blk_frozen t5 1
            have f2 : w5.frozen? ⟨(w.heap.size + 2), 2, none⟩ = false := blk_frozen t5 2
            have f3 : w5.frozen? ⟨(w.heap.size + 2), 3, none⟩ = false := blk_frozen t5 3
            go_wp2
            have hg4 := nd_grown4 w5 (w.heap.size + 2) (.bool true) (.slice A5 n5 c5) (.slice none 0 0) (.slice none 0 0)
            refine bodyPost_ret (results_ct rfl _ _ (w.heap.size + 2) 31 #[.bool true, .slice A5 n5 c5, .slice none 0 0, .slice none 0 0] (0, 0) _ rfl (nd_put4 w5 (w.heap.size + 2) 31 _ _ _ _ (.bool true) (.slice A5 n5 c5) (.slice none 0 0) (.slice none 0 0) t5) Try.underlying31 rfl (by kernel_rfl)) rfl ?_
            exact ⟨_, _, _, rfl, Kd.R_lower (R_grown_far R5.out hg4 hZ.out) B2.out.size, Kd.R_nil _ _ _ _ _, Kd.R_nil _ _ _ _ _, nd_grown_below hg4 B5.out B5.out.size (by omega)⟩
        · rw [if_pos rfl] at h
          cases h
          have hk1 := hbk rfl
          clear hbk
          have p1 : (0 : Int) ≤ (k : Int) := by omega
          have q1' : (k : Int) < (l0_1.length : Int) := by omega
          obtain ⟨wy, hwy⟩ : ∃ wy, wy = ((w.alloc (.cells #[.bool a0_0, .slice A0_1 l0_1.length c0_1, .slice A0_2 l0_2.length c0_2, .slice A0_3 l0_3.length c0_3] 31)).alloc (.cells #[.string a1_0, .string a1_1] 48)) := ⟨_, rfl⟩
          obtain ⟨wx, hwx⟩ : ∃ wx, wx = wy.alloc (.cells #[.bool false, .slice none 0 0, .slice none 0 0, .slice none 0 0] 31) := ⟨_, rfl⟩
          have ny : wy.heap.size = (w.heap.size + 2) := by rw [hwy]; simp
          have b0y := heap_alloc_new w (.cells #[.bool a0_0, .slice A0_1 l0_1.length c0_1, .slice A0_2 l0_2.length c0_2, .slice A0_3 l0_3.length c0_3] 31)
          have p0y := heap_alloc_new (w.alloc (.cells #[.bool a0_0, .slice A0_1 l0_1.length c0_1, .slice A0_2 l0_2.length c0_2, .slice A0_3 l0_3.length c0_3] 31)) (.cells #[.string a1_0, .string a1_1] 48)
          have b1y := (Lib.alloc_old (w.alloc (.cells #[.bool a0_0, .slice A0_1 l0_1.length c0_1, .slice A0_2 l0_2.length c0_2, .slice A0_3 l0_3.length c0_3] 31)) (.cells #[.string a1_0, .string a1_1] 48) w.heap.size (blk_lt b0y)).trans b0y
          rw [← hwy] at p0y b1y
          have sy : (w.alloc (.cells #[.bool a0_0, .slice A0_1 l0_1.length c0_1, .slice A0_2 l0_2.length c0_2, .slice A0_3 l0_3.length c0_3] 31)).heap.size = w.heap.size + 1 := by simp
          rw [sy] at p0y
          have bel := below_alloc (below_alloc (Below.refl w.heap.size w) (.cells #[.bool a0_0, .slice A0_1 l0_1.length c0_1, .slice A0_2 l0_2.length c0_2, .slice A0_3 l0_3.length c0_3] 31)) (.cells #[.string a1_0, .string a1_1] 48)
          rw [← hwy] at bel
          have bx := (Lib.alloc_old wy (.cells #[.bool false, .slice none 0 0, .slice none 0 0, .slice none 0 0] 31) w.heap.size (blk_lt b1y)).trans b1y
          have tx := heap_alloc_new wy (.cells #[.bool false, .slice none 0 0, .slice none 0 0, .slice none 0 0] 31)
          rw [← hwx] at bx tx
          rw [ny] at tx
          have BXX : Aside0 (Below w.heap.size w wx) := ⟨by rw [hwx]; exact below_alloc bel _⟩
          have TX := Aside0.mk tx
          have NX : Aside0 (wx.heap.size = (w.heap.size + 2) + 1) := ⟨by rw [hwx]; simp; omega⟩
          have HWX : Aside0 (wx = ((w.alloc (.cells #[.bool a0_0, .slice A0_1 l0_1.length c0_1, .slice A0_2 l0_2.length c0_2, .slice A0_3 l0_3.length c0_3] 31)).alloc (.cells #[.string a1_0, .string a1_1] 48)).alloc (.cells #[.bool false, .slice none 0 0, .slice none 0 0, .slice none 0 0] 31)) := ⟨by rw [hwx, hwy]⟩
          have b0 : wx.cell? ⟨w.heap.size, 0, none⟩ = some (.bool a0_0) := blk_cell bx 0
          have b1 : wx.cell? ⟨w.heap.size, 1, none⟩ = some (.slice A0_1 l0_1.length c0_1) := blk_cell bx 1
          have b2 : wx.cell? ⟨w.heap.size, 2, none⟩ = some (.slice A0_2 l0_2.length c0_2) := blk_cell bx 2
          have b3 : wx.cell? ⟨w.heap.size, 3, none⟩ = some (.slice A0_3 l0_3.length c0_3) := blk_cell bx 3
          have px := (Lib.alloc_old wy (.cells #[.bool false, .slice none 0 0, .slice none 0 0, .slice none 0 0] 31) (w.heap.size + 1) (blk_lt p0y)).trans p0y
          rw [← hwx] at px
          have q0 : wx.cell? ⟨w.heap.size + 1, 0, none⟩ = some (.string a1_0) := blk_cell px 0
          have q1 : wx.cell? ⟨w.heap.size + 1, 1, none⟩ = some (.string a1_1) := blk_cell px 1
          clear px p0y sy
          clear hwx hwy ny b0y b1y bel bx tx
          go_enter Try.func28, Try.ntmps28
          go_wp2_with fail
          rw [← HWX.out]
          refine (LF.out _ BXX.out).mono ?_
          rintro e w1 ⟨rfl, hB⟩
          have B1 := Aside0.mk (BXX.out.trans (hB.mono BXX.out.size))
          have t1 : w1.heap[(w.heap.size + 2)]? = some (.cells #[.bool false, .slice none 0 0, .slice none 0 0, .slice none 0 0] 31 (0, 0)) := (hB.block _ (by have := NX.out; omega)).trans TX.out
          have d0 := nd_cell hB b0
          have d1 := nd_cell hB b1
          have d2 := nd_cell hB b2
          have d3 := nd_cell hB b3
          have r0 := nd_cell hB q0
          have r1 := nd_cell hB q1
          clear b0 b1 b2 b3 q0 q1 hB

          go_wp2_with fail
          refine (KY.out _).mono ?_
          rintro e w2 ⟨rfl, hd⟩
          have hB := hd.below
          have B2 := Aside0.mk (B1.out.trans (hB.mono B1.out.size))
          have t2 : w2.heap[(w.heap.size + 2)]? = some (.cells #[.bool false, .slice none 0 0, .slice none 0 0, .slice none 0 0] 31 (0, 0)) := (hB.block _ (blk_lt t1)).trans t1
          have e0 := nd_cell hB d0
          have e1 := nd_cell hB d1
          have e2 := nd_cell hB d2
          have e3 := nd_cell hB d3
          have s0 := nd_cell hB r0
          have s1 := nd_cell hB r1
          clear d0 d1 d2 d3 r0 r1 hB hd t1

          have T2 := Aside0.mk t2
          have hz := blk_lt t2
          clear t2
          go_wp2_with fail
          refine (CL.out _ B2.out (by omega)).mono ?_
          rintro e w3 ⟨v0, rfl, hR, hB⟩
          have B3 := Aside0.mk (B2.out.trans (hB.mono B2.out.size))
          have t3 : w3.heap[(w.heap.size + 2)]? = some (.cells #[.bool false, .slice none 0 0, .slice none 0 0, .slice none 0 0] 31 (0, 0)) := (hB.block _ hz).trans T2.out
          have m0 := nd_cell hB s0
          have m1 := nd_cell hB s1
          have hZ := Aside0.mk hz
          have S3 := Aside0.mk hB.size
          obtain ⟨A, c, rfl⟩ := Kd.R_slice hR
          have R3 := Aside0.mk hR
          have hcl : l0_1.length ≤ c := (Kd.R_reads' hR).2.1
          have PA := Aside0.mk (node_pairAt.calls A c l0_1 a1_0 (k : Int) true w3 (Kd.R_reads' hR).2.2 hcl (by unfold node_pairAt.f; rw [HK.out, HBb.out]))
          clear hR hB hz s0 s1 e0 e1 e2 e3
          go_wp2_with fail
          refine PA.out.mono ?_
          rintro e w4 ⟨rfl, hB⟩
          have B4 := Aside0.mk (B3.out.trans (hB.mono B3.out.size))
          have S4 := Aside0.mk (Nat.le_trans S3.out hB.size)
          have t4 : w4.heap[(w.heap.size + 2)]? = some (.cells #[.bool false, .slice none 0 0, .slice none 0 0, .slice none 0 0] 31 (0, 0)) := (hB.block _ (blk_lt t3)).trans t3
          have n0 := nd_cell hB m0
          have n1 := nd_cell hB m1
          have R4 := Aside0.mk (Kd.R_below R3.out hB)
          clear hB m0 m1 t3 R3

          obtain ⟨g, rfl, HG, x0, x1, y0, y1, HRP⟩ := R48_put (⟨a1_0, a1_1⟩ : S48) R4.out hk1
          have hgr : g ≠ (w.heap.size + 2) := by have := HG.out; have := hZ.out; omega
          have t5 : ((w4.setCell ⟨g, k * 2, none⟩ (.string a1_0)).setCell ⟨g, k * 2 + 1, none⟩ (.string a1_1)).heap[(w.heap.size + 2)]? = some (.cells #[.bool false, .slice none 0 0, .slice none 0 0, .slice none 0 0] 31 (0, 0)) := (Below.heap_setCell _ ⟨g, k * 2 + 1, none⟩ _ _ (fun e => hgr e.symm)).trans ((Below.heap_setCell _ ⟨g, k * 2, none⟩ _ _ (fun e => hgr e.symm)).trans t4)
          have B5 : Aside0 (Below w.heap.size w ((w4.setCell ⟨g, k * 2, none⟩ (.string a1_0)).setCell ⟨g, k * 2 + 1, none⟩ (.string a1_1))) := ⟨(B4.out.setCell (p := ⟨g, k * 2, none⟩) (Nat.le_trans B2.out.size HG.out) _).setCell (p := ⟨g, k * 2 + 1, none⟩) (Nat.le_trans B2.out.size HG.out) _⟩
          clear t4
          have c0 : ((w4.setCell ⟨g, k * 2, none⟩ (.string a1_0)).setCell ⟨g, k * 2 + 1, none⟩ (.string a1_1)).cell? ⟨(w.heap.size + 2), 0, none⟩ = some (.bool false) := blk_cell t5 0
          have c1 : ((w4.setCell ⟨g, k * 2, none⟩ (.string a1_0)).setCell ⟨g, k * 2 + 1, none⟩ (.string a1_1)).cell? ⟨(w.heap.size + 2), 1, none⟩ = some (.slice none 0 0) := blk_cell t5 1
          have c2 : ((w4.setCell ⟨g, k * 2, none⟩ (.string a1_0)).setCell ⟨g, k * 2 + 1, none⟩ (.string a1_1)).cell? ⟨(w.heap.size + 2), 2, none⟩ = some (.slice none 0 0) := blk_cell t5 2
          have c3 : ((w4.setCell ⟨g, k * 2, none⟩ (.string a1_0)).setCell ⟨g, k * 2 + 1, none⟩ (.string a1_1)).cell? ⟨(w.heap.size + 2), 3, none⟩ = some (.slice none 0 0) := blk_cell t5 3
          have f0 : ((w4.setCell ⟨g, k * 2, none⟩ (.string a1_0)).setCell ⟨g, k * 2 + 1, none⟩ (.string a1_1)).frozen? ⟨(w.heap.size + 2), 0, none⟩ = false := blk_frozen t5 0
          have f1 : ((w4.setCell ⟨g, k * 2, none⟩ (.string a1_0)).setCell ⟨g, k * 2 + 1, none⟩ (.string a1_1)).frozen? ⟨(w.heap.size + 2), 1, none⟩ = false := blk_frozen t5 1
          have f2 : ((w4.setCell ⟨g, k * 2, none⟩ (.string a1_0)).setCell ⟨g, k * 2 + 1, none⟩ (.string a1_1)).frozen? ⟨(w.heap.size + 2), 2, none⟩ = false := blk_frozen t5 2
          have f3 : ((w4.setCell ⟨g, k * 2, none⟩ (.string a1_0)).setCell ⟨g, k * 2 + 1, none⟩ (.string a1_1)).frozen? ⟨(w.heap.size + 2), 3, none⟩ = false := blk_frozen t5 3
          go_wp2
          have hg4 := nd_grown4 ((w4.setCell ⟨g, k * 2, none⟩ (.string a1_0)).setCell ⟨g, k * 2 + 1, none⟩ (.string a1_1)) (w.heap.size + 2) (.bool true) (.slice (some ⟨g, 0, none⟩) l0_1.length c) (.slice none 0 0) (.slice none 0 0)
          refine bodyPost_ret (results_ct rfl _ _ (w.heap.size + 2) 31 #[.bool true, .slice (some ⟨g, 0, none⟩) l0_1.length c, .slice none 0 0, .slice none 0 0] (0, 0) _ rfl (nd_put4 ((w4.setCell ⟨g, k * 2, none⟩ (.string a1_0)).setCell ⟨g, k * 2 + 1, none⟩ (.string a1_1)) (w.heap.size + 2) 31 _ _ _ _ (.bool true) (.slice (some ⟨g, 0, none⟩) l0_1.length c) (.slice none 0 0) (.slice none 0 0) t5) Try.underlying31 rfl (by kernel_rfl)) rfl ?_
          exact ⟨_, _, _, rfl, Kd.R_lower (R_grown_far HRP.out hg4 hZ.out) B2.out.size, Kd.R_nil _ _ _ _ _, Kd.R_nil _ _ _ _ _, nd_grown_below hg4 B5.out B5.out.size (by omega)⟩
      · rw [if_neg (fun h => hv h.2.2)] at h
        cases h
        have hv1 : decide ((48 : Int) < (a1_1.size : Int)) = true := decide_eq_true (by omega)
        have hv2 : (48 : Int) < (a1_1.size : Int) := by omega
        clear hv
        obtain ⟨wy, hwy⟩ : ∃ wy, wy = ((w.alloc (.cells #[.bool a0_0, .slice A0_1 l0_1.length c0_1, .slice A0_2 l0_2.length c0_2, .slice A0_3 l0_3.length c0_3] 31)).alloc (.cells #[.string a1_0, .string a1_1] 48)) := ⟨_, rfl⟩
        obtain ⟨wx, hwx⟩ : ∃ wx, wx = wy.alloc (.cells #[.bool false, .slice none 0 0, .slice none 0 0, .slice none 0 0] 31) := ⟨_, rfl⟩
        have ny : wy.heap.size = (w.heap.size + 2) := by rw [hwy]; simp
        have b0y := heap_alloc_new w (.cells #[.bool a0_0, .slice A0_1 l0_1.length c0_1, .slice A0_2 l0_2.length c0_2, .slice A0_3 l0_3.length c0_3] 31)
        have p0y := heap_alloc_new (w.alloc (.cells #[.bool a0_0, .slice A0_1 l0_1.length c0_1, .slice A0_2 l0_2.length c0_2, .slice A0_3 l0_3.length c0_3] 31)) (.cells #[.string a1_0, .string a1_1] 48)
        have b1y := (Lib.alloc_old (w.alloc (.cells #[.bool a0_0, .slice A0_1 l0_1.length c0_1, .slice A0_2 l0_2.length c0_2, .slice A0_3 l0_3.length c0_3] 31)) (.cells #[.string a1_0, .string a1_1] 48) w.heap.size (blk_lt b0y)).trans b0y
        rw [← hwy] at p0y b1y
        have sy : (w.alloc (.cells #[.bool a0_0, .slice A0_1 l0_1.length c0_1, .slice A0_2 l0_2.length c0_2, .slice A0_3 l0_3.length c0_3] 31)).heap.size = w.heap.size + 1 := by simp
        rw [sy] at p0y
        have bel := below_alloc (below_alloc (Below.refl w.heap.size w) (.cells #[.bool a0_0, .slice A0_1 l0_1.length c0_1, .slice A0_2 l0_2.length c0_2, .slice A0_3 l0_3.length c0_3] 31)) (.cells #[.string a1_0, .string a1_1] 48)
        rw [← hwy] at bel
        have bx := (Lib.alloc_old wy (.cells #[.bool false, .slice none 0 0, .slice none 0 0, .slice none 0 0] 31) w.heap.size (blk_lt b1y)).trans b1y
        have tx := heap_alloc_new wy (.cells #[.bool false, .slice none 0 0, .slice none 0 0, .slice none 0 0] 31)
        rw [← hwx] at bx tx
        rw [ny] at tx
        have BXX : Aside0 (Below w.heap.size w wx) := ⟨by rw [hwx]; exact below_alloc bel _⟩
        have TX := Aside0.mk tx
        have NX : Aside0 (wx.heap.size = (w.heap.size + 2) + 1) := ⟨by rw [hwx]; simp; omega⟩
        have HWX : Aside0 (wx = ((w.alloc (.cells #[.bool a0_0, .slice A0_1 l0_1.length c0_1, .slice A0_2 l0_2.length c0_2, .slice A0_3 l0_3.length c0_3] 31)).alloc (.cells #[.string a1_0, .string a1_1] 48)).alloc (.cells #[.bool false, .slice none 0 0, .slice none 0 0, .slice none 0 0] 31)) := ⟨by rw [hwx, hwy]⟩
        have b0 : wx.cell? ⟨w.heap.size, 0, none⟩ = some (.bool a0_0) := blk_cell bx 0
        have b1 : wx.cell? ⟨w.heap.size, 1, none⟩ = some (.slice A0_1 l0_1.length c0_1) := blk_cell bx 1
        have b2 : wx.cell? ⟨w.heap.size, 2, none⟩ = some (.slice A0_2 l0_2.length c0_2) := blk_cell bx 2
        have b3 : wx.cell? ⟨w.heap.size, 3, none⟩ = some (.slice A0_3 l0_3.length c0_3) := blk_cell bx 3
        have px := (Lib.alloc_old wy (.cells #[.bool false, .slice none 0 0, .slice none 0 0, .slice none 0 0] 31) (w.heap.size + 1) (blk_lt p0y)).trans p0y
        rw [← hwx] at px
        have q0 : wx.cell? ⟨w.heap.size + 1, 0, none⟩ = some (.string a1_0) := blk_cell px 0
        have q1 : wx.cell? ⟨w.heap.size + 1, 1, none⟩ = some (.string a1_1) := blk_cell px 1
        clear px p0y sy
        clear hwx hwy ny b0y b1y bel bx tx
        go_enter Try.func28, Try.ntmps28
        go_wp2_with fail
        rw [← HWX.out]
        refine (LF.out _ BXX.out).mono ?_
        rintro e w1 ⟨rfl, hB⟩
        have B1 := Aside0.mk (BXX.out.trans (hB.mono BXX.out.size))
        have t1 : w1.heap[(w.heap.size + 2)]? = some (.cells #[.bool false, .slice none 0 0, .slice none 0 0, .slice none 0 0] 31 (0, 0)) := (hB.block _ (by have := NX.out; omega)).trans TX.out
        have d0 := nd_cell hB b0
        have d1 := nd_cell hB b1
        have d2 := nd_cell hB b2
        have d3 := nd_cell hB b3
        have r0 := nd_cell hB q0
        have r1 := nd_cell hB q1
        clear b0 b1 b2 b3 q0 q1 hB

        go_wp2_with fail
        refine (KY.out _).mono ?_
        rintro e w2 ⟨rfl, hd⟩
        have hB := hd.below
        have B2 := Aside0.mk (B1.out.trans (hB.mono B1.out.size))
        have t2 : w2.heap[(w.heap.size + 2)]? = some (.cells #[.bool false, .slice none 0 0, .slice none 0 0, .slice none 0 0] 31 (0, 0)) := (hB.block _ (blk_lt t1)).trans t1
        have e0 := nd_cell hB d0
        have e1 := nd_cell hB d1
        have e2 := nd_cell hB d2
        have e3 := nd_cell hB d3
        have s0 := nd_cell hB r0
        have s1 := nd_cell hB r1
        clear d0 d1 d2 d3 r0 r1 hB hd t1

        have c0 : w2.cell? ⟨(w.heap.size + 2), 0, none⟩ = some (.bool false) := blk_cell t2 0
        have c1 : w2.cell? ⟨(w.heap.size + 2), 1, none⟩ = some (.slice none 0 0) := blk_cell t2 1
        have c2 : w2.cell? ⟨(w.heap.size + 2), 2, none⟩ = some (.slice none 0 0) := blk_cell t2 2
        have c3 : w2.cell? ⟨(w.heap.size + 2), 3, none⟩ = some (.slice none 0 0) := blk_cell t2 3
        have f0 : w2.frozen? ⟨(w.heap.size + 2), 0, none⟩ = false := blk_frozen t2 0
        have f1 : w2.frozen? ⟨(w.heap.size + 2), 1, none⟩ = false := blk_frozen t2 1
        have f2 : w2.frozen? ⟨(w.heap.size + 2), 2, none⟩ = false := blk_frozen t2 2
        have f3 : w2.frozen? ⟨(w.heap.size + 2), 3, none⟩ = false := blk_frozen t2 3
        go_wp2
        have hg4 := nd_grown4 w2 (w.heap.size + 2) (.bool false) (.slice none 0 0) (.slice none 0 0) (.slice none 0 0)
        refine bodyPost_ret (results_ct rfl _ _ (w.heap.size + 2) 31 #[.bool false, .slice none 0 0, .slice none 0 0, .slice none 0 0] (0, 0) _ rfl (nd_put4 w2 (w.heap.size + 2) 31 _ _ _ _ (.bool false) (.slice none 0 0) (.slice none 0 0) (.slice none 0 0) t2) Try.underlying31 rfl (by kernel_rfl)) rfl ?_
        exact ⟨_, _, _, rfl, Kd.R_nil _ _ _ _ _, Kd.R_nil _ _ _ _ _, Kd.R_nil _ _ _ _ _, nd_grown_below hg4 B2.out B2.out.size (by omega)⟩
    · rw [if_neg (fun h => hk h.2.1)] at h
      cases h
      rw [Bool.not_eq_true] at hk
      rw [hk] at KY
      clear hk
      obtain ⟨wy, hwy⟩ : ∃ wy, wy = ((w.alloc (.cells #[.bool a0_0, .slice A0_1 l0_1.length c0_1, .slice A0_2 l0_2.length c0_2, .slice A0_3 l0_3.length c0_3] 31)).alloc (.cells #[.string a1_0, .string a1_1] 48)) := ⟨_, rfl⟩
      obtain ⟨wx, hwx⟩ : ∃ wx, wx = wy.alloc (.cells #[.bool false, .slice none 0 0, .slice none 0 0, .slice none 0 0] 31) := ⟨_, rfl⟩
      have ny : wy.heap.size = (w.heap.size + 2) := by rw [hwy]; simp
      have b0y := heap_alloc_new w (.cells #[.bool a0_0, .slice A0_1 l0_1.length c0_1, .slice A0_2 l0_2.length c0_2, .slice A0_3 l0_3.length c0_3] 31)
      have p0y := heap_alloc_new (w.alloc (.cells #[.bool a0_0, .slice A0_1 l0_1.length c0_1, .slice A0_2 l0_2.length c0_2, .slice A0_3 l0_3.length c0_3] 31)) (.cells #[.string a1_0, .string a1_1] 48)
      have b1y := (Lib.alloc_old (w.alloc (.cells #[.bool a0_0, .slice A0_1 l0_1.length c0_1, .slice A0_2 l0_2.length c0_2, .slice A0_3 l0_3.length c0_3] 31)) (.cells #[.string a1_0, .string a1_1] 48) w.heap.size (blk_lt b0y)).trans b0y
      rw [← hwy] at p0y b1y
      have sy : (w.alloc (.cells #[.bool a0_0, .slice A0_1 l0_1.length c0_1, .slice A0_2 l0_2.length c0_2, .slice A0_3 l0_3.length c0_3] 31)).heap.size = w.heap.size + 1 := by simp
      rw [sy] at p0y
      have bel := below_alloc (below_alloc (Below.refl w.heap.size w) (.cells #[.bool a0_0, .slice A0_1 l0_1.length c0_1, .slice A0_2 l0_2.length c0_2, .slice A0_3 l0_3.length c0_3] 31)) (.cells #[.string a1_0, .string a1_1] 48)
      rw [← hwy] at bel
      have bx := (Lib.alloc_old wy (.cells #[.bool false, .slice none 0 0, .slice none 0 0, .slice none 0 0] 31) w.heap.size (blk_lt b1y)).trans b1y
      have tx := heap_alloc_new wy (.cells #[.bool false, .slice none 0 0, .slice none 0 0, .slice none 0 0] 31)
      rw [← hwx] at bx tx
      rw [ny] at tx
      have BXX : Aside0 (Below w.heap.size w wx) := ⟨by rw [hwx]; exact below_alloc bel _⟩
      have TX := Aside0.mk tx
      have NX : Aside0 (wx.heap.size = (w.heap.size + 2) + 1) := ⟨by rw [hwx]; simp; omega⟩
      have HWX : Aside0 (wx = ((w.alloc (.cells #[.bool a0_0, .slice A0_1 l0_1.length c0_1, .slice A0_2 l0_2.length c0_2, .slice A0_3 l0_3.length c0_3] 31)).alloc (.cells #[.string a1_0, .string a1_1] 48)).alloc (.cells #[.bool false, .slice none 0 0, .slice none 0 0, .slice none 0 0] 31)) := ⟨by rw [hwx, hwy]⟩
      have b0 : wx.cell? ⟨w.heap.size, 0, none⟩ = some (.bool a0_0) := blk_cell bx 0
      have b1 : wx.cell? ⟨w.heap.size, 1, none⟩ = some (.slice A0_1 l0_1.length c0_1) := blk_cell bx 1
      have b2 : wx.cell? ⟨w.heap.size, 2, none⟩ = some (.slice A0_2 l0_2.length c0_2) := blk_cell bx 2
      have b3 : wx.cell? ⟨w.heap.size, 3, none⟩ = some (.slice A0_3 l0_3.length c0_3) := blk_cell bx 3
      have px := (Lib.alloc_old wy (.cells #[.bool false, .slice none 0 0, .slice none 0 0, .slice none 0 0] 31) (w.heap.size + 1) (blk_lt p0y)).trans p0y
      rw [← hwx] at px
      have q0 : wx.cell? ⟨w.heap.size + 1, 0, none⟩ = some (.string a1_0) := blk_cell px 0
      have q1 : wx.cell? ⟨w.heap.size + 1, 1, none⟩ = some (.string a1_1) := blk_cell px 1
      clear px p0y sy
      clear hwx hwy ny b0y b1y bel bx tx
      go_enter Try.func28, Try.ntmps28
      go_wp2_with fail
      rw [← HWX.out]
      refine (LF.out _ BXX.out).mono ?_
      rintro e w1 ⟨rfl, hB⟩
      have B1 := Aside0.mk (BXX.out.trans (hB.mono BXX.out.size))
      have t1 : w1.heap[(w.heap.size + 2)]? = some (.cells #[.bool false, .slice none 0 0, .slice none 0 0, .slice none 0 0] 31 (0, 0)) := (hB.block _ (by have := NX.out; omega)).trans TX.out
      have d0 := nd_cell hB b0
      have d1 := nd_cell hB b1
      have d2 := nd_cell hB b2
      have d3 := nd_cell hB b3
      have r0 := nd_cell hB q0
      have r1 := nd_cell hB q1
      clear b0 b1 b2 b3 q0 q1 hB

      go_wp2_with fail
      refine (KY.out _).mono ?_
      rintro e w2 ⟨rfl, hd⟩
      have hB := hd.below
      have B2 := Aside0.mk (B1.out.trans (hB.mono B1.out.size))
      have t2 : w2.heap[(w.heap.size + 2)]? = some (.cells #[.bool false, .slice none 0 0, .slice none 0 0, .slice none 0 0] 31 (0, 0)) := (hB.block _ (blk_lt t1)).trans t1
      have e0 := nd_cell hB d0
      have e1 := nd_cell hB d1
      have e2 := nd_cell hB d2
      have e3 := nd_cell hB d3
      have s0 := nd_cell hB r0
      have s1 := nd_cell hB r1
      clear d0 d1 d2 d3 r0 r1 hB hd t1

      have c0 : w2.cell? ⟨(w.heap.size + 2), 0, none⟩ = some (.bool false) := blk_cell t2 0
      have c1 : w2.cell? ⟨(w.heap.size + 2), 1, none⟩ = some (.slice none 0 0) := blk_cell t2 1
      have c2 : w2.cell? ⟨(w.heap.size + 2), 2, none⟩ = some (.slice none 0 0) := blk_cell t2 2
      have c3 : w2.cell? ⟨(w.heap.size + 2), 3, none⟩ = some (.slice none 0 0) := blk_cell t2 3
      have f0 : w2.frozen? ⟨(w.heap.size + 2), 0, none⟩ = false := blk_frozen t2 0
      have f1 : w2.frozen? ⟨(w.heap.size + 2), 1, none⟩ = false := blk_frozen t2 1
      have f2 : w2.frozen? ⟨(w.heap.size + 2), 2, none⟩ = false := blk_frozen t2 2
      have f3 : w2.frozen? ⟨(w.heap.size + 2), 3, none⟩ = false := blk_frozen t2 3
      go_wp2
      have hg4 := nd_grown4 w2 (w.heap.size + 2) (.bool false) (.slice none 0 0) (.slice none 0 0) (.slice none 0 0)
      refine bodyPost_ret (results_ct rfl _ _ (w.heap.size + 2) 31 #[.bool false, .slice none 0 0, .slice none 0 0, .slice none 0 0] (0, 0) _ rfl (nd_put4 w2 (w.heap.size + 2) 31 _ _ _ _ (.bool false) (.slice none 0 0) (.slice none 0 0) (.slice none 0 0) t2) Try.underlying31 rfl (by kernel_rfl)) rfl ?_
      exact ⟨_, _, _, rfl, Kd.R_nil _ _ _ _ _, Kd.R_nil _ _ _ _ _, Kd.R_nil _ _ _ _ _, nd_grown_below hg4 B2.out B2.out.size (by omega)⟩
  · rw [if_neg (fun h => hl h.1)] at h
    cases h
    rw [Bool.not_eq_true] at hl
    rw [hl] at LF
    clear hl
    obtain ⟨wy, hwy⟩ : ∃ wy, wy = ((w.alloc (.cells #[.bool a0_0, .slice A0_1 l0_1.length c0_1, .slice A0_2 l0_2.length c0_2, .slice A0_3 l0_3.length c0_3] 31)).alloc (.cells #[.string a1_0, .string a1_1] 48)) := ⟨_, rfl⟩
    obtain ⟨wx, hwx⟩ : ∃ wx, wx = wy.alloc (.cells #[.bool false, .slice none 0 0, .slice none 0 0, .slice none 0 0] 31) := ⟨_, rfl⟩
    have ny : wy.heap.size = (w.heap.size + 2) := by rw [hwy]; simp
    have b0y := heap_alloc_new w (.cells #[.bool a0_0, .slice A0_1 l0_1.length c0_1, .slice A0_2 l0_2.length c0_2, .slice A0_3 l0_3.length c0_3] 31)
    have p0y := heap_alloc_new (w.alloc (.cells #[.bool a0_0, .slice A0_1 l0_1.length c0_1, .slice A0_2 l0_2.length c0_2, .slice A0_3 l0_3.length c0_3] 31)) (.cells #[.string a1_0, .string a1_1] 48)
    have b1y := (Lib.alloc_old (w.alloc (.cells #[.bool a0_0, .slice A0_1 l0_1.length c0_1, .slice A0_2 l0_2.length c0_2, .slice A0_3 l0_3.length c0_3] 31)) (.cells #[.string a1_0, .string a1_1] 48) w.heap.size (blk_lt b0y)).trans b0y
    rw [← hwy] at p0y b1y
    have sy : (w.alloc (.cells #[.bool a0_0, .slice A0_1 l0_1.length c0_1, .slice A0_2 l0_2.length c0_2, .slice A0_3 l0_3.length c0_3] 31)).heap.size = w.heap.size + 1 := by simp
    rw [sy] at p0y
    have bel := below_alloc (below_alloc (Below.refl w.heap.size w) (.cells #[.bool a0_0, .slice A0_1 l0_1.length c0_1, .slice A0_2 l0_2.length c0_2, .slice A0_3 l0_3.length c0_3] 31)) (.cells #[.string a1_0, .string a1_1] 48)
    rw [← hwy] at bel
    have bx := (Lib.alloc_old wy (.cells #[.bool false, .slice none 0 0, .slice none 0 0, .slice none 0 0] 31) w.heap.size (blk_lt b1y)).trans b1y
    have tx := heap_alloc_new wy (.cells #[.bool false, .slice none 0 0, .slice none 0 0, .slice none 0 0] 31)
    rw [← hwx] at bx tx
    rw [ny] at tx
    have BXX : Aside0 (Below w.heap.size w wx) := ⟨by rw [hwx]; exact below_alloc bel _⟩
    have TX := Aside0.mk tx
    have NX : Aside0 (wx.heap.size = (w.heap.size + 2) + 1) := ⟨by rw [hwx]; simp; omega⟩
    have HWX : Aside0 (wx = ((w.alloc (.cells #[.bool a0_0, .slice A0_1 l0_1.length c0_1, .slice A0_2 l0_2.length c0_2, .slice A0_3 l0_3.length c0_3] 31)).alloc (.cells #[.string a1_0, .string a1_1] 48)).alloc (.cells #[.bool false, .slice none 0 0, .slice none 0 0, .slice none 0 0] 31)) := ⟨by rw [hwx, hwy]⟩
    have b0 : wx.cell? ⟨w.heap.size, 0, none⟩ = some (.bool a0_0) := blk_cell bx 0
    have b1 : wx.cell? ⟨w.heap.size, 1, none⟩ = some (.slice A0_1 l0_1.length c0_1) := blk_cell bx 1
    have b2 : wx.cell? ⟨w.heap.size, 2, none⟩ = some (.slice A0_2 l0_2.length c0_2) := blk_cell bx 2
    have b3 : wx.cell? ⟨w.heap.size, 3, none⟩ = some (.slice A0_3 l0_3.length c0_3) := blk_cell bx 3
    have px := (Lib.alloc_old wy (.cells #[.bool false, .slice none 0 0, .slice none 0 0, .slice none 0 0] 31) (w.heap.size + 1) (blk_lt p0y)).trans p0y
    rw [← hwx] at px
    have q0 : wx.cell? ⟨w.heap.size + 1, 0, none⟩ = some (.string a1_0) := blk_cell px 0
    have q1 : wx.cell? ⟨w.heap.size + 1, 1, none⟩ = some (.string a1_1) := blk_cell px 1
    clear px p0y sy
    clear hwx hwy ny b0y b1y bel bx tx
    go_enter Try.func28, Try.ntmps28
    go_wp2_with fail
    rw [← HWX.out]
    refine (LF.out _ BXX.out).mono ?_
    rintro e w1 ⟨rfl, hB⟩
    have B1 := Aside0.mk (BXX.out.trans (hB.mono BXX.out.size))
    have t1 : w1.heap[(w.heap.size + 2)]? = some (.cells #[.bool false, .slice none 0 0, .slice none 0 0, .slice none 0 0] 31 (0, 0)) := (hB.block _ (by have := NX.out; omega)).trans TX.out
    have d0 := nd_cell hB b0
    have d1 := nd_cell hB b1
    have d2 := nd_cell hB b2
    have d3 := nd_cell hB b3
    have r0 := nd_cell hB q0
    have r1 := nd_cell hB q1
    clear b0 b1 b2 b3 q0 q1 hB

    have c0 : w1.cell? ⟨(w.heap.size + 2), 0, none⟩ = some (.bool false) := blk_cell t1 0
    have c1 : w1.cell? ⟨(w.heap.size + 2), 1, none⟩ = some (.slice none 0 0) := blk_cell t1 1
    have c2 : w1.cell? ⟨(w.heap.size + 2), 2, none⟩ = some (.slice none 0 0) := blk_cell t1 2
    have c3 : w1.cell? ⟨(w.heap.size + 2), 3, none⟩ = some (.slice none 0 0) := blk_cell t1 3
    have f0 : w1.frozen? ⟨(w.heap.size + 2), 0, none⟩ = false := blk_frozen t1 0
    have f1 : w1.frozen? ⟨(w.heap.size + 2), 1, none⟩ = false := blk_frozen t1 1
    have f2 : w1.frozen? ⟨(w.heap.size + 2), 2, none⟩ = false := blk_frozen t1 2
    have f3 : w1.frozen? ⟨(w.heap.size + 2), 3, none⟩ = false := blk_frozen t1 3
    go_wp2
    have hg4 := nd_grown4 w1 (w.heap.size + 2) (.bool false) (.slice none 0 0) (.slice none 0 0) (.slice none 0 0)
    refine bodyPost_ret (results_ct rfl _ _ (w.heap.size + 2) 31 #[.bool false, .slice none 0 0, .slice none 0 0, .slice none 0 0] (0, 0) _ rfl (nd_put4 w1 (w.heap.size + 2) 31 _ _ _ _ (.bool false) (.slice none 0 0) (.slice none 0 0) (.slice none 0 0) t1) Try.underlying31 rfl (by kernel_rfl)) rfl ?_
    exact ⟨_, _, _, rfl, Kd.R_nil _ _ _ _ _, Kd.R_nil _ _ _ _ _, Kd.R_nil _ _ _ _ _, nd_grown_below hg4 B1.out B1.out.size (by omega)⟩
end
end Go.Proofs.Ytjjfeoigjhbbpaa.PA
namespace Go.Proofs.Ytjjfeoigjhbbpaa.PA
section

open Go.RowKit Go.Proofs.YtjjfeoigjhbbpaaW.PrintWords Go.Proofs.YtjjfeoigjhbbpaaW.PrintLast Go.Proofs.YtjjfeoigjhbbpaaW.PrintMore
attribute [local go_sem] pr_leq pr_geq pr_gtr max2_int min2_int max_two min_two max_three min_three max_four min_four
set_option linter.unusedVariables false
set_option linter.unusedSimpArgs false
def cisternlaw11_known.f  : Option (Bool) := (node_Encode.f true (([(⟨(⟨#[97]⟩ : ByteArray), (⟨#[49]⟩ : ByteArray)⟩ : S48)] : List (S48))) ([] : List ByteArray) ([] : List Int)).bind fun bt113 => (if bt113.2 = 0 then (some (bt113.1.toList == ([1, 1, 1, 97, 1, 49] : List UInt8))) else (some false))
set_option maxHeartbeats 8000000 in
set_option maxRecDepth 100000 in
theorem cisternlaw11_known.calls  (r : Bool) (w : World) (h : cisternlaw11_known.f  = some r) :
    Calls Try.prog 12 #[] w fun e w' => e = .returned (.bool r) ∧ Below w.heap.size w w' := by
  have hu48 := Try.underlying48
  have hu31 := Try.underlying31
  have HB := Aside0.mk (Below.refl w.heap.size w)
  have H : ((node_Encode.f true (([(⟨(⟨#[97]⟩ : ByteArray), (⟨#[49]⟩ : ByteArray)⟩ : S48)] : List (S48))) ([] : List ByteArray) ([] : List Int)).bind fun bt113 => (if bt113.2 = 0 then (some (bt113.1.toList == ([1, 1, 1, 97, 1, 49] : List UInt8))) else (some false))) = some r := h
  clear h
  obtain ⟨y110, hy110⟩ : ∃ y_ : List (S48), y_ = (([(⟨(⟨#[97]⟩ : ByteArray), (⟨#[49]⟩ : ByteArray)⟩ : S48)] : List (S48))) := ⟨_, rfl⟩
  replace H : ((node_Encode.f true y110 ([] : List ByteArray) ([] : List Int)).bind fun bt113 => (if bt113.2 = 0 then (some (bt113.1.toList == ([1, 1, 1, 97, 1, 49] : List UInt8))) else (some false))) = some r := by first | (rw [hy110]; with_reducible exact H) | (have H2_ := (Option.bind_some _ _).symm.trans H; rw [hy110]; with_reducible exact H2_) | (have H2_ := (Option.bind_some _ _).symm.trans H; with_reducible exact H2_) | with_reducible exact H | (rw [hy110]; exact H) | exact H
  have Ny110 := Aside0.mk hy110
  clear hy110
  replace H := Option.bind_eq_some_iff.mp H
  obtain ⟨⟨t113, t114⟩, A10, H⟩ := H
  replace H : (if t114 = 0 then (some (t113.toList == ([1, 1, 1, 97, 1, 49] : List UInt8))) else (some false)) = some r := H
  have A1 := Aside0.mk A10
  clear A10
  by_cases c2 : t114 = 0
  · rw [if_pos c2] at H
    have c2b0 : (t114 == 0) = true := beq_iff_eq.mpr c2
    have c2b1 : (t114 != 0) = false := bne_eq_false_iff_eq.mpr c2
    clear c2
    obtain rfl := Option.some.inj H
    go_enter Try.func12, Try.ntmps12
    go_wp2_with (first | ((with_reducible refine gate_dst (N := 5) rfl ?_); refine Kd.R_lit k48 _ 48 ?hg (N := 5) ?hd (xs := ([(⟨(⟨#[97]⟩ : ByteArray), (⟨#[49]⟩ : ByteArray)⟩ : S48)] : List (S48))) (inner := [.string (⟨#[97]⟩ : ByteArray), .string (⟨#[49]⟩ : ByteArray)]) (ok := fun _ => True) (okp := fun _ => True) ?hr ?hp (fun _ hk => hk) trivial (Below.refl _ _) (Nat.le_refl _) (by simp) ?_; (case hd => rfl); (case hg => rfl); (case hr => first | (go_simp; done) | (go_simp; rfl)); (case hp => exact (Reps.c2 (show Kd.M k48 _ _ _ (⟨(⟨#[97]⟩ : ByteArray), (⟨#[49]⟩ : ByteArray)⟩ : S48) [.string (⟨#[97]⟩ : ByteArray), .string (⟨#[49]⟩ : ByteArray)] from (k48_mkM _ _ _ (⟨(⟨#[97]⟩ : ByteArray), (⟨#[49]⟩ : ByteArray)⟩ : S48) )) (Reps.none _ _))); intro v111 w3 ho4 hb hg_ hnew_; clear hg_ hnew_; (first | rw [← Ny110.out] at ho4 | (simp only [Int.reduceToNat] at ho4; rw [← Ny110.out] at ho4)); have n0_ := Aside0.mk (Kd.R_lower ho4 (below_size (by repeat (first | (with_reducible first | exact HB.out | apply below_alloc | apply pw_below_drewN | apply below_drew1) | exact HB.out)))); have n1_ := Aside0.mk (below_step (by repeat (first | (with_reducible first | exact HB.out | apply below_alloc | apply pw_below_drewN | apply below_drew1) | exact HB.out)) hb); clear HB; have HO112 := n0_; have HB := n1_; clear n0_ n1_; clear hb ho4; obtain ⟨Ao5, co5, eo5⟩ := Kd.R_slice HO112.out; subst eo5) | ((with_reducible refine gate_callee (f := 13) rfl ?_); refine goesL_ (some 7) rfl rfl Try.func13 (by kernel_rfl) rfl #[.agg #[.bool true, .slice Ao5 y110.length co5, .slice none 0 0, .slice none 0 0]] rfl (by (try simp only [List.map_toArray, List.map_cons, List.map_nil]); first | done | rfl | (simp only [List.length_drop, List.length_take]; rfl)) ?_; (refine (node_Encode.calls true _ _ y110 _ _ ([] : List ByteArray) _ _ ([] : List Int) t113 t114 _ ?side1 ?side2 ?side3 ?side4 ?side5 ?side6 A1.out).mono ?_); (case side1 => repeat (first | exact (Kd.R_reads' HO112.out).2.2 | (with_reducible refine Kd.C_alloc ?_ _) | (with_reducible refine Kd.C_drewN ?_ _) | (with_reducible refine Kd.C_drew ?_))); (case side2 => exact (Kd.R_reads' HO112.out).2.1); (case side3 => exact Kd.C_nil _ _); (case side4 => exact Nat.le_refl _); (case side5 => exact Kd.C_nil _ _); (case side6 => exact Nat.le_refl _); rintro e w6 ⟨rfl, hb⟩; refine ⟨_, rfl, ?_⟩; have n0_ := Aside0.mk (Kd.R_below (by (with_reducible repeat (first | apply Kd.R_alloc | apply Kd.R_drewN | apply Kd.R_drew)); exact HO112.out) hb); have n1_ := Aside0.mk (below_step (by repeat (first | (with_reducible first | exact HB.out | apply below_alloc | apply pw_below_drewN | apply below_drew1) | exact HB.out)) hb); clear HO112; clear HB; have HO112 := n0_; have HB := n1_; clear n0_ n1_; (try clear hb); (try clear hb2); (try clear hk); (try clear hi)))
    go_ret
    exact ⟨by first | rfl | (simp [errW_none, errW_some] <;> rfl) | (simp [*, errW_none, errW_some] <;> rfl), by repeat (first | (with_reducible first | exact HB.out | apply below_alloc | apply pw_below_drewN | apply below_drew1) | exact HB.out)⟩
  · rw [if_neg c2] at H
    have c2b0 : (t114 == 0) = false := beq_eq_false_iff_ne.mpr c2
    have c2b1 : (t114 != 0) = true := bne_iff_ne.mpr c2
    obtain rfl := Option.some.inj H
    go_enter Try.func12, Try.ntmps12
    go_wp2_with (first | ((with_reducible refine gate_dst (N := 5) rfl ?_); refine Kd.R_lit k48 _ 48 ?hg (N := 5) ?hd (xs := ([(⟨(⟨#[97]⟩ : ByteArray), (⟨#[49]⟩ : ByteArray)⟩ : S48)] : List (S48))) (inner := [.string (⟨#[97]⟩ : ByteArray), .string (⟨#[49]⟩ : ByteArray)]) (ok := fun _ => True) (okp := fun _ => True) ?hr ?hp (fun _ hk => hk) trivial (Below.refl _ _) (Nat.le_refl _) (by simp) ?_; (case hd => rfl); (case hg => rfl); (case hr => first | (go_simp; done) | (go_simp; rfl)); (case hp => exact (Reps.c2 (show Kd.M k48 _ _ _ (⟨(⟨#[97]⟩ : ByteArray), (⟨#[49]⟩ : ByteArray)⟩ : S48) [.string (⟨#[97]⟩ : ByteArray), .string (⟨#[49]⟩ : ByteArray)] from (k48_mkM _ _ _ (⟨(⟨#[97]⟩ : ByteArray), (⟨#[49]⟩ : ByteArray)⟩ : S48) )) (Reps.none _ _))); intro v111 w7 ho8 hb hg_ hnew_; clear hg_ hnew_; (first | rw [← Ny110.out] at ho8 | (simp only [Int.reduceToNat] at ho8; rw [← Ny110.out] at ho8)); have n0_ := Aside0.mk (Kd.R_lower ho8 (below_size (by repeat (first | (with_reducible first | exact HB.out | apply below_alloc | apply pw_below_drewN | apply below_drew1) | exact HB.out)))); have n1_ := Aside0.mk (below_step (by repeat (first | (with_reducible first | exact HB.out | apply below_alloc | apply pw_below_drewN | apply below_drew1) | exact HB.out)) hb); clear HB; have HO112 := n0_; have HB := n1_; clear n0_ n1_; clear hb ho8; obtain ⟨Ao9, co9, eo9⟩ := Kd.R_slice HO112.out; subst eo9) | ((with_reducible refine gate_callee (f := 13) rfl ?_); refine goesL_ (some 7) rfl rfl Try.func13 (by kernel_rfl) rfl #[.agg #[.bool true, .slice Ao9 y110.length co9, .slice none 0 0, .slice none 0 0]] rfl (by (try simp only [List.map_toArray, List.map_cons, List.map_nil]); first | done | rfl | (simp only [List.length_drop, List.length_take]; rfl)) ?_; (refine (node_Encode.calls true _ _ y110 _ _ ([] : List ByteArray) _ _ ([] : List Int) t113 t114 _ ?side1 ?side2 ?side3 ?side4 ?side5 ?side6 A1.out).mono ?_); (case side1 => repeat (first | exact (Kd.R_reads' HO112.out).2.2 | (with_reducible refine Kd.C_alloc ?_ _) | (with_reducible refine Kd.C_drewN ?_ _) | (with_reducible refine Kd.C_drew ?_))); (case side2 => exact (Kd.R_reads' HO112.out).2.1); (case side3 => exact Kd.C_nil _ _); (case side4 => exact Nat.le_refl _); (case side5 => exact Kd.C_nil _ _); (case side6 => exact Nat.le_refl _); rintro e w10 ⟨rfl, hb⟩; refine ⟨_, rfl, ?_⟩; have n0_ := Aside0.mk (Kd.R_below (by (with_reducible repeat (first | apply Kd.R_alloc | apply Kd.R_drewN | apply Kd.R_drew)); exact HO112.out) hb); have n1_ := Aside0.mk (below_step (by repeat (first | (with_reducible first | exact HB.out | apply below_alloc | apply pw_below_drewN | apply below_drew1) | exact HB.out)) hb); clear HO112; clear HB; have HO112 := n0_; have HB := n1_; clear n0_ n1_; (try clear hb); (try clear hb2); (try clear hk); (try clear hi)))
    go_ret
    exact ⟨by first | rfl | (simp [errW_none, errW_some] <;> rfl) | (simp [*, errW_none, errW_some] <;> rfl), by repeat (first | (with_reducible first | exact HB.out | apply below_alloc | apply pw_below_drewN | apply below_drew1) | exact HB.out)⟩
end
end Go.Proofs.Ytjjfeoigjhbbpaa.PA
namespace Go.Proofs.Ytjjfeoigjhbbpaa.PA
section

open Go.RowKit Go.Proofs.YtjjfeoigjhbbpaaW.PrintWords Go.Proofs.YtjjfeoigjhbbpaaW.PrintLast Go.Proofs.YtjjfeoigjhbbpaaW.PrintMore
attribute [local go_sem] pr_leq pr_geq pr_gtr max2_int min2_int max_two min_two max_three min_three max_four min_four
set_option linter.unusedVariables false
set_option linter.unusedSimpArgs false
theorem nd_take {P : Program} {md : Region.Mode} {ops : Array Oper} {Q : Exit → Act → World → Prop} {S : World → Prop} {fuel : Nat} {listed : Array Bool} {a : Act} {w : World} (i : Nat) {oi : Oper} {v : Value} {a' : Act} (hS : S w)
    (h : wpAnyH P md ops Q S fuel (listed.setIfInBounds i true) a' w) (hi : ops[i]? = some oi := by rfl) (hs : Region.noSelect ops = true := by kernel_rfl) (hf : Region.free md ops listed i = true := by kernel_rfl) (hr : (Region.ready md ops listed).contains i = true := by kernel_rfl)
    (hQ : ∀ c a w, Q (.panic c) (a.put oi.dst v) w → Q (.panic c) a w := by exact fun _ _ _ h => h)
    (hy : YieldsIf P ops S oi v a := by exact Or.inl ⟨by rfl, by (intro w hSw; (try dsimp only at hSw); go_simp; try with_reducible rfl)⟩)
    (ha : a.put oi.dst v = a' := by (first | (simp only [Act.put, List.getElem_toArray, List.getElem_cons_zero, List.getElem_cons_succ, List.setIfInBounds_toArray, List.set_cons_zero, List.set_cons_succ]; done) | (simp only [Act.put, List.getElem_toArray, List.getElem_cons_zero, List.getElem_cons_succ, List.setIfInBounds_toArray, List.set_cons_zero, List.set_cons_succ]; rfl))) :
    wpAnyH P md ops Q S (fuel + 1) listed a w := by
  subst ha
  exact wpAnyH_take hi hs hf hr hQ hy hS h
end
end Go.Proofs.Ytjjfeoigjhbbpaa.PA
namespace Go.Proofs.Ytjjfeoigjhbbpaa.PA
section

open Go.RowKit Go.Proofs.YtjjfeoigjhbbpaaW.PrintWords Go.Proofs.YtjjfeoigjhbbpaaW.PrintLast Go.Proofs.YtjjfeoigjhbbpaaW.PrintMore
attribute [local go_sem] pr_leq pr_geq pr_gtr max2_int min2_int max_two min_two max_three min_three max_four min_four
set_option linter.unusedVariables false
set_option linter.unusedSimpArgs false
theorem eqA48 (d : Nat) (w : World) (x0 y0 : ByteArray) (x1 y1 : ByteArray) :
    (Op.equalIn (d + 2) 48 (.agg #[.string x0, .string x1]) (.agg #[.string y0, .string y1])).run Try.prog w = .ok (x0.toList == y0.toList && (x1.toList == y1.toList)) w := by
  refine eqA_of Try.underlying48 (by kernel_rfl) ?_
  refine eqf_cons (by rfl) (by go_simp; rfl) (by go_simp; rfl) (by go_simp) ?_
  exact eqf_last (by rfl) (by go_simp; rfl) (by go_simp; rfl) (by go_simp)
end
end Go.Proofs.Ytjjfeoigjhbbpaa.PA
