/- Texts of this claim: contracts of the functions that the statement reaches, and plain laws of what they compute. -/
import Derived.Test.YtjjfeoigjhbbpaaQE2
set_option linter.unusedVariables false
set_option linter.unusedSimpArgs false
namespace Go.Proofs.Ytjjfeoigjhbbpaa.PA
section

open Go.RowKit Go.Proofs.YtjjfeoigjhbbpaaW.PrintWords Go.Proofs.YtjjfeoigjhbbpaaW.PrintLast Go.Proofs.YtjjfeoigjhbbpaaW.PrintMore
attribute [local go_sem] pr_leq pr_geq pr_gtr max2_int min2_int max_two min_two max_three min_three max_four min_four
set_option linter.unusedVariables false
set_option linter.unusedSimpArgs false
def node_Put.v (a0_0 : Bool) (l0_1 : List (S48)) (l0_2 : List ByteArray) (l0_3 : List Int) (a1_0 : ByteArray) (a1_1 : ByteArray) : Bool × List S48 × List ByteArray × List Int × Int := if leafV a0_0 l0_1 l0_2 l0_3 = true ∧ keyB a1_0 = true ∧ a1_1.size ≤ 48 then (if isP l0_1 a1_0 = true then (true, l0_1.set (atP l0_1 a1_0) ⟨a1_0, a1_1⟩, [], [], 0) else if l0_1.length = 255 then (false, [], [], [], 2) else (true, l0_1.take (atP l0_1 a1_0) ++ (⟨a1_0, a1_1⟩ : S48) :: l0_1.drop (atP l0_1 a1_0), [], [], 0)) else (false, [], [], [], 2)
def node_Put.f (a0_0 : Bool) (l0_1 : List (S48)) (l0_2 : List ByteArray) (l0_3 : List Int) (a1_0 : ByteArray) (a1_1 : ByteArray) : Option (Bool × List S48 × List ByteArray × List Int × Int) := some (node_Put.v a0_0 l0_1 l0_2 l0_3 a1_0 a1_1)
set_option maxHeartbeats 4000000 in
set_option maxRecDepth 100000 in
theorem node_Put.calls (a0_0 : Bool) (A0_1 : Option Addr) (c0_1 : Nat) (l0_1 : List S48) (A0_2 : Option Addr) (c0_2 : Nat) (l0_2 : List ByteArray) (A0_3 : Option Addr) (c0_3 : Nat) (l0_3 : List Int) (a1_0 : ByteArray) (a1_1 : ByteArray) (r1 : Bool) (r2 : List (S48)) (r3 : List ByteArray) (r4 : List Int) (r5 : Int) (w : World) (hr0_1 : Kd.C k48 w A0_1 l0_1.length l0_1) (hc0_1 : l0_1.length ≤ c0_1) (hr0_2 : Kd.C Kd.string w A0_2 l0_2.length l0_2) (hc0_2 : l0_2.length ≤ c0_2) (hr0_3 : Kd.C (Kd.int .i64) w A0_3 l0_3.length l0_3) (hc0_3 : l0_3.length ≤ c0_3) (h : node_Put.f a0_0 l0_1 l0_2 l0_3 a1_0 a1_1 = some (r1, r2, r3, r4, r5)) :
    Calls Try.prog 28 #[.agg #[.bool a0_0, .slice A0_1 l0_1.length c0_1, .slice A0_2 l0_2.length c0_2, .slice A0_3 l0_3.length c0_3], .agg #[.string a1_0, .string a1_1]] w fun e w' => ∃ v1_ v2_ v3_ : Value, e = .returned (.tuple #[.agg #[.bool r1, v1_, v2_, v3_], .int .i64 r5]) ∧ Kd.R k48 48 w' w.heap.size (fun _ => True) v1_ r2 ∧ Kd.R Kd.string 9 w' w.heap.size (fun _ => True) v2_ r3 ∧ Kd.R (Kd.int .i64) 3 w' w.heap.size (fun _ => True) v3_ r4 ∧ Below w.heap.size w w' := by
  have LF := Aside0.mk (fun W hw => node_Node_leaf.calls a0_0 A0_1 c0_1 l0_1 A0_2 c0_2 l0_2 A0_3 c0_3 l0_3 (leafV a0_0 l0_1 l0_2 l0_3) W (Kd.C_below hr0_1 hw) hc0_1 (Kd.C_below hr0_2 hw) hc0_2 (Kd.C_below hr0_3 hw) hc0_3 rfl)
  have CL := Aside0.mk (fun W hw hb => api_Pair_44.calls A0_1 c0_1 l0_1 l0_1 W (Kd.C_below hr0_1 hw) hc0_1 (by unfold api_Pair_44.f; rw [if_pos hb]))
  have KY := Aside0.mk (fun W => node_isKey.calls a1_0 (keyB a1_0) W (isKey_val a1_0))
  replace h := Option.some.inj h
  unfold node_Put.v at h
  clear hr0_1 hc0_1 hr0_2 hc0_2 hr0_3 hc0_3
  by_cases hl : leafV a0_0 l0_1 l0_2 l0_3 = true
  · have hlen : l0_1.length ≤ 255 := (leafV_true hl).2.2.2.1
    rw [hl] at LF h
    clear hl
    by_cases hk : keyB a1_0 = true
    · rw [hk] at KY h
      clear hk
      by_cases hv : a1_1.size ≤ 48
      · rw [if_pos ⟨rfl, rfl, hv⟩] at h
        have hv1 : decide ((48 : Int) < (a1_1.size : Int)) = false := decide_eq_false (by omega)
        have hv2 : ¬ ((48 : Int) < (a1_1.size : Int)) := by omega
        clear hv
        obtain ⟨k, hk⟩ : ∃ k, k = atP l0_1 a1_0 := ⟨_, rfl⟩
        obtain ⟨b, hb⟩ : ∃ b, b = isP l0_1 a1_0 := ⟨_, rfl⟩
        have hkl : k ≤ l0_1.length := by rw [hk]; exact (srch_bounds _ _ 0 _ (Nat.le_refl _) (by omega)).2
        have hbk : b = true → k < l0_1.length := fun e => by rw [hb] at e; unfold isP at e; simp at e; rw [hk]; exact e.1
        have HK := Aside0.mk hk
        have HBb := Aside0.mk hb
        rw [← hk, ← hb] at h
        clear hk hb
        cases b
        · rw [if_neg (by decide)] at h
          by_cases h255 : l0_1.length = 255
          · rw [if_pos h255] at h
            cases h
            clear hbk
            have g255 : ((l0_1.length : Int) == 255) = true := beq_iff_eq.2 (by omega)
            have H255 := Aside0.mk h255
            clear h255
            obtain ⟨wy, hwy⟩ : ∃ wy, wy = ((w.alloc (.cells #[.bool a0_0, .slice A0_1 l0_1.length c0_1, .slice A0_2 l0_2.length c0_2, .slice A0_3 l0_3.length c0_3] 31)).alloc (.cells #[.string a1_0, .string a1_1] 48)) := ⟨_, rfl⟩
            obtain ⟨wx, hwx⟩ : ∃ wx, wx = wy.alloc (.cells #[.bool false, .slice none 0 0, .slice none 0 0, .slice none 0 0] 31) := ⟨_, rfl⟩
            have ny : wy.heap.size = (w.heap.size + 2) := by rw [hwy]; simp
            have b0y := heap_alloc_new w (.cells #[.bool a0_0, .slice A0_1 l0_1.length c0_1, .slice A0_2 l0_2.length c0_2, .slice A0_3 l0_3.length c0_3] 31)
            have p0y := heap_alloc_new (w.alloc (.cells #[.bool a0_0, .slice A0_1 l0_1.length c0_1, .slice A0_2 l0_2.length c0_2, .slice A0_3 l0_3.length c0_3] 31)) (.cells #[.string a1_0, .string a1_1] 48)
            have b1y := (Lib.alloc_old (w.alloc (.cells #[.bool a0_0, .slice A0_1 l0_1.length c0_1, .slice A0_2 l0_2.length c0_2, .slice A0_3 l0_3.length c0_3] 31)) (.cells #[.string a1_0, .string a1_1] 48) w.heap.size (blk_lt b0y)).trans b0y
            rw [← hwy] at p0y b1y
            have sy : (w.alloc (.cells #[.bool a0_0, .slice A0_1 l0_1.length c0_1, .slice A0_2 l0_2.length c0_2, .slice A0_3 l0_3.length c0_3] 31)).heap.size = w.heap.size + 1 := by simp
            rw [sy] at p0y
            have bel := below_alloc (below_alloc (Below.refl w.heap.size w) (.cells #[.bool a0_0, .slice A0_1 l0_1.length c0_1, .slice A0_2 l0_2.length c0_2, .slice A0_3 l0_3.length c0_3] 31)) (.cells #[.string a1_0, .string a1_1] 48)
            rw [← hwy] at bel
            have bx := (Lib.alloc_old wy (.cells #[.bool false, .slice none 0 0, .slice none 0 0, .slice none 0 0] 31) w.heap.size (blk_lt b1y)).trans b1y
            have tx := heap_alloc_new wy (.cells #[.bool false, .slice none 0 0, .slice none 0 0, .slice none 0 0] 31)
            rw [← hwx] at bx tx
            rw [ny] at tx
            have BXX : Aside0 (Below w.heap.size w wx) := ⟨by rw [hwx]; exact below_alloc bel _⟩
            have TX := Aside0.mk tx
            have NX : Aside0 (wx.heap.size = (w.heap.size + 2) + 1) := ⟨by rw [hwx]; simp; omega⟩
            have HWX : Aside0 (wx = ((w.alloc (.cells #[.bool a0_0, .slice A0_1 l0_1.length c0_1, .slice A0_2 l0_2.length c0_2, .slice A0_3 l0_3.length c0_3] 31)).alloc (.cells #[.string a1_0, .string a1_1] 48)).alloc (.cells #[.bool false, .slice none 0 0, .slice none 0 0, .slice none 0 0] 31)) := ⟨by rw [hwx, hwy]⟩
            have b0 : wx.cell? ⟨w.heap.size, 0, none⟩ = some (.bool a0_0) := blk_cell bx 0
            have b1 : wx.cell? ⟨w.heap.size, 1, none⟩ = some (.slice A0_1 l0_1.length c0_1) := blk_cell bx 1
            have b2 : wx.cell? ⟨w.heap.size, 2, none⟩ = some (.slice A0_2 l0_2.length c0_2) := blk_cell bx 2
            have b3 : wx.cell? ⟨w.heap.size, 3, none⟩ = some (.slice A0_3 l0_3.length c0_3) := blk_cell bx 3
            have px := (Lib.alloc_old wy (.cells #[.bool false, .slice none 0 0, .slice none 0 0, .slice none 0 0] 31) (w.heap.size + 1) (blk_lt p0y)).trans p0y
            rw [← hwx] at px
            have q0 : wx.cell? ⟨w.heap.size + 1, 0, none⟩ = some (.string a1_0) := blk_cell px 0
            have q1 : wx.cell? ⟨w.heap.size + 1, 1, none⟩ = some (.string a1_1) := blk_cell px 1
            clear px p0y sy
            clear hwx hwy ny b0y b1y bel bx tx
            go_enter Try.func28, Try.ntmps28
            go_wp2_with fail
            rw [← HWX.out]
            refine (LF.out _ BXX.out).mono ?_
            rintro e w1 ⟨rfl, hB⟩
            have B1 := Aside0.mk (BXX.out.trans (hB.mono BXX.out.size))
            have t1 : w1.heap[(w.heap.size + 2)]? = some (.cells #[.bool false, .slice none 0 0, .slice none 0 0, .slice none 0 0] 31 (0, 0)) := (hB.block _ (by have := NX.out; omega)).trans TX.out
            have d0 := nd_cell hB b0
            have d1 := nd_cell hB b1
            have d2 := nd_cell hB b2
            have d3 := nd_cell hB b3
            have r0 := nd_cell hB q0
            have r1 := nd_cell hB q1
            clear b0 b1 b2 b3 q0 q1 hB

            go_wp2_with fail
            refine (KY.out _).mono ?_
            rintro e w2 ⟨rfl, hd⟩
            have hB := hd.below
            have B2 := Aside0.mk (B1.out.trans (hB.mono B1.out.size))
            have t2 : w2.heap[(w.heap.size + 2)]? = some (.cells #[.bool false, .slice none 0 0, .slice none 0 0, .slice none 0 0] 31 (0, 0)) := (hB.block _ (blk_lt t1)).trans t1
            have e0 := nd_cell hB d0
            have e1 := nd_cell hB d1
            have e2 := nd_cell hB d2
            have e3 := nd_cell hB d3
            have s0 := nd_cell hB r0
            have s1 := nd_cell hB r1
            clear d0 d1 d2 d3 r0 r1 hB hd t1

            have T2 := Aside0.mk t2
            have hz := blk_lt t2
            clear t2
            go_wp2_with fail
            refine (CL.out _ B2.out (by omega)).mono ?_
            rintro e w3 ⟨v0, rfl, hR, hB⟩
            have B3 := Aside0.mk (B2.out.trans (hB.mono B2.out.size))
            have t3 : w3.heap[(w.heap.size + 2)]? = some (.cells #[.bool false, .slice none 0 0, .slice none 0 0, .slice none 0 0] 31 (0, 0)) := (hB.block _ hz).trans T2.out
            have m0 := nd_cell hB s0
            have m1 := nd_cell hB s1
            have hZ := Aside0.mk hz
            have S3 := Aside0.mk hB.size
            obtain ⟨A, c, rfl⟩ := Kd.R_slice hR
            have R3 := Aside0.mk hR
            have hcl : l0_1.length ≤ c := (Kd.R_reads' hR).2.1
            have PA := Aside0.mk (node_pairAt.calls A c l0_1 a1_0 (k : Int) false w3 (Kd.R_reads' hR).2.2 hcl (by unfold node_pairAt.f; rw [HK.out, HBb.out]))
            clear hR hB hz s0 s1 e0 e1 e2 e3
            go_wp2_with fail
            refine PA.out.mono ?_
            rintro e w4 ⟨rfl, hB⟩
            have B4 := Aside0.mk (B3.out.trans (hB.mono B3.out.size))
            have S4 := Aside0.mk (Nat.le_trans S3.out hB.size)
            have t4 : w4.heap[(w.heap.size + 2)]? = some (.cells #[.bool false, .slice none 0 0, .slice none 0 0, .slice none 0 0] 31 (0, 0)) := (hB.block _ (blk_lt t3)).trans t3
            have n0 := nd_cell hB m0
            have n1 := nd_cell hB m1
            have R4 := Aside0.mk (Kd.R_below R3.out hB)
            clear hB m0 m1 t3 R3

            have c0 : w4.cell? ⟨(w.heap.size + 2), 0, none⟩ = some (.bool false) := blk_cell t4 0
            have c1 : w4.cell? ⟨(w.heap.size + 2), 1, none⟩ = some (.slice none 0 0) := blk_cell t4 1
            have c2 : w4.cell? ⟨(w.heap.size + 2), 2, none⟩ = some (.slice none 0 0) := blk_cell t4 2
            have c3 : w4.cell? ⟨(w.heap.size + 2), 3, none⟩ = some (.slice none 0 0) := blk_cell t4 3
            have f0 : w4.frozen? ⟨(w.heap.size + 2), 0, none⟩ = false := blk_frozen t4 0
            have f1 : w4.frozen? ⟨(w.heap.size + 2), 1, none⟩ = false := blk_frozen t4 1
            have f2 : w4.frozen? ⟨(w.heap.size + 2), 2, none⟩ = false := blk_frozen t4 2
            have f3 : w4.frozen? ⟨(w.heap.size + 2), 3, none⟩ = false := blk_frozen t4 3
            go_wp2
            have hg4 := nd_grown4 w4 (w.heap.size + 2) (.bool false) (.slice none 0 0) (.slice none 0 0) (.slice none 0 0)
            refine bodyPost_ret (results_ct rfl _ _ (w.heap.size + 2) 31 #[.bool false, .slice none 0 0, .slice none 0 0, .slice none 0 0] (0, 0) _ rfl (nd_put4 w4 (w.heap.size + 2) 31 _ _ _ _ (.bool false) (.slice none 0 0) (.slice none 0 0) (.slice none 0 0) t4) Try.underlying31 rfl (by kernel_rfl)) rfl ?_
            exact ⟨_, _, _, rfl, Kd.R_nil _ _ _ _ _, Kd.R_nil _ _ _ _ _, Kd.R_nil _ _ _ _ _, nd_grown_below hg4 B4.out B4.out.size (by omega)⟩
          · rw [if_neg h255] at h
            cases h
            clear hbk
            have g255 : ((l0_1.length : Int) == 255) = false := beq_eq_false_iff_ne.2 (by omega)
            have g255' : ¬ ((l0_1.length : Int) = 255) := by omega
            obtain ⟨wy, hwy⟩ : ∃ wy, wy = ((w.alloc (.cells #[.bool a0_0, .slice A0_1 l0_1.length c0_1, .slice A0_2 l0_2.length c0_2, .slice A0_3 l0_3.length c0_3] 31)).alloc (.cells #[.string a1_0, .string a1_1] 48)) := ⟨_, rfl⟩
            obtain ⟨wx, hwx⟩ : ∃ wx, wx = wy.alloc (.cells #[.bool false, .slice none 0 0, .slice none 0 0, .slice none 0 0] 31) := ⟨_, rfl⟩
            have ny : wy.heap.size = (w.heap.size + 2) := by rw [hwy]; simp
            have b0y := heap_alloc_new w (.cells #[.bool a0_0, .slice A0_1 l0_1.length c0_1, .slice A0_2 l0_2.length c0_2, .slice A0_3 l0_3.length c0_3] 31)
            have p0y := heap_alloc_new (w.alloc (.cells #[.bool a0_0, .slice A0_1 l0_1.length c0_1, .slice A0_2 l0_2.length c0_2, .slice A0_3 l0_3.length c0_3] 31)) (.cells #[.string a1_0, .string a1_1] 48)
            have b1y := (Lib.alloc_old (w.alloc (.cells #[.bool a0_0, .slice A0_1 l0_1.length c0_1, .slice A0_2 l0_2.length c0_2, .slice A0_3 l0_3.length c0_3] 31)) (.cells #[.string a1_0, .string a1_1] 48) w.heap.size (blk_lt b0y)).trans b0y
            rw [← hwy] at p0y b1y
            have sy : (w.alloc (.cells #[.bool a0_0, .slice A0_1 l0_1.length c0_1, .slice A0_2 l0_2.length c0_2, .slice A0_3 l0_3.length c0_3] 31)).heap.size = w.heap.size + 1 := by simp
            rw [sy] at p0y
            have bel := below_alloc (below_alloc (Below.refl w.heap.size w) (.cells #[.bool a0_0, .slice A0_1 l0_1.length c0_1, .slice A0_2 l0_2.length c0_2, .slice A0_3 l0_3.length c0_3] 31)) (.cells #[.string a1_0, .string a1_1] 48)
            rw [← hwy] at bel
            have bx := (Lib.alloc_old wy (.cells #[.bool false, .slice none 0 0, .slice none 0 0, .slice none 0 0] 31) w.heap.size (blk_lt b1y)).trans b1y
            have tx := heap_alloc_new wy (.cells #[.bool false, .slice none 0 0, .slice none 0 0, .slice none 0 0] 31)
            rw [← hwx] at bx tx
            rw [ny] at tx
            have BXX : Aside0 (Below w.heap.size w wx) := ⟨by rw [hwx]; exact below_alloc bel _⟩
            have TX := Aside0.mk tx
            have NX : Aside0 (wx.heap.size = (w.heap.size + 2) + 1) := ⟨by rw [hwx]; simp; omega⟩
            have HWX : Aside0 (wx = ((w.alloc (.cells #[.bool a0_0, .slice A0_1 l0_1.length c0_1, .slice A0_2 l0_2.length c0_2, .slice A0_3 l0_3.length c0_3] 31)).alloc (.cells #[.string a1_0, .string a1_1] 48)).alloc (.cells #[.bool false, .slice none 0 0, .slice none 0 0, .slice none 0 0] 31)) := ⟨by rw [hwx, hwy]⟩
            have b0 : wx.cell? ⟨w.heap.size, 0, none⟩ = some (.bool a0_0) := blk_cell bx 0
            have b1 : wx.cell? ⟨w.heap.size, 1, none⟩ = some (.slice A0_1 l0_1.length c0_1) := blk_cell bx 1
            have b2 : wx.cell? ⟨w.heap.size, 2, none⟩ = some (.slice A0_2 l0_2.length c0_2) := blk_cell bx 2
            have b3 : wx.cell? ⟨w.heap.size, 3, none⟩ = some (.slice A0_3 l0_3.length c0_3) := blk_cell bx 3
            have px := (Lib.alloc_old wy (.cells #[.bool false, .slice none 0 0, .slice none 0 0, .slice none 0 0] 31) (w.heap.size + 1) (blk_lt p0y)).trans p0y
            rw [← hwx] at px
            have q0 : wx.cell? ⟨w.heap.size + 1, 0, none⟩ = some (.string a1_0) := blk_cell px 0
            have q1 : wx.cell? ⟨w.heap.size + 1, 1, none⟩ = some (.string a1_1) := blk_cell px 1
            clear px p0y sy
            clear hwx hwy ny b0y b1y bel bx tx
            go_enter Try.func28, Try.ntmps28
            go_wp2_with fail
            rw [← HWX.out]
            refine (LF.out _ BXX.out).mono ?_
            rintro e w1 ⟨rfl, hB⟩
            have B1 := Aside0.mk (BXX.out.trans (hB.mono BXX.out.size))
            have t1 : w1.heap[(w.heap.size + 2)]? = some (.cells #[.bool false, .slice none 0 0, .slice none 0 0, .slice none 0 0] 31 (0, 0)) := (hB.block _ (by have := NX.out; omega)).trans TX.out
            have d0 := nd_cell hB b0
            have d1 := nd_cell hB b1
            have d2 := nd_cell hB b2
            have d3 := nd_cell hB b3
            have r0 := nd_cell hB q0
            have r1 := nd_cell hB q1
            clear b0 b1 b2 b3 q0 q1 hB

            go_wp2_with fail
            refine (KY.out _).mono ?_
            rintro e w2 ⟨rfl, hd⟩
            have hB := hd.below
            have B2 := Aside0.mk (B1.out.trans (hB.mono B1.out.size))
            have t2 : w2.heap[(w.heap.size + 2)]? = some (.cells #[.bool false, .slice none 0 0, .slice none 0 0, .slice none 0 0] 31 (0, 0)) := (hB.block _ (blk_lt t1)).trans t1
            have e0 := nd_cell hB d0
            have e1 := nd_cell hB d1
            have e2 := nd_cell hB d2
            have e3 := nd_cell hB d3
            have s0 := nd_cell hB r0
            have s1 := nd_cell hB r1
            clear d0 d1 d2 d3 r0 r1 hB hd t1

            have T2 := Aside0.mk t2
            have hz := blk_lt t2
            clear t2
            go_wp2_with fail
            refine (CL.out _ B2.out (by omega)).mono ?_
            rintro e w3 ⟨v0, rfl, hR, hB⟩
            have B3 := Aside0.mk (B2.out.trans (hB.mono B2.out.size))
            have t3 : w3.heap[(w.heap.size + 2)]? = some (.cells #[.bool false, .slice none 0 0, .slice none 0 0, .slice none 0 0] 31 (0, 0)) := (hB.block _ hz).trans T2.out
            have m0 := nd_cell hB s0
            have m1 := nd_cell hB s1
            have hZ := Aside0.mk hz
            have S3 := Aside0.mk hB.size
            obtain ⟨A, c, rfl⟩ := Kd.R_slice hR
            have R3 := Aside0.mk hR
            have hcl : l0_1.length ≤ c := (Kd.R_reads' hR).2.1
            have PA := Aside0.mk (node_pairAt.calls A c l0_1 a1_0 (k : Int) false w3 (Kd.R_reads' hR).2.2 hcl (by unfold node_pairAt.f; rw [HK.out, HBb.out]))
            clear hR hB hz s0 s1 e0 e1 e2 e3
            go_wp2_with fail
            refine PA.out.mono ?_
            rintro e w4 ⟨rfl, hB⟩
            have B4 := Aside0.mk (B3.out.trans (hB.mono B3.out.size))
            have S4 := Aside0.mk (Nat.le_trans S3.out hB.size)
            have t4 : w4.heap[(w.heap.size + 2)]? = some (.cells #[.bool false, .slice none 0 0, .slice none 0 0, .slice none 0 0] 31 (0, 0)) := (hB.block _ (blk_lt t3)).trans t3
            have n0 := nd_cell hB m0
            have n1 := nd_cell hB m1
            have R4 := Aside0.mk (Kd.R_below R3.out hB)
            clear hB m0 m1 t3 R3

            have T4 := Aside0.mk t4
            have kv := Aside0.mk (heap_alloc_new w4 (.cells #[.string a1_0, .string a1_1] 48))
            have bv := below_alloc (Below.refl w4.heap.size w4) (.cells #[.string a1_0, .string a1_1] 48)
            have INS := Aside0.mk (insert_one w2.heap.size A c l0_1 k w4.heap.size ⟨a1_0, a1_1⟩ _ (Kd.R_below R4.out bv) kv.out (fun a ha => by
              subst ha
              obtain ⟨_, h0 | ⟨g, cs, e, h1, h2, _⟩⟩ := R48_open R4.out
              · cases h0.1
              · cases e
                have := blk_lt h2
                show w4.heap.size ≠ g
                omega) (Nat.le_trans S4.out bv.size) (by omega) hkl)
            have BV := Aside0.mk bv
            clear t4 bv
            go_wp2_with fail
            refine INS.out.mono ?_
            rintro e w5 ⟨v5, rfl, hR, _, hB⟩
            obtain ⟨A5, c5, rfl⟩ := Kd.R_slice hR
            have t5 : w5.heap[(w.heap.size + 2)]? = some (.cells #[.bool false, .slice none 0 0, .slice none 0 0, .slice none 0 0] 31 (0, 0)) := (hB.block _ hZ.out).trans ((BV.out.block _ (blk_lt T4.out)).trans T4.out)
            have B5 := Aside0.mk ((B4.out.trans (BV.out.mono B4.out.size)).trans (hB.mono B2.out.size))
            have R5 := Aside0.mk hR
            clear hR hB n0 n1
            obtain ⟨n5, hn5⟩ : ∃ n, n = (l0_1.take k ++ (⟨a1_0, a1_1⟩ : S48) :: l0_1.drop k).length := ⟨_, rfl⟩
            rw [← hn5] at R5 ⊢
            clear hn5
            have c0 : w5.cell? ⟨(w.heap.size + 2), 0, none⟩ = some (.bool false) := blk_cell t5 0
            have c1 : w5.cell? ⟨(w.heap.size + 2), 1, none⟩ = some (.slice none 0 0) := blk_cell t5 1
            have c2 : w5.cell? ⟨(w.heap.size + 2), 2, none⟩ = some (.slice none 0 0) := blk_cell t5 2
            have c3 : w5.cell? ⟨(w.heap.size + 2), 3, none⟩ = some (.slice none 0 0) := blk_cell t5 3
            have f0 : w5.frozen? ⟨(w.heap.size + 2), 0, none⟩ = false := blk_frozen t5 0
            have f1 : w5.frozen? ⟨(w.heap.size + 2), 1, none⟩ = false := blk_frozen t5 1
            have f2 : w5.frozen? ⟨(w.heap.size + 2), 2, none⟩ = false := blk_frozen t5 2
            have f3 : w5.frozen? ⟨(w.heap.size + 2), 3, none⟩ = false := blk_frozen t5 3
            go_wp2
            have hg4 := nd_grown4 w5 (w.heap.size + 2) (.bool true) (.slice A5 n5 c5) (.slice none 0 0) (.slice none 0 0)
            refine bodyPost_ret (results_ct rfl _ _ (w.heap.size + 2) 31 #[.bool true, .slice A5 n5 c5, .slice none 0 0, .slice none 0 0] (0, 0) _ rfl (nd_put4 w5 (w.heap.size + 2) 31 _ _ _ _ (.bool true) (.slice A5 n5 c5) (.slice none 0 0) (.slice none 0 0) t5) Try.underlying31 rfl (by kernel_rfl)) rfl ?_
            exact ⟨_, _, _, rfl, Kd.R_lower (R_grown_far R5.out hg4 hZ.out) B2.out.size, Kd.R_nil _ _ _ _ _, Kd.R_nil _ _ _ _ _, nd_grown_below hg4 B5.out B5.out.size (by omega)⟩
        · rw [if_pos rfl] at h
          cases h
          have hk1 := hbk rfl
          clear hbk
          have p1 : (0 : Int) ≤ (k : Int) := by omega
          have q1' : (k : Int) < (l0_1.length : Int) := by omega
          obtain ⟨wy, hwy⟩ : ∃ wy, wy = ((w.alloc (.cells #[.bool a0_0, .slice A0_1 l0_1.length c0_1, .slice A0_2 l0_2.length c0_2, .slice A0_3 l0_3.length c0_3] 31)).alloc (.cells #[.string a1_0, .string a1_1] 48)) := ⟨_, rfl⟩
          obtain ⟨wx, hwx⟩ : ∃ wx, wx = wy.alloc (.cells #[.bool false, .slice none 0 0, .slice none 0 0, .slice none 0 0] 31) := ⟨_, rfl⟩
          have ny : wy.heap.size = (w.heap.size + 2) := by rw [hwy]; simp
          have b0y := heap_alloc_new w (.cells #[.bool a0_0, .slice A0_1 l0_1.length c0_1, .slice A0_2 l0_2.length c0_2, .slice A0_3 l0_3.length c0_3] 31)
          have p0y := heap_alloc_new (w.alloc (.cells #[.bool a0_0, .slice A0_1 l0_1.length c0_1, .slice A0_2 l0_2.length c0_2, .slice A0_3 l0_3.length c0_3] 31)) (.cells #[.string a1_0, .string a1_1] 48)
          have b1y := (Lib.alloc_old (w.alloc (.cells #[.bool a0_0, .slice A0_1 l0_1.length c0_1, .slice A0_2 l0_2.length c0_2, .slice A0_3 l0_3.length c0_3] 31)) (.cells #[.string a1_0, .string a1_1] 48) w.heap.size (blk_lt b0y)).trans b0y
          rw [← hwy] at p0y b1y
          have sy : (w.alloc (.cells #[.bool a0_0, .slice A0_1 l0_1.length c0_1, .slice A0_2 l0_2.length c0_2, .slice A0_3 l0_3.length c0_3] 31)).heap.size = w.heap.size + 1 := by simp
          rw [sy] at p0y
          have bel := below_alloc (below_alloc (Below.refl w.heap.size w) (.cells #[.bool a0_0, .slice A0_1 l0_1.length c0_1, .slice A0_2 l0_2.length c0_2, .slice A0_3 l0_3.length c0_3] 31)) (.cells #[.string a1_0, .string a1_1] 48)
          rw [← hwy] at bel
          have bx := (Lib.alloc_old wy (.cells #[.bool false, .slice none 0 0, .slice none 0 0, .slice none 0 0] 31) w.heap.size (blk_lt b1y)).trans b1y
          have tx := heap_alloc_new wy (.cells #[.bool false, .slice none 0 0, .slice none 0 0, .slice none 0 0] 31)
          rw [← hwx] at bx tx
          rw [ny] at tx
          have BXX : Aside0 (Below w.heap.size w wx) := ⟨by rw [hwx]; exact below_alloc bel _⟩
          have TX := Aside0.mk tx
          have NX : Aside0 (wx.heap.size = (w.heap.size + 2) + 1) := ⟨by rw [hwx]; simp; omega⟩
          have HWX : Aside0 (wx = ((w.alloc (.cells #[.bool a0_0, .slice A0_1 l0_1.length c0_1, .slice A0_2 l0_2.length c0_2, .slice A0_3 l0_3.length c0_3] 31)).alloc (.cells #[.string a1_0, .string a1_1] 48)).alloc (.cells #[.bool false, .slice none 0 0, .slice none 0 0, .slice none 0 0] 31)) := ⟨by rw [hwx, hwy]⟩
          have b0 : wx.cell? ⟨w.heap.size, 0, none⟩ = some (.bool a0_0) := blk_cell bx 0
          have b1 : wx.cell? ⟨w.heap.size, 1, none⟩ = some (.slice A0_1 l0_1.length c0_1) := blk_cell bx 1
          have b2 : wx.cell? ⟨w.heap.size, 2, none⟩ = some (.slice A0_2 l0_2.length c0_2) := blk_cell bx 2
          have b3 : wx.cell? ⟨w.heap.size, 3, none⟩ = some (.slice A0_3 l0_3.length c0_3) := blk_cell bx 3
          have px := (Lib.alloc_old wy (.cells #[.bool false, .slice none 0 0, .slice none 0 0, .slice none 0 0] 31) (w.heap.size + 1) (blk_lt p0y)).trans p0y
          rw [← hwx] at px
          have q0 : wx.cell? ⟨w.heap.size + 1, 0, none⟩ = some (.string a1_0) := blk_cell px 0
          have q1 : wx.cell? ⟨w.heap.size + 1, 1, none⟩ = some (.string a1_1) := blk_cell px 1
          clear px p0y sy
          clear hwx hwy ny b0y b1y bel bx tx
          go_enter Try.func28, Try.ntmps28
          go_wp2_with fail
          rw [← HWX.out]
          refine (LF.out _ BXX.out).mono ?_
          rintro e w1 ⟨rfl, hB⟩
          have B1 := Aside0.mk (BXX.out.trans (hB.mono BXX.out.size))
          have t1 : w1.heap[(w.heap.size + 2)]? = some (.cells #[.bool false, .slice none 0 0, .slice none 0 0, .slice none 0 0] 31 (0, 0)) := (hB.block _ (by have := NX.out; omega)).trans TX.out
          have d0 := nd_cell hB b0
          have d1 := nd_cell hB b1
          have d2 := nd_cell hB b2
          have d3 := nd_cell hB b3
          have r0 := nd_cell hB q0
          have r1 := nd_cell hB q1
          clear b0 b1 b2 b3 q0 q1 hB

          go_wp2_with fail
          refine (KY.out _).mono ?_
          rintro e w2 ⟨rfl, hd⟩
          have hB := hd.below
          have B2 := Aside0.mk (B1.out.trans (hB.mono B1.out.size))
          have t2 : w2.heap[(w.heap.size + 2)]? = some (.cells #[.bool false, .slice none 0 0, .slice none 0 0, .slice none 0 0] 31 (0, 0)) := (hB.block _ (blk_lt t1)).trans t1
          have e0 := nd_cell hB d0
          have e1 := nd_cell hB d1
          have e2 := nd_cell hB d2
          have e3 := nd_cell hB d3
          have s0 := nd_cell hB r0
          have s1 := nd_cell hB r1
          clear d0 d1 d2 d3 r0 r1 hB hd t1

          have T2 := Aside0.mk t2
          have hz := blk_lt t2
          clear t2
          go_wp2_with fail
          refine (CL.out _ B2.out (by omega)).mono ?_
          rintro e w3 ⟨v0, rfl, hR, hB⟩
          have B3 := Aside0.mk (B2.out.trans (hB.mono B2.out.size))
          have t3 : w3.heap[(w.heap.size + 2)]? = some (.cells #[.bool false, .slice none 0 0, .slice none 0 0, .slice none 0 0] 31 (0, 0)) := (hB.block _ hz).trans T2.out
          have m0 := nd_cell hB s0
          have m1 := nd_cell hB s1
          have hZ := Aside0.mk hz
          have S3 := Aside0.mk hB.size
          obtain ⟨A, c, rfl⟩ := Kd.R_slice hR
          have R3 := Aside0.mk hR
          have hcl : l0_1.length ≤ c := (Kd.R_reads' hR).2.1
          have PA := Aside0.mk (node_pairAt.calls A c l0_1 a1_0 (k : Int) true w3 (Kd.R_reads' hR).2.2 hcl (by unfold node_pairAt.f; rw [HK.out, HBb.out]))
          clear hR hB hz s0 s1 e0 e1 e2 e3
          go_wp2_with fail
          refine PA.out.mono ?_
          rintro e w4 ⟨rfl, hB⟩
          have B4 := Aside0.mk (B3.out.trans (hB.mono B3.out.size))
          have S4 := Aside0.mk (Nat.le_trans S3.out hB.size)
          have t4 : w4.heap[(w.heap.size + 2)]? = some (.cells #[.bool false, .slice none 0 0, .slice none 0 0, .slice none 0 0] 31 (0, 0)) := (hB.block _ (blk_lt t3)).trans t3
          have n0 := nd_cell hB m0
          have n1 := nd_cell hB m1
          have R4 := Aside0.mk (Kd.R_below R3.out hB)
          clear hB m0 m1 t3 R3

          obtain ⟨g, rfl, HG, x0, x1, y0, y1, HRP⟩ := R48_put (⟨a1_0, a1_1⟩ : S48) R4.out hk1
          have hgr : g ≠ (w.heap.size + 2) := by have := HG.out; have := hZ.out; omega
          have t5 : ((w4.setCell ⟨g, k * 2, none⟩ (.string a1_0)).setCell ⟨g, k * 2 + 1, none⟩ (.string a1_1)).heap[(w.heap.size + 2)]? = some (.cells #[.bool false, .slice none 0 0, .slice none 0 0, .slice none 0 0] 31 (0, 0)) := (Below.heap_setCell _ ⟨g, k * 2 + 1, none⟩ _ _ (fun e => hgr e.symm)).trans ((Below.heap_setCell _ ⟨g, k * 2, none⟩ _ _ (fun e => hgr e.symm)).trans t4)
          have B5 : Aside0 (Below w.heap.size w ((w4.setCell ⟨g, k * 2, none⟩ (.string a1_0)).setCell ⟨g, k * 2 + 1, none⟩ (.string a1_1))) := ⟨(B4.out.setCell (p := ⟨g, k * 2, none⟩) (Nat.le_trans B2.out.size HG.out) _).setCell (p := ⟨g, k * 2 + 1, none⟩) (Nat.le_trans B2.out.size HG.out) _⟩
          clear t4
          have c0 : ((w4.setCell ⟨g, k * 2, none⟩ (.string a1_0)).setCell ⟨g, k * 2 + 1, none⟩ (.string a1_1)).cell? ⟨(w.heap.size + 2), 0, none⟩ = some (.bool false) := blk_cell t5 0
          have c1 : ((w4.setCell ⟨g, k * 2, none⟩ (.string a1_0)).setCell ⟨g, k * 2 + 1, none⟩ (.string a1_1)).cell? ⟨(w.heap.size + 2), 1, none⟩ = some (.slice none 0 0) := blk_cell t5 1
          have c2 : ((w4.setCell ⟨g, k * 2, none⟩ (.string a1_0)).setCell ⟨g, k * 2 + 1, none⟩ (.string a1_1)).cell? ⟨(w.heap.size + 2), 2, none⟩ = some (.slice none 0 0) := blk_cell t5 2
          have c3 : ((w4.setCell ⟨g, k * 2, none⟩ (.string a1_0)).setCell ⟨g, k * 2 + 1, none⟩ (.string a1_1)).cell? ⟨(w.heap.size + 2), 3, none⟩ = some (.slice none 0 0) := blk_cell t5 3
          have f0 : ((w4.setCell ⟨g, k * 2, none⟩ (.string a1_0)).setCell ⟨g, k * 2 + 1, none⟩ (.string a1_1)).frozen? ⟨(w.heap.size + 2), 0, none⟩ = false := blk_frozen t5 0
          have f1 : ((w4.setCell ⟨g, k * 2, none⟩ (.string a1_0)).setCell ⟨g, k * 2 + 1, none⟩ (.string a1_1)).frozen? ⟨(w.heap.size + 2), 1, none⟩ = false := blk_frozen t5 1
          have f2 : ((w4.setCell ⟨g, k * 2, none⟩ (.string a1_0)).setCell ⟨g, k * 2 + 1, none⟩ (.string a1_1)).frozen? ⟨(w.heap.size + 2), 2, none⟩ = false := blk_frozen t5 2
          have f3 : ((w4.setCell ⟨g, k * 2, none⟩ (.string a1_0)).setCell ⟨g, k * 2 + 1, none⟩ (.string a1_1)).frozen? ⟨(w.heap.size + 2), 3, none⟩ = false := blk_frozen t5 3
          go_wp2
          have hg4 := nd_grown4 ((w4.setCell ⟨g, k * 2, none⟩ (.string a1_0)).setCell ⟨g, k * 2 + 1, none⟩ (.string a1_1)) (w.heap.size + 2) (.bool true) (.slice (some ⟨g, 0, none⟩) l0_1.length c) (.slice none 0 0) (.slice none 0 0)
          refine bodyPost_ret (results_ct rfl _ _ (w.heap.size + 2) 31 #[.bool true, .slice (some ⟨g, 0, none⟩) l0_1.length c, .slice none 0 0, .slice none 0 0] (0, 0) _ rfl (nd_put4 ((w4.setCell ⟨g, k * 2, none⟩ (.string a1_0)).setCell ⟨g, k * 2 + 1, none⟩ (.string a1_1)) (w.heap.size + 2) 31 _ _ _ _ (.bool true) (.slice (some ⟨g, 0, none⟩) l0_1.length c) (.slice none 0 0) (.slice none 0 0) t5) Try.underlying31 rfl (by kernel_rfl)) rfl ?_
          exact ⟨_, _, _, rfl, Kd.R_lower (R_grown_far HRP.out hg4 hZ.out) B2.out.size, Kd.R_nil _ _ _ _ _, Kd.R_nil _ _ _ _ _, nd_grown_below hg4 B5.out B5.out.size (by omega)⟩
      · rw [if_neg (fun h => hv h.2.2)] at h
        cases h
        have hv1 : decide ((48 : Int) < (a1_1.size : Int)) = true := decide_eq_true (by omega)
        have hv2 : (48 : Int) < (a1_1.size : Int) := by omega
        clear hv
        obtain ⟨wy, hwy⟩ : ∃ wy, wy = ((w.alloc (.cells #[.bool a0_0, .slice A0_1 l0_1.length c0_1, .slice A0_2 l0_2.length c0_2, .slice A0_3 l0_3.length c0_3] 31)).alloc (.cells #[.string a1_0, .string a1_1] 48)) := ⟨_, rfl⟩
        obtain ⟨wx, hwx⟩ : ∃ wx, wx = wy.alloc (.cells #[.bool false, .slice none 0 0, .slice none 0 0, .slice none 0 0] 31) := ⟨_, rfl⟩
        have ny : wy.heap.size = (w.heap.size + 2) := by rw [hwy]; simp
        have b0y := heap_alloc_new w (.cells #[.bool a0_0, .slice A0_1 l0_1.length c0_1, .slice A0_2 l0_2.length c0_2, .slice A0_3 l0_3.length c0_3] 31)
        have p0y := heap_alloc_new (w.alloc (.cells #[.bool a0_0, .slice A0_1 l0_1.length c0_1, .slice A0_2 l0_2.length c0_2, .slice A0_3 l0_3.length c0_3] 31)) (.cells #[.string a1_0, .string a1_1] 48)
        have b1y := (Lib.alloc_old (w.alloc (.cells #[.bool a0_0, .slice A0_1 l0_1.length c0_1, .slice A0_2 l0_2.length c0_2, .slice A0_3 l0_3.length c0_3] 31)) (.cells #[.string a1_0, .string a1_1] 48) w.heap.size (blk_lt b0y)).trans b0y
        rw [← hwy] at p0y b1y
        have sy : (w.alloc (.cells #[.bool a0_0, .slice A0_1 l0_1.length c0_1, .slice A0_2 l0_2.length c0_2, .slice A0_3 l0_3.length c0_3] 31)).heap.size = w.heap.size + 1 := by simp
        rw [sy] at p0y
        have bel := below_alloc (below_alloc (Below.refl w.heap.size w) (.cells #[.bool a0_0, .slice A0_1 l0_1.length c0_1, .slice A0_2 l0_2.length c0_2, .slice A0_3 l0_3.length c0_3] 31)) (.cells #[.string a1_0, .string a1_1] 48)
        rw [← hwy] at bel
        have bx := (Lib.alloc_old wy (.cells #[.bool false, .slice none 0 0, .slice none 0 0, .slice none 0 0] 31) w.heap.size (blk_lt b1y)).trans b1y
        have tx := heap_alloc_new wy (.cells #[.bool false, .slice none 0 0, .slice none 0 0, .slice none 0 0] 31)
        rw [← hwx] at bx tx
        rw [ny] at tx
        have BXX : Aside0 (Below w.heap.size w wx) := ⟨by rw [hwx]; exact below_alloc bel _⟩
        have TX := Aside0.mk tx
        have NX : Aside0 (wx.heap.size = (w.heap.size + 2) + 1) := ⟨by rw [hwx]; simp; omega⟩
        have HWX : Aside0 (wx = ((w.alloc (.cells #[.bool a0_0, .slice A0_1 l0_1.length c0_1, .slice A0_2 l0_2.length c0_2, .slice A0_3 l0_3.length c0_3] 31)).alloc (.cells #[.string a1_0, .string a1_1] 48)).alloc (.cells #[.bool false, .slice none 0 0, .slice none 0 0, .slice none 0 0] 31)) := ⟨by rw [hwx, hwy]⟩
        have b0 : wx.cell? ⟨w.heap.size, 0, none⟩ = some (.bool a0_0) := blk_cell bx 0
        have b1 : wx.cell? ⟨w.heap.size, 1, none⟩ = some (.slice A0_1 l0_1.length c0_1) := blk_cell bx 1
        have b2 : wx.cell? ⟨w.heap.size, 2, none⟩ = some (.slice A0_2 l0_2.length c0_2) := blk_cell bx 2
        have b3 : wx.cell? ⟨w.heap.size, 3, none⟩ = some (.slice A0_3 l0_3.length c0_3) := blk_cell bx 3
        have px := (Lib.alloc_old wy (.cells #[.bool false, .slice none 0 0, .slice none 0 0, .slice none 0 0] 31) (w.heap.size + 1) (blk_lt p0y)).trans p0y
        rw [← hwx] at px
        have q0 : wx.cell? ⟨w.heap.size + 1, 0, none⟩ = some (.string a1_0) := blk_cell px 0
        have q1 : wx.cell? ⟨w.heap.size + 1, 1, none⟩ = some (.string a1_1) := blk_cell px 1
        clear px p0y sy
        clear hwx hwy ny b0y b1y bel bx tx
        go_enter Try.func28, Try.ntmps28
        go_wp2_with fail
        rw [← HWX.out]
        refine (LF.out _ BXX.out).mono ?_
        rintro e w1 ⟨rfl, hB⟩
        have B1 := Aside0.mk (BXX.out.trans (hB.mono BXX.out.size))
        have t1 : w1.heap[(w.heap.size + 2)]? = some (.cells #[.bool false, .slice none 0 0, .slice none 0 0, .slice none 0 0] 31 (0, 0)) := (hB.block _ (by have := NX.out; omega)).trans TX.out
        have d0 := nd_cell hB b0
        have d1 := nd_cell hB b1
        have d2 := nd_cell hB b2
        have d3 := nd_cell hB b3
        have r0 := nd_cell hB q0
        have r1 := nd_cell hB q1
        clear b0 b1 b2 b3 q0 q1 hB

        go_wp2_with fail
        refine (KY.out _).mono ?_
        rintro e w2 ⟨rfl, hd⟩
        have hB := hd.below
        have B2 := Aside0.mk (B1.out.trans (hB.mono B1.out.size))
        have t2 : w2.heap[(w.heap.size + 2)]? = some (.cells #[.bool false, .slice none 0 0, .slice none 0 0, .slice none 0 0] 31 (0, 0)) := (hB.block _ (blk_lt t1)).trans t1
        have e0 := nd_cell hB d0
        have e1 := nd_cell hB d1
        have e2 := nd_cell hB d2
        have e3 := nd_cell hB d3
        have s0 := nd_cell hB r0
        have s1 := nd_cell hB r1
        clear d0 d1 d2 d3 r0 r1 hB hd t1

        have c0 : w2.cell? ⟨(w.heap.size + 2), 0, none⟩ = some (.bool false) := blk_cell t2 0
        have c1 : w2.cell? ⟨(w.heap.size + 2), 1, none⟩ = some (.slice none 0 0) := blk_cell t2 1
        have c2 : w2.cell? ⟨(w.heap.size + 2), 2, none⟩ = some (.slice none 0 0) := blk_cell t2 2
        have c3 : w2.cell? ⟨(w.heap.size + 2), 3, none⟩ = some (.slice none 0 0) := blk_cell t2 3
        have f0 : w2.frozen? ⟨(w.heap.size + 2), 0, none⟩ = false := blk_frozen t2 0
        have f1 : w2.frozen? ⟨(w.heap.size + 2), 1, none⟩ = false := blk_frozen t2 1
        have f2 : w2.frozen? ⟨(w.heap.size + 2), 2, none⟩ = false := blk_frozen t2 2
        have f3 : w2.frozen? ⟨(w.heap.size + 2), 3, none⟩ = false := blk_frozen t2 3
        go_wp2
        have hg4 := nd_grown4 w2 (w.heap.size + 2) (.bool false) (.slice none 0 0) (.slice none 0 0) (.slice none 0 0)
        refine bodyPost_ret (results_ct rfl _ _ (w.heap.size + 2) 31 #[.bool false, .slice none 0 0, .slice none 0 0, .slice none 0 0] (0, 0) _ rfl (nd_put4 w2 (w.heap.size + 2) 31 _ _ _ _ (.bool false) (.slice none 0 0) (.slice none 0 0) (.slice none 0 0) t2) Try.underlying31 rfl (by kernel_rfl)) rfl ?_
        exact ⟨_, _, _, rfl, Kd.R_nil _ _ _ _ _, Kd.R_nil _ _ _ _ _, Kd.R_nil _ _ _ _ _, nd_grown_below hg4 B2.out B2.out.size (by omega)⟩
    · rw [if_neg (fun h => hk h.2.1)] at h
      cases h
      rw [Bool.not_eq_true] at hk
      rw [hk] at KY
      clear hk
      obtain ⟨wy, hwy⟩ : ∃ wy, wy = ((w.alloc (.cells #[.bool a0_0, .slice A0_1 l0_1.length c0_1, .slice A0_2 l0_2.length c0_2, .slice A0_3 l0_3.length c0_3] 31)).alloc (.cells #[.string a1_0, .string a1_1] 48)) := ⟨_, rfl⟩
      obtain ⟨wx, hwx⟩ : ∃ wx, wx = wy.alloc (.cells #[.bool false, .slice none 0 0, .slice none 0 0, .slice none 0 0] 31) := ⟨_, rfl⟩
      have ny : wy.heap.size = (w.heap.size + 2) := by rw [hwy]; simp
      have b0y := heap_alloc_new w (.cells #[.bool a0_0, .slice A0_1 l0_1.length c0_1, .slice A0_2 l0_2.length c0_2, .slice A0_3 l0_3.length c0_3] 31)
      have p0y := heap_alloc_new (w.alloc (.cells #[.bool a0_0, .slice A0_1 l0_1.length c0_1, .slice A0_2 l0_2.length c0_2, .slice A0_3 l0_3.length c0_3] 31)) (.cells #[.string a1_0, .string a1_1] 48)
      have b1y := (Lib.alloc_old (w.alloc (.cells #[.bool a0_0, .slice A0_1 l0_1.length c0_1, .slice A0_2 l0_2.length c0_2, .slice A0_3 l0_3.length c0_3] 31)) (.cells #[.string a1_0, .string a1_1] 48) w.heap.size (blk_lt b0y)).trans b0y
      rw [← hwy] at p0y b1y
      have sy : (w.alloc (.cells #[.bool a0_0, .slice A0_1 l0_1.length c0_1, .slice A0_2 l0_2.length c0_2, .slice A0_3 l0_3.length c0_3] 31)).heap.size = w.heap.size + 1 := by simp
      rw [sy] at p0y
      have bel := below_alloc (below_alloc (Below.refl w.heap.size w) (.cells #[.bool a0_0, .slice A0_1 l0_1.length c0_1, .slice A0_2 l0_2.length c0_2, .slice A0_3 l0_3.length c0_3] 31)) (.cells #[.string a1_0, .string a1_1] 48)
      rw [← hwy] at bel
      have bx := (Lib.alloc_old wy (.cells #[.bool false, .slice none 0 0, .slice none 0 0, .slice none 0 0] 31) w.heap.size (blk_lt b1y)).trans b1y
      have tx := heap_alloc_new wy (.cells #[.bool false, .slice none 0 0, .slice none 0 0, .slice none 0 0] 31)
      rw [← hwx] at bx tx
      rw [ny] at tx
      have BXX : Aside0 (Below w.heap.size w wx) := ⟨by rw [hwx]; exact below_alloc bel _⟩
      have TX := Aside0.mk tx
      have NX : Aside0 (wx.heap.size = (w.heap.size + 2) + 1) := ⟨by rw [hwx]; simp; omega⟩
      have HWX : Aside0 (wx = ((w.alloc (.cells #[.bool a0_0, .slice A0_1 l0_1.length c0_1, .slice A0_2 l0_2.length c0_2, .slice A0_3 l0_3.length c0_3] 31)).alloc (.cells #[.string a1_0, .string a1_1] 48)).alloc (.cells #[.bool false, .slice none 0 0, .slice none 0 0, .slice none 0 0] 31)) := ⟨by rw [hwx, hwy]⟩
      have b0 : wx.cell? ⟨w.heap.size, 0, none⟩ = some (.bool a0_0) := blk_cell bx 0
      have b1 : wx.cell? ⟨w.heap.size, 1, none⟩ = some (.slice A0_1 l0_1.length c0_1) := blk_cell bx 1
      have b2 : wx.cell? ⟨w.heap.size, 2, none⟩ = some (.slice A0_2 l0_2.length c0_2) := blk_cell bx 2
      have b3 : wx.cell? ⟨w.heap.size, 3, none⟩ = some (.slice A0_3 l0_3.length c0_3) := blk_cell bx 3
      have px := (Lib.alloc_old wy (.cells #[.bool false, .slice none 0 0, .slice none 0 0, .slice none 0 0] 31) (w.heap.size + 1) (blk_lt p0y)).trans p0y
      rw [← hwx] at px
      have q0 : wx.cell? ⟨w.heap.size + 1, 0, none⟩ = some (.string a1_0) := blk_cell px 0
      have q1 : wx.cell? ⟨w.heap.size + 1, 1, none⟩ = some (.string a1_1) := blk_cell px 1
      clear px p0y sy
      clear hwx hwy ny b0y b1y bel bx tx
      go_enter Try.func28, Try.ntmps28
      go_wp2_with fail
      rw [← HWX.out]
      refine (LF.out _ BXX.out).mono ?_
      rintro e w1 ⟨rfl, hB⟩
      have B1 := Aside0.mk (BXX.out.trans (hB.mono BXX.out.size))
      have t1 : w1.heap[(w.heap.size + 2)]? = some (.cells #[.bool false, .slice none 0 0, .slice none 0 0, .slice none 0 0] 31 (0, 0)) := (hB.block _ (by have := NX.out; omega)).trans TX.out
      have d0 := nd_cell hB b0
      have d1 := nd_cell hB b1
      have d2 := nd_cell hB b2
      have d3 := nd_cell hB b3
      have r0 := nd_cell hB q0
      have r1 := nd_cell hB q1
      clear b0 b1 b2 b3 q0 q1 hB

      go_wp2_with fail
      refine (KY.out _).mono ?_
      rintro e w2 ⟨rfl, hd⟩
      have hB := hd.below
      have B2 := Aside0.mk (B1.out.trans (hB.mono B1.out.size))
      have t2 : w2.heap[(w.heap.size + 2)]? = some (.cells #[.bool false, .slice none 0 0, .slice none 0 0, .slice none 0 0] 31 (0, 0)) := (hB.block _ (blk_lt t1)).trans t1
      have e0 := nd_cell hB d0
      have e1 := nd_cell hB d1
      have e2 := nd_cell hB d2
      have e3 := nd_cell hB d3
      have s0 := nd_cell hB r0
      have s1 := nd_cell hB r1
      clear d0 d1 d2 d3 r0 r1 hB hd t1

      have c0 : w2.cell? ⟨(w.heap.size + 2), 0, none⟩ = some (.bool false) := blk_cell t2 0
      have c1 : w2.cell? ⟨(w.heap.size + 2), 1, none⟩ = some (.slice none 0 0) := blk_cell t2 1
      have c2 : w2.cell? ⟨(w.heap.size + 2), 2, none⟩ = some (.slice none 0 0) := blk_cell t2 2
      have c3 : w2.cell? ⟨(w.heap.size + 2), 3, none⟩ = some (.slice none 0 0) := blk_cell t2 3
      have f0 : w2.frozen? ⟨(w.heap.size + 2), 0, none⟩ = false := blk_frozen t2 0
      have f1 : w2.frozen? ⟨(w.heap.size + 2), 1, none⟩ = false := blk_frozen t2 1
      have f2 : w2.frozen? ⟨(w.heap.size + 2), 2, none⟩ = false := blk_frozen t2 2
      have f3 : w2.frozen? ⟨(w.heap.size + 2), 3, none⟩ = false := blk_frozen t2 3
      go_wp2
      have hg4 := nd_grown4 w2 (w.heap.size + 2) (.bool false) (.slice none 0 0) (.slice none 0 0) (.slice none 0 0)
      refine bodyPost_ret (results_ct rfl _ _ (w.heap.size + 2) 31 #[.bool false, .slice none 0 0, .slice none 0 0, .slice none 0 0] (0, 0) _ rfl (nd_put4 w2 (w.heap.size + 2) 31 _ _ _ _ (.bool false) (.slice none 0 0) (.slice none 0 0) (.slice none 0 0) t2) Try.underlying31 rfl (by kernel_rfl)) rfl ?_
      exact ⟨_, _, _, rfl, Kd.R_nil _ _ _ _ _, Kd.R_nil _ _ _ _ _, Kd.R_nil _ _ _ _ _, nd_grown_below hg4 B2.out B2.out.size (by omega)⟩
  · rw [if_neg (fun h => hl h.1)] at h
    cases h
    rw [Bool.not_eq_true] at hl
    rw [hl] at LF
    clear hl
    obtain ⟨wy, hwy⟩ : ∃ wy, wy = ((w.alloc (.cells #[.bool a0_0, .slice A0_1 l0_1.length c0_1, .slice A0_2 l0_2.length c0_2, .slice A0_3 l0_3.length c0_3] 31)).alloc (.cells #[.string a1_0, .string a1_1] 48)) := ⟨_, rfl⟩
    obtain ⟨wx, hwx⟩ : ∃ wx, wx = wy.alloc (.cells #[.bool false, .slice none 0 0, .slice none 0 0, .slice none 0 0] 31) := ⟨_, rfl⟩
    have ny : wy.heap.size = (w.heap.size + 2) := by rw [hwy]; simp
    have b0y := heap_alloc_new w (.cells #[.bool a0_0, .slice A0_1 l0_1.length c0_1, .slice A0_2 l0_2.length c0_2, .slice A0_3 l0_3.length c0_3] 31)
    have p0y := heap_alloc_new (w.alloc (.cells #[.bool a0_0, .slice A0_1 l0_1.length c0_1, .slice A0_2 l0_2.length c0_2, .slice A0_3 l0_3.length c0_3] 31)) (.cells #[.string a1_0, .string a1_1] 48)
    have b1y := (Lib.alloc_old (w.alloc (.cells #[.bool a0_0, .slice A0_1 l0_1.length c0_1, .slice A0_2 l0_2.length c0_2, .slice A0_3 l0_3.length c0_3] 31)) (.cells #[.string a1_0, .string a1_1] 48) w.heap.size (blk_lt b0y)).trans b0y
    rw [← hwy] at p0y b1y
    have sy : (w.alloc (.cells #[.bool a0_0, .slice A0_1 l0_1.length c0_1, .slice A0_2 l0_2.length c0_2, .slice A0_3 l0_3.length c0_3] 31)).heap.size = w.heap.size + 1 := by simp
    rw [sy] at p0y
    have bel := below_alloc (below_alloc (Below.refl w.heap.size w) (.cells #[.bool a0_0, .slice A0_1 l0_1.length c0_1, .slice A0_2 l0_2.length c0_2, .slice A0_3 l0_3.length c0_3] 31)) (.cells #[.string a1_0, .string a1_1] 48)
    rw [← hwy] at bel
    have bx := (Lib.alloc_old wy (.cells #[.bool false, .slice none 0 0, .slice none 0 0, .slice none 0 0] 31) w.heap.size (blk_lt b1y)).trans b1y
    have tx := heap_alloc_new wy (.cells #[.bool false, .slice none 0 0, .slice none 0 0, .slice none 0 0] 31)
    rw [← hwx] at bx tx
    rw [ny] at tx
    have BXX : Aside0 (Below w.heap.size w wx) := ⟨by rw [hwx]; exact below_alloc bel _⟩
    have TX := Aside0.mk tx
    have NX : Aside0 (wx.heap.size = (w.heap.size + 2) + 1) := ⟨by rw [hwx]; simp; omega⟩
    have HWX : Aside0 (wx = ((w.alloc (.cells #[.bool a0_0, .slice A0_1 l0_1.length c0_1, .slice A0_2 l0_2.length c0_2, .slice A0_3 l0_3.length c0_3] 31)).alloc (.cells #[.string a1_0, .string a1_1] 48)).alloc (.cells #[.bool false, .slice none 0 0, .slice none 0 0, .slice none 0 0] 31)) := ⟨by rw [hwx, hwy]⟩
    have b0 : wx.cell? ⟨w.heap.size, 0, none⟩ = some (.bool a0_0) := blk_cell bx 0
    have b1 : wx.cell? ⟨w.heap.size, 1, none⟩ = some (.slice A0_1 l0_1.length c0_1) := blk_cell bx 1
    have b2 : wx.cell? ⟨w.heap.size, 2, none⟩ = some (.slice A0_2 l0_2.length c0_2) := blk_cell bx 2
    have b3 : wx.cell? ⟨w.heap.size, 3, none⟩ = some (.slice A0_3 l0_3.length c0_3) := blk_cell bx 3
    have px := (Lib.alloc_old wy (.cells #[.bool false, .slice none 0 0, .slice none 0 0, .slice none 0 0] 31) (w.heap.size + 1) (blk_lt p0y)).trans p0y
    rw [← hwx] at px
    have q0 : wx.cell? ⟨w.heap.size + 1, 0, none⟩ = some (.string a1_0) := blk_cell px 0
    have q1 : wx.cell? ⟨w.heap.size + 1, 1, none⟩ = some (.string a1_1) := blk_cell px 1
    clear px p0y sy
    clear hwx hwy ny b0y b1y bel bx tx
    go_enter Try.func28, Try.ntmps28
    go_wp2_with fail
    rw [← HWX.out]
    refine (LF.out _ BXX.out).mono ?_
    rintro e w1 ⟨rfl, hB⟩
    have B1 := Aside0.mk (BXX.out.trans (hB.mono BXX.out.size))
    have t1 : w1.heap[(w.heap.size + 2)]? = some (.cells #[.bool false, .slice none 0 0, .slice none 0 0, .slice none 0 0] 31 (0, 0)) := (hB.block _ (by have := NX.out; omega)).trans TX.out
    have d0 := nd_cell hB b0
    have d1 := nd_cell hB b1
    have d2 := nd_cell hB b2
    have d3 := nd_cell hB b3
    have r0 := nd_cell hB q0
    have r1 := nd_cell hB q1
    clear b0 b1 b2 b3 q0 q1 hB

    have c0 : w1.cell? ⟨(w.heap.size + 2), 0, none⟩ = some (.bool false) := blk_cell t1 0
    have c1 : w1.cell? ⟨(w.heap.size + 2), 1, none⟩ = some (.slice none 0 0) := blk_cell t1 1
    have c2 : w1.cell? ⟨(w.heap.size + 2), 2, none⟩ = some (.slice none 0 0) := blk_cell t1 2
    have c3 : w1.cell? ⟨(w.heap.size + 2), 3, none⟩ = some (.slice none 0 0) := blk_cell t1 3
    have f0 : w1.frozen? ⟨(w.heap.size + 2), 0, none⟩ = false := blk_frozen t1 0
    have f1 : w1.frozen? ⟨(w.heap.size + 2), 1, none⟩ = false := blk_frozen t1 1
    have f2 : w1.frozen? ⟨(w.heap.size + 2), 2, none⟩ = false := blk_frozen t1 2
    have f3 : w1.frozen? ⟨(w.heap.size + 2), 3, none⟩ = false := blk_frozen t1 3
    go_wp2
    have hg4 := nd_grown4 w1 (w.heap.size + 2) (.bool false) (.slice none 0 0) (.slice none 0 0) (.slice none 0 0)
    refine bodyPost_ret (results_ct rfl _ _ (w.heap.size + 2) 31 #[.bool false, .slice none 0 0, .slice none 0 0, .slice none 0 0] (0, 0) _ rfl (nd_put4 w1 (w.heap.size + 2) 31 _ _ _ _ (.bool false) (.slice none 0 0) (.slice none 0 0) (.slice none 0 0) t1) Try.underlying31 rfl (by kernel_rfl)) rfl ?_
    exact ⟨_, _, _, rfl, Kd.R_nil _ _ _ _ _, Kd.R_nil _ _ _ _ _, Kd.R_nil _ _ _ _ _, nd_grown_below hg4 B1.out B1.out.size (by omega)⟩
end
end Go.Proofs.Ytjjfeoigjhbbpaa.PA
namespace Go.Proofs.Ytjjfeoigjhbbpaa.PA
section

open Go.RowKit Go.Proofs.YtjjfeoigjhbbpaaW.PrintWords Go.Proofs.YtjjfeoigjhbbpaaW.PrintLast Go.Proofs.YtjjfeoigjhbbpaaW.PrintMore
attribute [local go_sem] pr_leq pr_geq pr_gtr max2_int min2_int max_two min_two max_three min_three max_four min_four
set_option linter.unusedVariables false
set_option linter.unusedSimpArgs false
def cmp_Less_string.f (a0 : ByteArray) (a1 : ByteArray) : Option (Bool) := (cmp_isNaN_string.f a0).bind fun t498 => (if t498 = true then ((cmp_isNaN_string.f a1).bind fun t499 => (if t499 = true then (some (Op.bytesLess a0.toList a1.toList)) else (some true))) else (some (Op.bytesLess a0.toList a1.toList)))
set_option maxHeartbeats 8000000 in
set_option maxRecDepth 100000 in
theorem cmp_Less_string.calls (a0 : ByteArray) (a1 : ByteArray) (r : Bool) (w : World) (h : cmp_Less_string.f a0 a1 = some r) :
    Calls Try.prog 79 #[.string a0, .string a1] w fun e w' => e = .returned (.bool r) ∧ Drawn0 w w' := by
  have H : ((cmp_isNaN_string.f a0).bind fun t498 => (if t498 = true then ((cmp_isNaN_string.f a1).bind fun t499 => (if t499 = true then (some (Op.bytesLess a0.toList a1.toList)) else (some true))) else (some (Op.bytesLess a0.toList a1.toList)))) = some r := h
  clear h
  replace H := Option.bind_eq_some_iff.mp H
  obtain ⟨t498, A30, H⟩ := H
  replace H : (if t498 = true then ((cmp_isNaN_string.f a1).bind fun t499 => (if t499 = true then (some (Op.bytesLess a0.toList a1.toList)) else (some true))) else (some (Op.bytesLess a0.toList a1.toList))) = some r := H
  have A3 := Aside0.mk A30
  clear A30
  by_cases c4 : t498 = true
  · subst c4
    have H1 : ((cmp_isNaN_string.f a1).bind fun t499 => (if t499 = true then (some (Op.bytesLess a0.toList a1.toList)) else (some true))) = some r := by rw [if_pos rfl] at H; exact H
    clear H
    have H := H1
    clear H1
    replace H := Option.bind_eq_some_iff.mp H
    obtain ⟨t499, A50, H⟩ := H
    replace H : (if t499 = true then (some (Op.bytesLess a0.toList a1.toList)) else (some true)) = some r := H
    have A5 := Aside0.mk A50
    clear A50
    by_cases c6 : t499 = true
    · subst c6
      have H1 : (some (Op.bytesLess a0.toList a1.toList)) = some r := by rw [if_pos rfl] at H; exact H
      clear H
      have H := H1
      clear H1
      obtain rfl := Option.some.inj H
      go_enter Try.func79, Try.ntmps79
      go_wp2_with (first | ((with_reducible refine gate_callee (f := 86) rfl ?_); refine goesL_ (some 6) rfl rfl Try.func86 (by kernel_rfl) rfl #[.string a0] rfl (by (try simp only [List.map_toArray, List.map_cons, List.map_nil]); first | done | rfl | (simp only [List.length_drop, List.length_take]; rfl)) ?_; (with_reducible refine (cmp_isNaN_string.calls a0 true _ A3.out).mono ?_); rintro e w' ⟨rfl, ⟨nd, rfl⟩⟩; refine ⟨_, rfl, ?_⟩) | (go_at_call 86; (with_reducible refine (cmp_isNaN_string.calls a1 true _ A5.out).mono ?_); rintro e w' ⟨rfl, ⟨nd, rfl⟩⟩))
      go_ret
      exact ⟨by first | rfl | (simp; done) | (simp [*]; done), by repeat (first | exact Drawn0.refl _ | apply Drawn0.step)⟩
    · replace c6 := Bool.eq_false_iff.mpr c6
      subst c6
      have H1 : (some true) = some r := by rw [if_neg (show ¬ (false = true) by decide)] at H; exact H
      clear H
      have H := H1
      clear H1
      obtain rfl := Option.some.inj H
      go_enter Try.func79, Try.ntmps79
      go_wp2_with (first | ((with_reducible refine gate_callee (f := 86) rfl ?_); refine goesL_ (some 6) rfl rfl Try.func86 (by kernel_rfl) rfl #[.string a0] rfl (by (try simp only [List.map_toArray, List.map_cons, List.map_nil]); first | done | rfl | (simp only [List.length_drop, List.length_take]; rfl)) ?_; (with_reducible refine (cmp_isNaN_string.calls a0 true _ A3.out).mono ?_); rintro e w' ⟨rfl, ⟨nd, rfl⟩⟩; refine ⟨_, rfl, ?_⟩) | (go_at_call 86; (with_reducible refine (cmp_isNaN_string.calls a1 false _ A5.out).mono ?_); rintro e w' ⟨rfl, ⟨nd, rfl⟩⟩))
      go_ret
      exact ⟨by first | rfl | (simp; done) | (simp [*]; done), by repeat (first | exact Drawn0.refl _ | apply Drawn0.step)⟩
  · replace c4 := Bool.eq_false_iff.mpr c4
    subst c4
    have H1 : (some (Op.bytesLess a0.toList a1.toList)) = some r := by rw [if_neg (show ¬ (false = true) by decide)] at H; exact H
    clear H
    have H := H1
    clear H1
    obtain rfl := Option.some.inj H
    go_enter Try.func79, Try.ntmps79
    go_wp2_with (first | ((with_reducible refine gate_callee (f := 86) rfl ?_); refine goesL_ (some 6) rfl rfl Try.func86 (by kernel_rfl) rfl #[.string a0] rfl (by (try simp only [List.map_toArray, List.map_cons, List.map_nil]); first | done | rfl | (simp only [List.length_drop, List.length_take]; rfl)) ?_; (with_reducible refine (cmp_isNaN_string.calls a0 false _ A3.out).mono ?_); rintro e w' ⟨rfl, ⟨nd, rfl⟩⟩; refine ⟨_, rfl, ?_⟩))
    go_ret
    exact ⟨by first | rfl | (simp; done) | (simp [*]; done), by repeat (first | exact Drawn0.refl _ | apply Drawn0.step)⟩
def slices_isNaN_string.f (a0 : ByteArray) : Option (Bool) := some (a0.toList != a0.toList)
set_option maxHeartbeats 8000000 in
set_option maxRecDepth 100000 in
theorem slices_isNaN_string.calls (a0 : ByteArray) (r : Bool) (w : World) (h : slices_isNaN_string.f a0 = some r) :
    Calls Try.prog 80 #[.string a0] w fun e w' => e = .returned (.bool r) ∧ Drawn0 w w' := by
  have H : (some (a0.toList != a0.toList)) = some r := h
  clear h
  obtain rfl := Option.some.inj H
  go_enter Try.func80, Try.ntmps80
  go_wp2
  go_ret
  exact ⟨by first | rfl | (simp; done) | (simp [*]; done), by repeat (first | exact Drawn0.refl _ | apply Drawn0.step)⟩
end
end Go.Proofs.Ytjjfeoigjhbbpaa.PA
namespace Go.Proofs.Ytjjfeoigjhbbpaa.PA
section

open Go.RowKit Go.Proofs.YtjjfeoigjhbbpaaW.PrintWords Go.Proofs.YtjjfeoigjhbbpaaW.PrintLast Go.Proofs.YtjjfeoigjhbbpaaW.PrintMore
attribute [local go_sem] pr_leq pr_geq pr_gtr max2_int min2_int max_two min_two max_three min_three max_four min_four
set_option linter.unusedVariables false
set_option linter.unusedSimpArgs false
def slices_BinarySearch_string_string.l0 : Nat → List ByteArray → ByteArray → Int → Int → Int → Option (Int × Bool)
  | 0, _, _, _, _, _ => none
  | k + 1, x0, x1, x6, x7, x8 => if x7 < x8 then (if 0 ≤ (wrap64 ((IntKind.u64.wrap (wrap64 (x7 + x8))) / 2)) then (if (wrap64 ((IntKind.u64.wrap (wrap64 (x7 + x8))) / 2)) < (x0.length : Int) then ((cmp_Less_string.f (rdOf ByteArray.empty x0 (wrap64 ((IntKind.u64.wrap (wrap64 (x7 + x8))) / 2))) x1).bind fun t501 => (if t501 = true then (slices_BinarySearch_string_string.l0 k x0 x1 x6 (wrap64 ((wrap64 ((IntKind.u64.wrap (wrap64 (x7 + x8))) / 2)) + 1)) x8) else (slices_BinarySearch_string_string.l0 k x0 x1 x6 x7 (wrap64 ((IntKind.u64.wrap (wrap64 (x7 + x8))) / 2))))) else (none)) else (none)) else (if x7 < x6 then (if 0 ≤ x7 then (if x7 < (x0.length : Int) then (if (rdOf ByteArray.empty x0 x7).toList = x1.toList then (some (x7, true)) else ((slices_isNaN_string.f (rdOf ByteArray.empty x0 x7)).bind fun t504 => (if t504 = true then ((slices_isNaN_string.f x1).bind fun t505 => (some (x7, t505))) else (some (x7, false))))) else (none)) else (none)) else (some (x7, false)))
def slices_BinarySearch_string_string.f (k : Nat) (l0 : List ByteArray) (a1 : ByteArray) : Option (Int × Bool) := slices_BinarySearch_string_string.l0 k l0 a1 (l0.length : Int) 0 (l0.length : Int)
set_option maxHeartbeats 8000000 in
set_option maxRecDepth 100000 in
theorem slices_BinarySearch_string_string.calls (k : Nat) (A0 : Option Addr) (c0 : Nat) (l0 : List ByteArray) (a1 : ByteArray) (r1 : Int) (r2 : Bool) (w : World) (hr0 : Kd.C Kd.string w A0 l0.length l0) (hc0 : l0.length ≤ c0) (h : slices_BinarySearch_string_string.f k l0 a1 = some (r1, r2)) :
    Calls Try.prog 55 #[.slice A0 l0.length c0, .string a1] w fun e w' => e = .returned (.tuple #[.int .i64 r1, .bool r2]) ∧ Drawn0 w w' := by
  have HR0 := Aside0.mk hr0
  have HC0 := Aside0.mk hc0
  clear hr0 hc0
  have H : (slices_BinarySearch_string_string.l0 k l0 a1 (l0.length : Int) 0 (l0.length : Int)) = some (r1, r2) := h
  clear h
  have H' := Aside0.mk H
  clear H
  go_enter Try.func55, Try.ntmps55
  go_wp2
  go_loopg [7, 8] k (fun kq v7 v8 w' => ∃ (x7_1 : Int) (x8_1 : Int), v7 = .int .i64 x7_1 ∧ v8 = .int .i64 x8_1 ∧ Aside0 (slices_BinarySearch_string_string.l0 kq l0 a1 (l0.length : Int) x7_1 x8_1 = some (r1, r2)) ∧ Aside0 (kq ≤ k) ∧ Drawn0 w w')
  case atStart => exact ⟨(0), ((l0.length : Int)), (by first | rfl | (simp; done) | (simp [*]; done)), (by first | rfl | (simp; done) | (simp [*]; done)), H', ⟨Nat.le_refl _⟩, by repeat (first | exact Drawn0.refl _ | apply Drawn0.step)⟩
  case round =>
    clear H'
    try clear p2
    obtain ⟨x7_1, x8_1, rfl, rfl, HA, HK1, ⟨m1, rfl⟩⟩ := hrel
    cases gk with
    | zero => exact absurd HA.out (by simp [slices_BinarySearch_string_string.l0])
    | succ k1 =>
      have H := HA.out
      clear HA
      simp only [slices_BinarySearch_string_string.l0] at H
      by_cases c3 : x7_1 < x8_1
      · rw [if_pos c3] at H
        have c3b0 : decide (x7_1 < x8_1) = true := decide_eq_true c3
        clear c3
        obtain ⟨ji4, hji4⟩ : ∃ j_ : Int, (wrap64 ((IntKind.u64.wrap (wrap64 (x7_1 + x8_1))) / 2)) = j_ := ⟨_, rfl⟩
        replace H : (if 0 ≤ (ji4) then (if (ji4) < (l0.length : Int) then ((cmp_Less_string.f (rdOf ByteArray.empty l0 (ji4)) a1).bind fun t501 => (if t501 = true then (slices_BinarySearch_string_string.l0 k1 l0 a1 (l0.length : Int) (wrap64 ((ji4) + 1)) x8_1) else (slices_BinarySearch_string_string.l0 k1 l0 a1 (l0.length : Int) x7_1 ji4))) else (none)) else (none)) = some (r1, r2) := by first | (rw [hji4] at H; exact H) | (simp only [hji4] at H ⊢; exact H)
        have hji4w : (IntKind.i64.wrap ((IntKind.u64.wrap (wrap64 (x7_1 + x8_1))) / 2)) = ji4 := (i64_w _).trans hji4
        by_cases c5 : 0 ≤ (ji4)
        · rw [if_pos c5] at H
          have c5b0 : decide (0 ≤ (ji4)) = true := decide_eq_true c5
          clear c5
          by_cases c6 : (ji4) < (l0.length : Int)
          · rw [if_pos c6] at H
            have c6b0 : decide ((ji4) < (l0.length : Int)) = true := decide_eq_true c6
            clear c6
            replace H := Option.bind_eq_some_iff.mp H
            obtain ⟨t501, A70, H⟩ := H
            replace H : (if t501 = true then (slices_BinarySearch_string_string.l0 k1 l0 a1 (l0.length : Int) (wrap64 ((ji4) + 1)) x8_1) else (slices_BinarySearch_string_string.l0 k1 l0 a1 (l0.length : Int) x7_1 ji4)) = some (r1, r2) := H
            have A7 := Aside0.mk A70
            clear A70
            by_cases c8 : t501 = true
            · subst c8
              have H1 : (slices_BinarySearch_string_string.l0 k1 l0 a1 (l0.length : Int) (wrap64 ((ji4) + 1)) x8_1) = some (r1, r2) := by rw [if_pos rfl] at H; exact H
              clear H
              have H := H1
              clear H1
              have H' := Aside0.mk H
              clear H
              have p500 : 0 ≤ ((ji4) : Int) := of_decide_eq_true (by first | (with_reducible assumption) | assumption)
              have q500 : (ji4) < (l0.length : Int) := of_decide_eq_true (by first | (with_reducible assumption) | assumption)
              obtain ⟨ad500, e500, hx500_0⟩ := Kd.at_string HR0.out (ji4) p500 q500
              cases e500
              replace p500 := eq_true p500
              replace q500 := eq_true q500
              go_wp2_with (first | ((with_reducible refine gate_callee (f := 79) rfl ?_); refine goesL_ (some 27) rfl rfl Try.func79 (by kernel_rfl) rfl #[.string (rdOf ByteArray.empty l0 (ji4)), .string a1] rfl (by (try simp only [List.map_toArray, List.map_cons, List.map_nil]); first | done | (simp only [hji4]; rfl) | rfl | (simp only [List.length_drop, List.length_take]; rfl)) ?_; (with_reducible refine (cmp_Less_string.calls (rdOf ByteArray.empty l0 (ji4)) a1 true _ A7.out).mono ?_); rintro e w' ⟨rfl, ⟨nd, rfl⟩⟩; refine ⟨_, rfl, ?_⟩))
              go_roundg k1
              case measure => have := HK1.out; omega
              case rel => exact ⟨(wrap64 ((ji4) + 1)), (x8_1), (by first | rfl | (simp; done) | (simp only [← hji4] <;> (first | rfl | simp)) | (simp [*]; done)), (by first | rfl | (simp; done) | (simp [*]; done)), H', ⟨by have := HK1.out; omega⟩, by repeat (first | exact Drawn0.refl _ | apply Drawn0.step)⟩
            · replace c8 := Bool.eq_false_iff.mpr c8
              subst c8
              have H1 : (slices_BinarySearch_string_string.l0 k1 l0 a1 (l0.length : Int) x7_1 ji4) = some (r1, r2) := by rw [if_neg (show ¬ (false = true) by decide)] at H; exact H
              clear H
              have H := H1
              clear H1
              have H' := Aside0.mk H
              clear H
              have p500 : 0 ≤ ((ji4) : Int) := of_decide_eq_true (by first | (with_reducible assumption) | assumption)
              have q500 : (ji4) < (l0.length : Int) := of_decide_eq_true (by first | (with_reducible assumption) | assumption)
              obtain ⟨ad500, e500, hx500_0⟩ := Kd.at_string HR0.out (ji4) p500 q500
              cases e500
              replace p500 := eq_true p500
              replace q500 := eq_true q500
              go_wp2_with (first | ((with_reducible refine gate_callee (f := 79) rfl ?_); refine goesL_ (some 27) rfl rfl Try.func79 (by kernel_rfl) rfl #[.string (rdOf ByteArray.empty l0 (ji4)), .string a1] rfl (by (try simp only [List.map_toArray, List.map_cons, List.map_nil]); first | done | (simp only [hji4]; rfl) | rfl | (simp only [List.length_drop, List.length_take]; rfl)) ?_; (with_reducible refine (cmp_Less_string.calls (rdOf ByteArray.empty l0 (ji4)) a1 false _ A7.out).mono ?_); rintro e w' ⟨rfl, ⟨nd, rfl⟩⟩; refine ⟨_, rfl, ?_⟩))
              go_roundg k1
              case measure => have := HK1.out; omega
              case rel => exact ⟨(x7_1), (ji4), (by first | rfl | (simp; done) | (simp [*]; done)), (by first | rfl | (simp; done) | (simp only [← hji4] <;> (first | rfl | simp)) | (simp [*]; done)), H', ⟨by have := HK1.out; omega⟩, by repeat (first | exact Drawn0.refl _ | apply Drawn0.step)⟩
          · rw [if_neg c6] at H
            exact absurd H (by simp)
        · rw [if_neg c5] at H
          exact absurd H (by simp)
      · rw [if_neg c3] at H
        have c3b0 : decide (x7_1 < x8_1) = false := decide_eq_false c3
        clear c3
        by_cases c9 : x7_1 < (l0.length : Int)
        · rw [if_pos c9] at H
          have c9b0 : decide (x7_1 < (l0.length : Int)) = true := decide_eq_true c9
          clear c9
          by_cases c10 : 0 ≤ x7_1
          · rw [if_pos c10] at H
            have c10b0 : decide (0 ≤ x7_1) = true := decide_eq_true c10
            clear c10
            by_cases c11 : x7_1 < (l0.length : Int)
            · rw [if_pos c11] at H
              have c11b0 : decide (x7_1 < (l0.length : Int)) = true := decide_eq_true c11
              clear c11
              by_cases c12 : (rdOf ByteArray.empty l0 x7_1).toList = a1.toList
              · rw [if_pos c12] at H
                have c12b0 : ((rdOf ByteArray.empty l0 x7_1).toList == a1.toList) = true := beq_iff_eq.mpr c12
                have c12b1 : ((rdOf ByteArray.empty l0 x7_1).toList != a1.toList) = false := bne_eq_false_iff_eq.mpr c12
                clear c12
                simp only [Option.some.injEq, Prod.mk.injEq] at H
                obtain ⟨rfl, rfl⟩ := H
                have p502 : 0 ≤ (x7_1 : Int) := of_decide_eq_true (by first | (with_reducible assumption) | assumption)
                have q502 : x7_1 < (l0.length : Int) := of_decide_eq_true (by first | (with_reducible assumption) | assumption)
                obtain ⟨ad502, e502, hx502_0⟩ := Kd.at_string HR0.out x7_1 p502 q502
                cases e502
                replace p502 := eq_true p502
                replace q502 := eq_true q502
                go_wp2
                go_ret2
                exact ⟨by first | rfl | (simp; done) | (simp [*]; done), by repeat (first | exact Drawn0.refl _ | apply Drawn0.step)⟩
              · rw [if_neg c12] at H
                have c12b0 : ((rdOf ByteArray.empty l0 x7_1).toList == a1.toList) = false := beq_eq_false_iff_ne.mpr c12
                have c12b1 : ((rdOf ByteArray.empty l0 x7_1).toList != a1.toList) = true := bne_iff_ne.mpr c12
                replace H := Option.bind_eq_some_iff.mp H
                obtain ⟨t504, A130, H⟩ := H
                replace H : (if t504 = true then ((slices_isNaN_string.f a1).bind fun t505 => (some (x7_1, t505))) else (some (x7_1, false))) = some (r1, r2) := H
                have A13 := Aside0.mk A130
                clear A130
                by_cases c14 : t504 = true
                · subst c14
                  have H1 : ((slices_isNaN_string.f a1).bind fun t505 => (some (x7_1, t505))) = some (r1, r2) := by rw [if_pos rfl] at H; exact H
                  clear H
                  have H := H1
                  clear H1
                  replace H := Option.bind_eq_some_iff.mp H
                  obtain ⟨t505, A150, H⟩ := H
                  replace H : (some (x7_1, t505)) = some (r1, r2) := H
                  have A15 := Aside0.mk A150
                  clear A150
                  simp only [Option.some.injEq, Prod.mk.injEq] at H
                  obtain ⟨rfl, rfl⟩ := H
                  have p502 : 0 ≤ (x7_1 : Int) := of_decide_eq_true (by first | (with_reducible assumption) | assumption)
                  have q502 : x7_1 < (l0.length : Int) := of_decide_eq_true (by first | (with_reducible assumption) | assumption)
                  obtain ⟨ad502, e502, hx502_0⟩ := Kd.at_string HR0.out x7_1 p502 q502
                  cases e502
                  replace p502 := eq_true p502
                  replace q502 := eq_true q502
                  have p503 : 0 ≤ (x7_1 : Int) := of_decide_eq_true (by first | (with_reducible assumption) | assumption)
                  have q503 : x7_1 < (l0.length : Int) := of_decide_eq_true (by first | (with_reducible assumption) | assumption)
                  obtain ⟨ad503, e503, hx503_0⟩ := Kd.at_string HR0.out x7_1 p503 q503
                  obtain rfl : ad502 = ad503 := (by injection e503)
                  replace p503 := eq_true p503
                  replace q503 := eq_true q503
                  go_wp2_with (first | (go_at_call 80; (with_reducible refine (slices_isNaN_string.calls (rdOf ByteArray.empty l0 x7_1) true _ A13.out).mono ?_); rintro e w' ⟨rfl, ⟨nd, rfl⟩⟩) | (go_at_call 80; (with_reducible refine (slices_isNaN_string.calls a1 t505 _ A15.out).mono ?_); rintro e w' ⟨rfl, ⟨nd, rfl⟩⟩))
                  go_ret2
                  exact ⟨by first | rfl | (simp; done) | (simp [*]; done), by repeat (first | exact Drawn0.refl _ | apply Drawn0.step)⟩
                · replace c14 := Bool.eq_false_iff.mpr c14
                  subst c14
                  have H1 : (some (x7_1, false)) = some (r1, r2) := by rw [if_neg (show ¬ (false = true) by decide)] at H; exact H
                  clear H
                  have H := H1
                  clear H1
                  simp only [Option.some.injEq, Prod.mk.injEq] at H
                  obtain ⟨rfl, rfl⟩ := H
                  have p502 : 0 ≤ (x7_1 : Int) := of_decide_eq_true (by first | (with_reducible assumption) | assumption)
                  have q502 : x7_1 < (l0.length : Int) := of_decide_eq_true (by first | (with_reducible assumption) | assumption)
                  obtain ⟨ad502, e502, hx502_0⟩ := Kd.at_string HR0.out x7_1 p502 q502
                  cases e502
                  replace p502 := eq_true p502
                  replace q502 := eq_true q502
                  have p503 : 0 ≤ (x7_1 : Int) := of_decide_eq_true (by first | (with_reducible assumption) | assumption)
                  have q503 : x7_1 < (l0.length : Int) := of_decide_eq_true (by first | (with_reducible assumption) | assumption)
                  obtain ⟨ad503, e503, hx503_0⟩ := Kd.at_string HR0.out x7_1 p503 q503
                  obtain rfl : ad502 = ad503 := (by injection e503)
                  replace p503 := eq_true p503
                  replace q503 := eq_true q503
                  go_wp2_with (first | (go_at_call 80; (with_reducible refine (slices_isNaN_string.calls (rdOf ByteArray.empty l0 x7_1) false _ A13.out).mono ?_); rintro e w' ⟨rfl, ⟨nd, rfl⟩⟩))
                  go_ret2
                  exact ⟨by first | rfl | (simp; done) | (simp [*]; done), by repeat (first | exact Drawn0.refl _ | apply Drawn0.step)⟩
            · rw [if_neg c11] at H
              exact absurd H (by simp)
          · rw [if_neg c10] at H
            exact absurd H (by simp)
        · rw [if_neg c9] at H
          have c9b0 : decide (x7_1 < (l0.length : Int)) = false := decide_eq_false c9
          clear c9
          simp only [Option.some.injEq, Prod.mk.injEq] at H
          obtain ⟨rfl, rfl⟩ := H
          go_wp2
          go_ret2
          exact ⟨by first | rfl | (simp; done) | (simp [*]; done), by repeat (first | exact Drawn0.refl _ | apply Drawn0.step)⟩
end
end Go.Proofs.Ytjjfeoigjhbbpaa.PA
namespace Go.Proofs.Ytjjfeoigjhbbpaa.PA
section

open Go.RowKit Go.Proofs.YtjjfeoigjhbbpaaW.PrintWords Go.Proofs.YtjjfeoigjhbbpaaW.PrintLast Go.Proofs.YtjjfeoigjhbbpaaW.PrintMore
attribute [local go_sem] pr_leq pr_geq pr_gtr max2_int min2_int max_two min_two max_three min_three max_four min_four
set_option linter.unusedVariables false
set_option linter.unusedSimpArgs false
def node_Find.f (k : Nat) (a0_0 : Bool) (l0_1 : List (S48)) (l0_2 : List ByteArray) (l0_3 : List Int) (a1 : ByteArray) : Option (Int × Int) := (node_Check.f a0_0 l0_1 l0_2 l0_3).bind fun t507 => (if t507 = 0 then (if a0_0 = true then ((node_pairAt.f l0_1 a1).bind fun bt508 => (some (bt508.1, 0))) else ((slices_BinarySearch_string_string.f k l0_2 a1).bind fun bt510 => (if bt510.2 = true then (some (wrap64 (bt510.1 + 1), 0)) else (some (bt510.1, 0))))) else (some (0, 2)))
set_option maxHeartbeats 8000000 in
set_option maxRecDepth 100000 in
theorem node_Find.calls (k : Nat) (a0_0 : Bool) (A0_1 : Option Addr) (c0_1 : Nat) (l0_1 : List (S48)) (A0_2 : Option Addr) (c0_2 : Nat) (l0_2 : List ByteArray) (A0_3 : Option Addr) (c0_3 : Nat) (l0_3 : List Int) (a1 : ByteArray) (r1 : Int) (r2 : Int) (w : World) (hr0_1 : Kd.C k48 w A0_1 l0_1.length l0_1) (hc0_1 : l0_1.length ≤ c0_1) (hr0_2 : Kd.C Kd.string w A0_2 l0_2.length l0_2) (hc0_2 : l0_2.length ≤ c0_2) (hr0_3 : Kd.C (Kd.int .i64) w A0_3 l0_3.length l0_3) (hc0_3 : l0_3.length ≤ c0_3) (h : node_Find.f k a0_0 l0_1 l0_2 l0_3 a1 = some (r1, r2)) :
    Calls Try.prog 30 #[.agg #[.bool a0_0, .slice A0_1 l0_1.length c0_1, .slice A0_2 l0_2.length c0_2, .slice A0_3 l0_3.length c0_3], .string a1] w fun e w' => e = .returned (.tuple #[.int .i64 r1, .int .i64 r2]) ∧ Below w.heap.size w w' := by
  have hu31 := Try.underlying31
  have HR0_1 := Aside0.mk hr0_1
  have HC0_1 := Aside0.mk hc0_1
  clear hr0_1 hc0_1
  have HR0_2 := Aside0.mk hr0_2
  have HC0_2 := Aside0.mk hc0_2
  clear hr0_2 hc0_2
  have HR0_3 := Aside0.mk hr0_3
  have HC0_3 := Aside0.mk hc0_3
  clear hr0_3 hc0_3
  have HB := Aside0.mk (Below.refl w.heap.size w)
  have H : ((node_Check.f a0_0 l0_1 l0_2 l0_3).bind fun t507 => (if t507 = 0 then (if a0_0 = true then ((node_pairAt.f l0_1 a1).bind fun bt508 => (some (bt508.1, 0))) else ((slices_BinarySearch_string_string.f k l0_2 a1).bind fun bt510 => (if bt510.2 = true then (some (wrap64 (bt510.1 + 1), 0)) else (some (bt510.1, 0))))) else (some (0, 2)))) = some (r1, r2) := h
  clear h
  replace H := Option.bind_eq_some_iff.mp H
  obtain ⟨t507, A30, H⟩ := H
  replace H : (if t507 = 0 then (if a0_0 = true then ((node_pairAt.f l0_1 a1).bind fun bt508 => (some (bt508.1, 0))) else ((slices_BinarySearch_string_string.f k l0_2 a1).bind fun bt510 => (if bt510.2 = true then (some (wrap64 (bt510.1 + 1), 0)) else (some (bt510.1, 0))))) else (some (0, 2))) = some (r1, r2) := H
  have A3 := Aside0.mk A30
  clear A30
  by_cases c4 : t507 = 0
  · rw [if_pos c4] at H
    have c4b0 : (t507 == 0) = true := beq_iff_eq.mpr c4
    have c4b1 : (t507 != 0) = false := bne_eq_false_iff_eq.mpr c4
    clear c4
    by_cases c5 : a0_0 = true
    · subst c5
      have H1 : ((node_pairAt.f l0_1 a1).bind fun bt508 => (some (bt508.1, 0))) = some (r1, r2) := by rw [if_pos rfl] at H; exact H
      clear H
      have H := H1
      clear H1
      replace H := Option.bind_eq_some_iff.mp H
      obtain ⟨⟨t508, t509⟩, A60, H⟩ := H
      replace H : (some (t508, 0)) = some (r1, r2) := H
      have A6 := Aside0.mk A60
      clear A60
      simp only [Option.some.injEq, Prod.mk.injEq] at H
      obtain ⟨rfl, rfl⟩ := H
      go_enter Try.func30, Try.ntmps30
      go_wp2_with (first | ((with_reducible refine gate_dst (N := 2) rfl ?_); refine box_event ?hg (N := 2) ?hd (cs := #[.bool true, .slice A0_1 l0_1.length c0_1, .slice A0_2 l0_2.length c0_2, .slice A0_3 l0_3.length c0_3]) (t := 31) ?hr ?_; (case hd => rfl); (case hg => rfl); (case hr => first | (go_simp; done) | (go_simp; rfl)); intro gb506 hg w7 hbox hb; have n0_ := Aside0.mk (below_step (by repeat (first | (with_reducible first | exact HB.out | apply below_alloc | apply pw_below_drewN | apply below_drew1) | exact HB.out)) hb); have n1_ := Aside0.mk (hbox); have n2_ := Aside0.mk ((by rw [hg]; exact (below_size (by repeat (first | (with_reducible first | exact HB.out | apply below_alloc | apply pw_below_drewN | apply below_drew1) | exact HB.out))) : w.heap.size ≤ gb506)); have n3_ := Aside0.mk ((by rw [hg]; exact (below_size (by repeat (first | (with_reducible first | exact HB.out | apply below_alloc | apply pw_below_drewN | apply below_drew1) | exact HB.out))) : w.heap.size ≤ gb506)); clear HB; have HB := n0_; have BK506 := n1_; have GW506 := n2_; have GE506 := n3_; clear n0_ n1_ n2_ n3_; clear hb hbox hg; have hcz8_0 : w7.cell? ⟨gb506, 0, none⟩ = some (.bool true) := (blk_cell BK506.out 0).trans rfl; have hcz8_1 : w7.cell? ⟨gb506, 1, none⟩ = some (.slice A0_1 l0_1.length c0_1) := (blk_cell BK506.out 1).trans rfl; have hcz8_2 : w7.cell? ⟨gb506, 2, none⟩ = some (.slice A0_2 l0_2.length c0_2) := (blk_cell BK506.out 2).trans rfl; have hcz8_3 : w7.cell? ⟨gb506, 3, none⟩ = some (.slice A0_3 l0_3.length c0_3) := (blk_cell BK506.out 3).trans rfl; have hfz8_0 := blk_frozen BK506.out 0; have hfz8_1 := blk_frozen BK506.out 1; have hfz8_2 := blk_frozen BK506.out 2; have hfz8_3 := blk_frozen BK506.out 3) | ((with_reducible refine gate_callee (f := 15) rfl ?_); refine goesL_ (some 11) rfl rfl Try.func15 (by kernel_rfl) rfl #[.agg #[.bool true, .slice A0_1 l0_1.length c0_1, .slice A0_2 l0_2.length c0_2, .slice A0_3 l0_3.length c0_3]] rfl (by (try simp only [List.map_toArray, List.map_cons, List.map_nil]); first | done | rfl | (simp only [List.length_drop, List.length_take]; rfl)) ?_; (with_reducible refine (node_Check.calls true _ _ l0_1 _ _ l0_2 _ _ l0_3 t507 _ ?side1 ?side2 ?side3 ?side4 ?side5 ?side6 A3.out).mono ?_); (case side1 => repeat (first | exact (Kd.C_below HR0_1.out HB.out) | (with_reducible refine Kd.C_alloc ?_ _) | (with_reducible refine Kd.C_drewN ?_ _) | (with_reducible refine Kd.C_drew ?_))); (case side2 => exact HC0_1.out); (case side3 => repeat (first | exact (Kd.C_below HR0_2.out HB.out) | (with_reducible refine Kd.C_alloc ?_ _) | (with_reducible refine Kd.C_drewN ?_ _) | (with_reducible refine Kd.C_drew ?_))); (case side4 => exact HC0_2.out); (case side5 => repeat (first | exact (Kd.C_below HR0_3.out HB.out) | (with_reducible refine Kd.C_alloc ?_ _) | (with_reducible refine Kd.C_drewN ?_ _) | (with_reducible refine Kd.C_drew ?_))); (case side6 => exact HC0_3.out); rintro e w9 ⟨rfl, hb⟩; refine ⟨_, rfl, ?_⟩; have n0_ := Aside0.mk (blk_below (g := gb506) (o := .cells #[.bool true, .slice A0_1 l0_1.length c0_1, .slice A0_2 l0_2.length c0_2, .slice A0_3 l0_3.length c0_3] 31 (0, 0)) (by (with_reducible repeat (first | refine blk_drewN ?_ _ | refine blk_drew ?_ | refine blk_alloc ?_ _)); exact BK506.out) hb); have n1_ := Aside0.mk (below_step (by repeat (first | (with_reducible first | exact HB.out | apply below_alloc | apply pw_below_drewN | apply below_drew1 | refine below_set ?_ GE506.out) | exact HB.out)) hb); clear BK506; clear HB; have BK506 := n0_; have HB := n1_; clear n0_ n1_; (try clear hb); (try clear hb2); (try clear hk); (try clear hi); have hcz10_0 : w9.cell? ⟨gb506, 0, none⟩ = some (.bool true) := (blk_cell BK506.out 0).trans rfl; have hcz10_1 : w9.cell? ⟨gb506, 1, none⟩ = some (.slice A0_1 l0_1.length c0_1) := (blk_cell BK506.out 1).trans rfl; have hcz10_2 : w9.cell? ⟨gb506, 2, none⟩ = some (.slice A0_2 l0_2.length c0_2) := (blk_cell BK506.out 2).trans rfl; have hcz10_3 : w9.cell? ⟨gb506, 3, none⟩ = some (.slice A0_3 l0_3.length c0_3) := (blk_cell BK506.out 3).trans rfl; have hfz10_0 := blk_frozen BK506.out 0; have hfz10_1 := blk_frozen BK506.out 1; have hfz10_2 := blk_frozen BK506.out 2; have hfz10_3 := blk_frozen BK506.out 3) | ((with_reducible refine gate_callee (f := 53) rfl ?_); refine goesL_ (some 19) rfl rfl Try.func53 (by kernel_rfl) rfl #[.slice A0_1 l0_1.length c0_1, .string a1] rfl (by (try simp only [List.map_toArray, List.map_cons, List.map_nil]); first | done | rfl | (simp only [List.length_drop, List.length_take]; rfl)) ?_; (with_reducible refine (node_pairAt.calls _ _ l0_1 a1 t508 t509 _ ?side1 ?side2 A6.out).mono ?_); (case side1 => repeat (first | exact (Kd.C_below HR0_1.out HB.out) | (with_reducible refine Kd.C_alloc ?_ _) | (with_reducible refine Kd.C_drewN ?_ _) | (with_reducible refine Kd.C_drew ?_))); (case side2 => exact HC0_1.out); rintro e w11 ⟨rfl, hb⟩; refine ⟨_, rfl, ?_⟩; have n0_ := Aside0.mk (blk_below (g := gb506) (o := .cells #[.bool true, .slice A0_1 l0_1.length c0_1, .slice A0_2 l0_2.length c0_2, .slice A0_3 l0_3.length c0_3] 31 (0, 0)) (by (with_reducible repeat (first | refine blk_drewN ?_ _ | refine blk_drew ?_ | refine blk_alloc ?_ _)); exact BK506.out) hb); have n1_ := Aside0.mk (below_step (by repeat (first | (with_reducible first | exact HB.out | apply below_alloc | apply pw_below_drewN | apply below_drew1 | refine below_set ?_ GE506.out) | exact HB.out)) hb); clear BK506; clear HB; have BK506 := n0_; have HB := n1_; clear n0_ n1_; (try clear hb); (try clear hb2); (try clear hk); (try clear hi)))
      go_ret2
      exact ⟨by first | rfl | (simp [errW_none, errW_some] <;> rfl) | (simp [*, errW_none, errW_some] <;> rfl), by repeat (first | (with_reducible first | exact HB.out | apply below_alloc | apply pw_below_drewN | apply below_drew1 | refine below_set ?_ GE506.out) | exact HB.out)⟩
    · replace c5 := Bool.eq_false_iff.mpr c5
      subst c5
      have H1 : ((slices_BinarySearch_string_string.f k l0_2 a1).bind fun bt510 => (if bt510.2 = true then (some (wrap64 (bt510.1 + 1), 0)) else (some (bt510.1, 0)))) = some (r1, r2) := by rw [if_neg (show ¬ (false = true) by decide)] at H; exact H
      clear H
      have H := H1
      clear H1
      replace H := Option.bind_eq_some_iff.mp H
      obtain ⟨⟨t510, t511⟩, A120, H⟩ := H
      replace H : (if t511 = true then (some (wrap64 (t510 + 1), 0)) else (some (t510, 0))) = some (r1, r2) := H
      have A12 := Aside0.mk A120
      clear A120
      by_cases c13 : t511 = true
      · subst c13
        have H1 : (some (wrap64 (t510 + 1), 0)) = some (r1, r2) := by rw [if_pos rfl] at H; exact H
        clear H
        have H := H1
        clear H1
        simp only [Option.some.injEq, Prod.mk.injEq] at H
        obtain ⟨rfl, rfl⟩ := H
        go_enter Try.func30, Try.ntmps30
        go_wp2_with (first | ((with_reducible refine gate_dst (N := 2) rfl ?_); refine box_event ?hg (N := 2) ?hd (cs := #[.bool false, .slice A0_1 l0_1.length c0_1, .slice A0_2 l0_2.length c0_2, .slice A0_3 l0_3.length c0_3]) (t := 31) ?hr ?_; (case hd => rfl); (case hg => rfl); (case hr => first | (go_simp; done) | (go_simp; rfl)); intro gb506 hg w14 hbox hb; have n0_ := Aside0.mk (below_step (by repeat (first | (with_reducible first | exact HB.out | apply below_alloc | apply pw_below_drewN | apply below_drew1) | exact HB.out)) hb); have n1_ := Aside0.mk (hbox); have n2_ := Aside0.mk ((by rw [hg]; exact (below_size (by repeat (first | (with_reducible first | exact HB.out | apply below_alloc | apply pw_below_drewN | apply below_drew1) | exact HB.out))) : w.heap.size ≤ gb506)); have n3_ := Aside0.mk ((by rw [hg]; exact (below_size (by repeat (first | (with_reducible first | exact HB.out | apply below_alloc | apply pw_below_drewN | apply below_drew1) | exact HB.out))) : w.heap.size ≤ gb506)); clear HB; have HB := n0_; have BK506 := n1_; have GW506 := n2_; have GE506 := n3_; clear n0_ n1_ n2_ n3_; clear hb hbox hg; have hcz15_0 : w14.cell? ⟨gb506, 0, none⟩ = some (.bool false) := (blk_cell BK506.out 0).trans rfl; have hcz15_1 : w14.cell? ⟨gb506, 1, none⟩ = some (.slice A0_1 l0_1.length c0_1) := (blk_cell BK506.out 1).trans rfl; have hcz15_2 : w14.cell? ⟨gb506, 2, none⟩ = some (.slice A0_2 l0_2.length c0_2) := (blk_cell BK506.out 2).trans rfl; have hcz15_3 : w14.cell? ⟨gb506, 3, none⟩ = some (.slice A0_3 l0_3.length c0_3) := (blk_cell BK506.out 3).trans rfl; have hfz15_0 := blk_frozen BK506.out 0; have hfz15_1 := blk_frozen BK506.out 1; have hfz15_2 := blk_frozen BK506.out 2; have hfz15_3 := blk_frozen BK506.out 3) | ((with_reducible refine gate_callee (f := 15) rfl ?_); refine goesL_ (some 11) rfl rfl Try.func15 (by kernel_rfl) rfl #[.agg #[.bool false, .slice A0_1 l0_1.length c0_1, .slice A0_2 l0_2.length c0_2, .slice A0_3 l0_3.length c0_3]] rfl (by (try simp only [List.map_toArray, List.map_cons, List.map_nil]); first | done | rfl | (simp only [List.length_drop, List.length_take]; rfl)) ?_; (with_reducible refine (node_Check.calls false _ _ l0_1 _ _ l0_2 _ _ l0_3 t507 _ ?side1 ?side2 ?side3 ?side4 ?side5 ?side6 A3.out).mono ?_); (case side1 => repeat (first | exact (Kd.C_below HR0_1.out HB.out) | (with_reducible refine Kd.C_alloc ?_ _) | (with_reducible refine Kd.C_drewN ?_ _) | (with_reducible refine Kd.C_drew ?_))); (case side2 => exact HC0_1.out); (case side3 => repeat (first | exact (Kd.C_below HR0_2.out HB.out) | (with_reducible refine Kd.C_alloc ?_ _) | (with_reducible refine Kd.C_drewN ?_ _) | (with_reducible refine Kd.C_drew ?_))); (case side4 => exact HC0_2.out); (case side5 => repeat (first | exact (Kd.C_below HR0_3.out HB.out) | (with_reducible refine Kd.C_alloc ?_ _) | (with_reducible refine Kd.C_drewN ?_ _) | (with_reducible refine Kd.C_drew ?_))); (case side6 => exact HC0_3.out); rintro e w16 ⟨rfl, hb⟩; refine ⟨_, rfl, ?_⟩; have n0_ := Aside0.mk (blk_below (g := gb506) (o := .cells #[.bool false, .slice A0_1 l0_1.length c0_1, .slice A0_2 l0_2.length c0_2, .slice A0_3 l0_3.length c0_3] 31 (0, 0)) (by (with_reducible repeat (first | refine blk_drewN ?_ _ | refine blk_drew ?_ | refine blk_alloc ?_ _)); exact BK506.out) hb); have n1_ := Aside0.mk (below_step (by repeat (first | (with_reducible first | exact HB.out | apply below_alloc | apply pw_below_drewN | apply below_drew1 | refine below_set ?_ GE506.out) | exact HB.out)) hb); clear BK506; clear HB; have BK506 := n0_; have HB := n1_; clear n0_ n1_; (try clear hb); (try clear hb2); (try clear hk); (try clear hi); have hcz17_0 : w16.cell? ⟨gb506, 0, none⟩ = some (.bool false) := (blk_cell BK506.out 0).trans rfl; have hcz17_1 : w16.cell? ⟨gb506, 1, none⟩ = some (.slice A0_1 l0_1.length c0_1) := (blk_cell BK506.out 1).trans rfl; have hcz17_2 : w16.cell? ⟨gb506, 2, none⟩ = some (.slice A0_2 l0_2.length c0_2) := (blk_cell BK506.out 2).trans rfl; have hcz17_3 : w16.cell? ⟨gb506, 3, none⟩ = some (.slice A0_3 l0_3.length c0_3) := (blk_cell BK506.out 3).trans rfl; have hfz17_0 := blk_frozen BK506.out 0; have hfz17_1 := blk_frozen BK506.out 1; have hfz17_2 := blk_frozen BK506.out 2; have hfz17_3 := blk_frozen BK506.out 3) | ((with_reducible refine gate_callee (f := 55) rfl ?_); refine goesL_ (some 27) rfl rfl Try.func55 (by kernel_rfl) rfl #[.slice A0_2 l0_2.length c0_2, .string a1] rfl (by (try simp only [List.map_toArray, List.map_cons, List.map_nil]); first | done | rfl | (simp only [List.length_drop, List.length_take]; rfl)) ?_; (with_reducible refine (slices_BinarySearch_string_string.calls k _ _ l0_2 a1 t510 true _ ?side1 ?side2 A12.out).mono ?_); (case side1 => repeat (first | exact (Kd.C_below HR0_2.out HB.out) | (with_reducible refine Kd.C_alloc ?_ _) | (with_reducible refine Kd.C_drewN ?_ _) | (with_reducible refine Kd.C_drew ?_))); (case side2 => exact HC0_2.out); rintro e w' ⟨rfl, ⟨nd, rfl⟩⟩; refine ⟨_, rfl, ?_⟩))
        go_ret2
        exact ⟨by first | rfl | (simp [errW_none, errW_some] <;> rfl) | (simp [*, errW_none, errW_some] <;> rfl), by repeat (first | (with_reducible first | exact HB.out | apply below_alloc | apply pw_below_drewN | apply below_drew1 | refine below_set ?_ GE506.out) | exact HB.out)⟩
      · replace c13 := Bool.eq_false_iff.mpr c13
        subst c13
        have H1 : (some (t510, 0)) = some (r1, r2) := by rw [if_neg (show ¬ (false = true) by decide)] at H; exact H
        clear H
        have H := H1
        clear H1
        simp only [Option.some.injEq, Prod.mk.injEq] at H
        obtain ⟨rfl, rfl⟩ := H
        go_enter Try.func30, Try.ntmps30
        go_wp2_with (first | ((with_reducible refine gate_dst (N := 2) rfl ?_); refine box_event ?hg (N := 2) ?hd (cs := #[.bool false, .slice A0_1 l0_1.length c0_1, .slice A0_2 l0_2.length c0_2, .slice A0_3 l0_3.length c0_3]) (t := 31) ?hr ?_; (case hd => rfl); (case hg => rfl); (case hr => first | (go_simp; done) | (go_simp; rfl)); intro gb506 hg w18 hbox hb; have n0_ := Aside0.mk (below_step (by repeat (first | (with_reducible first | exact HB.out | apply below_alloc | apply pw_below_drewN | apply below_drew1) | exact HB.out)) hb); have n1_ := Aside0.mk (hbox); have n2_ := Aside0.mk ((by rw [hg]; exact (below_size (by repeat (first | (with_reducible first | exact HB.out | apply below_alloc | apply pw_below_drewN | apply below_drew1) | exact HB.out))) : w.heap.size ≤ gb506)); have n3_ := Aside0.mk ((by rw [hg]; exact (below_size (by repeat (first | (with_reducible first | exact HB.out | apply below_alloc | apply pw_below_drewN | apply below_drew1) | exact HB.out))) : w.heap.size ≤ gb506)); clear HB; have HB := n0_; have BK506 := n1_; have GW506 := n2_; have GE506 := n3_; clear n0_ n1_ n2_ n3_; clear hb hbox hg; have hcz19_0 : w18.cell? ⟨gb506, 0, none⟩ = some (.bool false) := (blk_cell BK506.out 0).trans rfl; have hcz19_1 : w18.cell? ⟨gb506, 1, none⟩ = some (.slice A0_1 l0_1.length c0_1) := (blk_cell BK506.out 1).trans rfl; have hcz19_2 : w18.cell? ⟨gb506, 2, none⟩ = some (.slice A0_2 l0_2.length c0_2) := (blk_cell BK506.out 2).trans rfl; have hcz19_3 : w18.cell? ⟨gb506, 3, none⟩ = some (.slice A0_3 l0_3.length c0_3) := (blk_cell BK506.out 3).trans rfl; have hfz19_0 := blk_frozen BK506.out 0; have hfz19_1 := blk_frozen BK506.out 1; have hfz19_2 := blk_frozen BK506.out 2; have hfz19_3 := blk_frozen BK506.out 3) | ((with_reducible refine gate_callee (f := 15) rfl ?_); refine goesL_ (some 11) rfl rfl Try.func15 (by kernel_rfl) rfl #[.agg #[.bool false, .slice A0_1 l0_1.length c0_1, .slice A0_2 l0_2.length c0_2, .slice A0_3 l0_3.length c0_3]] rfl (by (try simp only [List.map_toArray, List.map_cons, List.map_nil]); first | done | rfl | (simp only [List.length_drop, List.length_take]; rfl)) ?_; (with_reducible refine (node_Check.calls false _ _ l0_1 _ _ l0_2 _ _ l0_3 t507 _ ?side1 ?side2 ?side3 ?side4 ?side5 ?side6 A3.out).mono ?_); (case side1 => repeat (first | exact (Kd.C_below HR0_1.out HB.out) | (with_reducible refine Kd.C_alloc ?_ _) | (with_reducible refine Kd.C_drewN ?_ _) | (with_reducible refine Kd.C_drew ?_))); (case side2 => exact HC0_1.out); (case side3 => repeat (first | exact (Kd.C_below HR0_2.out HB.out) | (with_reducible refine Kd.C_alloc ?_ _) | (with_reducible refine Kd.C_drewN ?_ _) | (with_reducible refine Kd.C_drew ?_))); (case side4 => exact HC0_2.out); (case side5 => repeat (first | exact (Kd.C_below HR0_3.out HB.out) | (with_reducible refine Kd.C_alloc ?_ _) | (with_reducible refine Kd.C_drewN ?_ _) | (with_reducible refine Kd.C_drew ?_))); (case side6 => exact HC0_3.out); rintro e w20 ⟨rfl, hb⟩; refine ⟨_, rfl, ?_⟩; have n0_ := Aside0.mk (blk_below (g := gb506) (o := .cells #[.bool false, .slice A0_1 l0_1.length c0_1, .slice A0_2 l0_2.length c0_2, .slice A0_3 l0_3.length c0_3] 31 (0, 0)) (by (with_reducible repeat (first | refine blk_drewN ?_ _ | refine blk_drew ?_ | refine blk_alloc ?_ _)); exact BK506.out) hb); have n1_ := Aside0.mk (below_step (by repeat (first | (with_reducible first | exact HB.out | apply below_alloc | apply pw_below_drewN | apply below_drew1 | refine below_set ?_ GE506.out) | exact HB.out)) hb); clear BK506; clear HB; have BK506 := n0_; have HB := n1_; clear n0_ n1_; (try clear hb); (try clear hb2); (try clear hk); (try clear hi); have hcz21_0 : w20.cell? ⟨gb506, 0, none⟩ = some (.bool false) := (blk_cell BK506.out 0).trans rfl; have hcz21_1 : w20.cell? ⟨gb506, 1, none⟩ = some (.slice A0_1 l0_1.length c0_1) := (blk_cell BK506.out 1).trans rfl; have hcz21_2 : w20.cell? ⟨gb506, 2, none⟩ = some (.slice A0_2 l0_2.length c0_2) := (blk_cell BK506.out 2).trans rfl; have hcz21_3 : w20.cell? ⟨gb506, 3, none⟩ = some (.slice A0_3 l0_3.length c0_3) := (blk_cell BK506.out 3).trans rfl; have hfz21_0 := blk_frozen BK506.out 0; have hfz21_1 := blk_frozen BK506.out 1; have hfz21_2 := blk_frozen BK506.out 2; have hfz21_3 := blk_frozen BK506.out 3) | ((with_reducible refine gate_callee (f := 55) rfl ?_); refine goesL_ (some 27) rfl rfl Try.func55 (by kernel_rfl) rfl #[.slice A0_2 l0_2.length c0_2, .string a1] rfl (by (try simp only [List.map_toArray, List.map_cons, List.map_nil]); first | done | rfl | (simp only [List.length_drop, List.length_take]; rfl)) ?_; (with_reducible refine (slices_BinarySearch_string_string.calls k _ _ l0_2 a1 t510 false _ ?side1 ?side2 A12.out).mono ?_); (case side1 => repeat (first | exact (Kd.C_below HR0_2.out HB.out) | (with_reducible refine Kd.C_alloc ?_ _) | (with_reducible refine Kd.C_drewN ?_ _) | (with_reducible refine Kd.C_drew ?_))); (case side2 => exact HC0_2.out); rintro e w' ⟨rfl, ⟨nd, rfl⟩⟩; refine ⟨_, rfl, ?_⟩))
        go_ret2
        exact ⟨by first | rfl | (simp [errW_none, errW_some] <;> rfl) | (simp [*, errW_none, errW_some] <;> rfl), by repeat (first | (with_reducible first | exact HB.out | apply below_alloc | apply pw_below_drewN | apply below_drew1 | refine below_set ?_ GE506.out) | exact HB.out)⟩
  · rw [if_neg c4] at H
    have c4b0 : (t507 == 0) = false := beq_eq_false_iff_ne.mpr c4
    have c4b1 : (t507 != 0) = true := bne_iff_ne.mpr c4
    simp only [Option.some.injEq, Prod.mk.injEq] at H
    obtain ⟨rfl, rfl⟩ := H
    go_enter Try.func30, Try.ntmps30
    go_wp2_with (first | ((with_reducible refine gate_dst (N := 2) rfl ?_); refine box_event ?hg (N := 2) ?hd (cs := #[.bool a0_0, .slice A0_1 l0_1.length c0_1, .slice A0_2 l0_2.length c0_2, .slice A0_3 l0_3.length c0_3]) (t := 31) ?hr ?_; (case hd => rfl); (case hg => rfl); (case hr => first | (go_simp; done) | (go_simp; rfl)); intro gb506 hg w22 hbox hb; have n0_ := Aside0.mk (below_step (by repeat (first | (with_reducible first | exact HB.out | apply below_alloc | apply pw_below_drewN | apply below_drew1) | exact HB.out)) hb); have n1_ := Aside0.mk (hbox); have n2_ := Aside0.mk ((by rw [hg]; exact (below_size (by repeat (first | (with_reducible first | exact HB.out | apply below_alloc | apply pw_below_drewN | apply below_drew1) | exact HB.out))) : w.heap.size ≤ gb506)); have n3_ := Aside0.mk ((by rw [hg]; exact (below_size (by repeat (first | (with_reducible first | exact HB.out | apply below_alloc | apply pw_below_drewN | apply below_drew1) | exact HB.out))) : w.heap.size ≤ gb506)); clear HB; have HB := n0_; have BK506 := n1_; have GW506 := n2_; have GE506 := n3_; clear n0_ n1_ n2_ n3_; clear hb hbox hg; have hcz23_0 : w22.cell? ⟨gb506, 0, none⟩ = some (.bool a0_0) := (blk_cell BK506.out 0).trans rfl; have hcz23_1 : w22.cell? ⟨gb506, 1, none⟩ = some (.slice A0_1 l0_1.length c0_1) := (blk_cell BK506.out 1).trans rfl; have hcz23_2 : w22.cell? ⟨gb506, 2, none⟩ = some (.slice A0_2 l0_2.length c0_2) := (blk_cell BK506.out 2).trans rfl; have hcz23_3 : w22.cell? ⟨gb506, 3, none⟩ = some (.slice A0_3 l0_3.length c0_3) := (blk_cell BK506.out 3).trans rfl; have hfz23_0 := blk_frozen BK506.out 0; have hfz23_1 := blk_frozen BK506.out 1; have hfz23_2 := blk_frozen BK506.out 2; have hfz23_3 := blk_frozen BK506.out 3) | ((with_reducible refine gate_callee (f := 15) rfl ?_); refine goesL_ (some 11) rfl rfl Try.func15 (by kernel_rfl) rfl #[.agg #[.bool a0_0, .slice A0_1 l0_1.length c0_1, .slice A0_2 l0_2.length c0_2, .slice A0_3 l0_3.length c0_3]] rfl (by (try simp only [List.map_toArray, List.map_cons, List.map_nil]); first | done | rfl | (simp only [List.length_drop, List.length_take]; rfl)) ?_; (with_reducible refine (node_Check.calls a0_0 _ _ l0_1 _ _ l0_2 _ _ l0_3 t507 _ ?side1 ?side2 ?side3 ?side4 ?side5 ?side6 A3.out).mono ?_); (case side1 => repeat (first | exact (Kd.C_below HR0_1.out HB.out) | (with_reducible refine Kd.C_alloc ?_ _) | (with_reducible refine Kd.C_drewN ?_ _) | (with_reducible refine Kd.C_drew ?_))); (case side2 => exact HC0_1.out); (case side3 => repeat (first | exact (Kd.C_below HR0_2.out HB.out) | (with_reducible refine Kd.C_alloc ?_ _) | (with_reducible refine Kd.C_drewN ?_ _) | (with_reducible refine Kd.C_drew ?_))); (case side4 => exact HC0_2.out); (case side5 => repeat (first | exact (Kd.C_below HR0_3.out HB.out) | (with_reducible refine Kd.C_alloc ?_ _) | (with_reducible refine Kd.C_drewN ?_ _) | (with_reducible refine Kd.C_drew ?_))); (case side6 => exact HC0_3.out); rintro e w24 ⟨rfl, hb⟩; refine ⟨_, rfl, ?_⟩; have n0_ := Aside0.mk (blk_below (g := gb506) (o := .cells #[.bool a0_0, .slice A0_1 l0_1.length c0_1, .slice A0_2 l0_2.length c0_2, .slice A0_3 l0_3.length c0_3] 31 (0, 0)) (by (with_reducible repeat (first | refine blk_drewN ?_ _ | refine blk_drew ?_ | refine blk_alloc ?_ _)); exact BK506.out) hb); have n1_ := Aside0.mk (below_step (by repeat (first | (with_reducible first | exact HB.out | apply below_alloc | apply pw_below_drewN | apply below_drew1 | refine below_set ?_ GE506.out) | exact HB.out)) hb); clear BK506; clear HB; have BK506 := n0_; have HB := n1_; clear n0_ n1_; (try clear hb); (try clear hb2); (try clear hk); (try clear hi)))
    go_ret2
    exact ⟨by first | rfl | (simp [errW_none, errW_some] <;> rfl) | (simp [*, errW_none, errW_some] <;> rfl), by repeat (first | (with_reducible first | exact HB.out | apply below_alloc | apply pw_below_drewN | apply below_drew1 | refine below_set ?_ GE506.out) | exact HB.out)⟩
end
end Go.Proofs.Ytjjfeoigjhbbpaa.PA
namespace Go.Proofs.Ytjjfeoigjhbbpaa.PA
section

open Go.RowKit Go.Proofs.YtjjfeoigjhbbpaaW.PrintWords Go.Proofs.YtjjfeoigjhbbpaaW.PrintLast Go.Proofs.YtjjfeoigjhbbpaaW.PrintMore
attribute [local go_sem] pr_leq pr_geq pr_gtr max2_int min2_int max_two min_two max_three min_three max_four min_four
set_option linter.unusedVariables false
set_option linter.unusedSimpArgs false
theorem leaf_mk {P : List S48} (h1 : P.length ≤ 255) (h2 : P.any badP = false) (h3 : Srt P) : leafV true P [] [] = true := by
  unfold leafV
  rw [h2, (srt_iff P).2 h3]
  simp [h1]
theorem leaf_parts {a : Bool} {P : List S48} {K : List ByteArray} {D : List Int} (h : leafV a P K D = true) : a = true ∧ K = [] ∧ D = [] ∧ P.length ≤ 255 ∧ P.any badP = false ∧ Srt P := by
  obtain ⟨h1, h2, h3, h4, h5, h6⟩ := leafV_true h
  exact ⟨h1, h2, h3, h4, h5, (srt_iff P).1 h6⟩
def insP (P : List S48) (p : S48) : List S48 := if isP P p.f0 = true then P.set (atP P p.f0) p else P.take (atP P p.f0) ++ p :: P.drop (atP P p.f0)
theorem bad_mk {k v : ByteArray} (h1 : keyB k = true) (h2 : v.size ≤ 48) : badP ⟨k, v⟩ = false := by
  unfold badP
  rw [h1, decide_eq_false (by show ¬ (48 : Int) < (v.size : Int); omega)]
  rfl
theorem put_val (a : Bool) (P : List S48) (K : List ByteArray) (D : List Int) (k v : ByteArray) :
    (node_Put.v a P K D k v = (false, [], [], [], 2)) ∨ (leafV a P K D = true ∧ keyB k = true ∧ v.size ≤ 48 ∧ node_Put.v a P K D k v = (true, insP P ⟨k, v⟩, [], [], 0) ∧ leafV true (insP P ⟨k, v⟩) [] [] = true) := by
  unfold node_Put.v
  by_cases h : leafV a P K D = true ∧ keyB k = true ∧ v.size ≤ 48
  · obtain ⟨_, _, _, h1, h2, h3⟩ := leaf_parts h.1
    have hb := bad_mk h.2.1 h.2.2
    rw [if_pos h]
    by_cases hi : isP P k = true
    · refine Or.inr ⟨h.1, h.2.1, h.2.2, ?_, ?_⟩
      · rw [if_pos hi]
        unfold insP
        rw [if_pos hi]
      · unfold insP
        rw [if_pos hi]
        refine leaf_mk (by rw [List.length_set]; exact h1) ?_ ?_
        · rw [List.any_eq_false] at h2 ⊢
          intro x hx
          rcases List.mem_or_eq_of_mem_set hx with hx | rfl
          · exact h2 x hx
          · rw [hb]; decide
        · rw [← srt_iff, set_keys h3 _ hi, srt_iff]
          exact h3
    · rw [if_neg hi]
      rw [Bool.not_eq_true] at hi
      by_cases h255 : P.length = 255
      · rw [if_pos h255]
        exact Or.inl rfl
      · rw [if_neg h255]
        refine Or.inr ⟨h.1, h.2.1, h.2.2, ?_, ?_⟩
        · unfold insP
          rw [if_neg (by rw [hi]; decide)]
        · unfold insP
          rw [if_neg (by rw [hi]; decide)]
          have hat := (at_spec h3 k).1
          refine leaf_mk ?_ ?_ (srt_ins h3 ⟨k, v⟩ hi)
          · rw [List.length_append, List.length_cons, List.length_take, List.length_drop]
            show min (atP P k) P.length + (P.length - atP P k + 1) ≤ 255
            omega
          · rw [List.any_eq_false] at h2 ⊢
            intro x hx
            rcases List.mem_append.1 hx with hx | hx
            · exact h2 x (List.mem_of_mem_take hx)
            · rcases List.mem_cons.1 hx with rfl | hx
              · rw [hb]; decide
              · exact h2 x (List.mem_of_mem_drop hx)
  · rw [if_neg h]
    exact Or.inl rfl
theorem put_bad {a : Bool} {P : List S48} {K : List ByteArray} {D : List Int} {k v : ByteArray} (h : ¬ (keyB k = true ∧ v.size ≤ 48)) : node_Put.v a P K D k v = (false, [], [], [], 2) := by
  unfold node_Put.v
  rw [if_neg (fun x => h x.2)]
end
end Go.Proofs.Ytjjfeoigjhbbpaa.PA
namespace Go.Proofs.Ytjjfeoigjhbbpaa.PA
section

open Go.RowKit Go.Proofs.YtjjfeoigjhbbpaaW.PrintWords Go.Proofs.YtjjfeoigjhbbpaaW.PrintLast Go.Proofs.YtjjfeoigjhbbpaaW.PrintMore
attribute [local go_sem] pr_leq pr_geq pr_gtr max2_int min2_int max_two min_two max_three min_three max_four min_four
set_option linter.unusedVariables false
set_option linter.unusedSimpArgs false
theorem drop_val {P : List S48} (h : leafV true P [] [] = true) (key : ByteArray) : node_Drop.v true P [] [] key = if isP P key = true then (true, woP P key, [], [], 0) else (false, [], [], [], 7) := by
  unfold node_Drop.v
  rw [if_pos h]
  split
  · rename_i hi
    rw [erase_wo (leaf_parts h).2.2.2.2.2 hi]
  · rfl
theorem rd48 {P : List S48} {i : Nat} (h : i < P.length) : rd_T48 P (i : Int) = P[i] := by unfold rd_T48; rw [Int.toNat_natCast, List.getD_eq_getElem?_getD, List.getElem?_eq_getElem h]; rfl
end
end Go.Proofs.Ytjjfeoigjhbbpaa.PA
namespace Go.Proofs.Ytjjfeoigjhbbpaa.PA
section

open Go.RowKit Go.Proofs.YtjjfeoigjhbbpaaW.PrintWords Go.Proofs.YtjjfeoigjhbbpaaW.PrintLast Go.Proofs.YtjjfeoigjhbbpaaW.PrintMore
attribute [local go_sem] pr_leq pr_geq pr_gtr max2_int min2_int max_two min_two max_three min_three max_four min_four
set_option linter.unusedVariables false
set_option linter.unusedSimpArgs false
def cisternlaw11_known.f  : Option (Bool) := (node_Encode.f true (([(⟨(⟨#[97]⟩ : ByteArray), (⟨#[49]⟩ : ByteArray)⟩ : S48)] : List (S48))) ([] : List ByteArray) ([] : List Int)).bind fun bt113 => (if bt113.2 = 0 then (some (bt113.1.toList == ([1, 1, 1, 97, 1, 49] : List UInt8))) else (some false))
set_option maxHeartbeats 8000000 in
set_option maxRecDepth 100000 in
theorem cisternlaw11_known.calls  (r : Bool) (w : World) (h : cisternlaw11_known.f  = some r) :
    Calls Try.prog 12 #[] w fun e w' => e = .returned (.bool r) ∧ Below w.heap.size w w' := by
  have hu48 := Try.underlying48
  have hu31 := Try.underlying31
  have HB := Aside0.mk (Below.refl w.heap.size w)
  have H : ((node_Encode.f true (([(⟨(⟨#[97]⟩ : ByteArray), (⟨#[49]⟩ : ByteArray)⟩ : S48)] : List (S48))) ([] : List ByteArray) ([] : List Int)).bind fun bt113 => (if bt113.2 = 0 then (some (bt113.1.toList == ([1, 1, 1, 97, 1, 49] : List UInt8))) else (some false))) = some r := h
  clear h
  obtain ⟨y110, hy110⟩ : ∃ y_ : List (S48), y_ = (([(⟨(⟨#[97]⟩ : ByteArray), (⟨#[49]⟩ : ByteArray)⟩ : S48)] : List (S48))) := ⟨_, rfl⟩
  replace H : ((node_Encode.f true y110 ([] : List ByteArray) ([] : List Int)).bind fun bt113 => (if bt113.2 = 0 then (some (bt113.1.toList == ([1, 1, 1, 97, 1, 49] : List UInt8))) else (some false))) = some r := by first | (rw [hy110]; with_reducible exact H) | (have H2_ := (Option.bind_some _ _).symm.trans H; rw [hy110]; with_reducible exact H2_) | (have H2_ := (Option.bind_some _ _).symm.trans H; with_reducible exact H2_) | with_reducible exact H | (rw [hy110]; exact H) | exact H
  have Ny110 := Aside0.mk hy110
  clear hy110
  replace H := Option.bind_eq_some_iff.mp H
  obtain ⟨⟨t113, t114⟩, A10, H⟩ := H
  replace H : (if t114 = 0 then (some (t113.toList == ([1, 1, 1, 97, 1, 49] : List UInt8))) else (some false)) = some r := H
  have A1 := Aside0.mk A10
  clear A10
  by_cases c2 : t114 = 0
  · rw [if_pos c2] at H
    have c2b0 : (t114 == 0) = true := beq_iff_eq.mpr c2
    have c2b1 : (t114 != 0) = false := bne_eq_false_iff_eq.mpr c2
    clear c2
    obtain rfl := Option.some.inj H
    go_enter Try.func12, Try.ntmps12
    go_wp2_with (first | ((with_reducible refine gate_dst (N := 5) rfl ?_); refine Kd.R_lit k48 _ 48 ?hg (N := 5) ?hd (xs := ([(⟨(⟨#[97]⟩ : ByteArray), (⟨#[49]⟩ : ByteArray)⟩ : S48)] : List (S48))) (inner := [.string (⟨#[97]⟩ : ByteArray), .string (⟨#[49]⟩ : ByteArray)]) (ok := fun _ => True) (okp := fun _ => True) ?hr ?hp (fun _ hk => hk) trivial (Below.refl _ _) (Nat.le_refl _) (by simp) ?_; (case hd => rfl); (case hg => rfl); (case hr => first | (go_simp; done) | (go_simp; rfl)); (case hp => exact (Reps.c2 (show Kd.M k48 _ _ _ (⟨(⟨#[97]⟩ : ByteArray), (⟨#[49]⟩ : ByteArray)⟩ : S48) [.string (⟨#[97]⟩ : ByteArray), .string (⟨#[49]⟩ : ByteArray)] from (k48_mkM _ _ _ (⟨(⟨#[97]⟩ : ByteArray), (⟨#[49]⟩ : ByteArray)⟩ : S48) )) (Reps.none _ _))); intro v111 w3 ho4 hb hg_ hnew_; clear hg_ hnew_; (first | rw [← Ny110.out] at ho4 | (simp only [Int.reduceToNat] at ho4; rw [← Ny110.out] at ho4)); have n0_ := Aside0.mk (Kd.R_lower ho4 (below_size (by repeat (first | (with_reducible first | exact HB.out | apply below_alloc | apply pw_below_drewN | apply below_drew1) | exact HB.out)))); have n1_ := Aside0.mk (below_step (by repeat (first | (with_reducible first | exact HB.out | apply below_alloc | apply pw_below_drewN | apply below_drew1) | exact HB.out)) hb); clear HB; have HO112 := n0_; have HB := n1_; clear n0_ n1_; clear hb ho4; obtain ⟨Ao5, co5, eo5⟩ := Kd.R_slice HO112.out; subst eo5) | ((with_reducible refine gate_callee (f := 13) rfl ?_); refine goesL_ (some 7) rfl rfl Try.func13 (by kernel_rfl) rfl #[.agg #[.bool true, .slice Ao5 y110.length co5, .slice none 0 0, .slice none 0 0]] rfl (by (try simp only [List.map_toArray, List.map_cons, List.map_nil]); first | done | rfl | (simp only [List.length_drop, List.length_take]; rfl)) ?_; (refine (node_Encode.calls true _ _ y110 _ _ ([] : List ByteArray) _ _ ([] : List Int) t113 t114 _ ?side1 ?side2 ?side3 ?side4 ?side5 ?side6 A1.out).mono ?_); (case side1 => repeat (first | exact (Kd.R_reads' HO112.out).2.2 | (with_reducible refine Kd.C_alloc ?_ _) | (with_reducible refine Kd.C_drewN ?_ _) | (with_reducible refine Kd.C_drew ?_))); (case side2 => exact (Kd.R_reads' HO112.out).2.1); (case side3 => exact Kd.C_nil _ _); (case side4 => exact Nat.le_refl _); (case side5 => exact Kd.C_nil _ _); (case side6 => exact Nat.le_refl _); rintro e w6 ⟨rfl, hb⟩; refine ⟨_, rfl, ?_⟩; have n0_ := Aside0.mk (Kd.R_below (by (with_reducible repeat (first | apply Kd.R_alloc | apply Kd.R_drewN | apply Kd.R_drew)); exact HO112.out) hb); have n1_ := Aside0.mk (below_step (by repeat (first | (with_reducible first | exact HB.out | apply below_alloc | apply pw_below_drewN | apply below_drew1) | exact HB.out)) hb); clear HO112; clear HB; have HO112 := n0_; have HB := n1_; clear n0_ n1_; (try clear hb); (try clear hb2); (try clear hk); (try clear hi)))
    go_ret
    exact ⟨by first | rfl | (simp [errW_none, errW_some] <;> rfl) | (simp [*, errW_none, errW_some] <;> rfl), by repeat (first | (with_reducible first | exact HB.out | apply below_alloc | apply pw_below_drewN | apply below_drew1) | exact HB.out)⟩
  · rw [if_neg c2] at H
    have c2b0 : (t114 == 0) = false := beq_eq_false_iff_ne.mpr c2
    have c2b1 : (t114 != 0) = true := bne_iff_ne.mpr c2
    obtain rfl := Option.some.inj H
    go_enter Try.func12, Try.ntmps12
    go_wp2_with (first | ((with_reducible refine gate_dst (N := 5) rfl ?_); refine Kd.R_lit k48 _ 48 ?hg (N := 5) ?hd (xs := ([(⟨(⟨#[97]⟩ : ByteArray), (⟨#[49]⟩ : ByteArray)⟩ : S48)] : List (S48))) (inner := [.string (⟨#[97]⟩ : ByteArray), .string (⟨#[49]⟩ : ByteArray)]) (ok := fun _ => True) (okp := fun _ => True) ?hr ?hp (fun _ hk => hk) trivial (Below.refl _ _) (Nat.le_refl _) (by simp) ?_; (case hd => rfl); (case hg => rfl); (case hr => first | (go_simp; done) | (go_simp; rfl)); (case hp => exact (Reps.c2 (show Kd.M k48 _ _ _ (⟨(⟨#[97]⟩ : ByteArray), (⟨#[49]⟩ : ByteArray)⟩ : S48) [.string (⟨#[97]⟩ : ByteArray), .string (⟨#[49]⟩ : ByteArray)] from (k48_mkM _ _ _ (⟨(⟨#[97]⟩ : ByteArray), (⟨#[49]⟩ : ByteArray)⟩ : S48) )) (Reps.none _ _))); intro v111 w7 ho8 hb hg_ hnew_; clear hg_ hnew_; (first | rw [← Ny110.out] at ho8 | (simp only [Int.reduceToNat] at ho8; rw [← Ny110.out] at ho8)); have n0_ := Aside0.mk (Kd.R_lower ho8 (below_size (by repeat (first | (with_reducible first | exact HB.out | apply below_alloc | apply pw_below_drewN | apply below_drew1) | exact HB.out)))); have n1_ := Aside0.mk (below_step (by repeat (first | (with_reducible first | exact HB.out | apply below_alloc | apply pw_below_drewN | apply below_drew1) | exact HB.out)) hb); clear HB; have HO112 := n0_; have HB := n1_; clear n0_ n1_; clear hb ho8; obtain ⟨Ao9, co9, eo9⟩ := Kd.R_slice HO112.out; subst eo9) | ((with_reducible refine gate_callee (f := 13) rfl ?_); refine goesL_ (some 7) rfl rfl Try.func13 (by kernel_rfl) rfl #[.agg #[.bool true, .slice Ao9 y110.length co9, .slice none 0 0, .slice none 0 0]] rfl (by (try simp only [List.map_toArray, List.map_cons, List.map_nil]); first | done | rfl | (simp only [List.length_drop, List.length_take]; rfl)) ?_; (refine (node_Encode.calls true _ _ y110 _ _ ([] : List ByteArray) _ _ ([] : List Int) t113 t114 _ ?side1 ?side2 ?side3 ?side4 ?side5 ?side6 A1.out).mono ?_); (case side1 => repeat (first | exact (Kd.R_reads' HO112.out).2.2 | (with_reducible refine Kd.C_alloc ?_ _) | (with_reducible refine Kd.C_drewN ?_ _) | (with_reducible refine Kd.C_drew ?_))); (case side2 => exact (Kd.R_reads' HO112.out).2.1); (case side3 => exact Kd.C_nil _ _); (case side4 => exact Nat.le_refl _); (case side5 => exact Kd.C_nil _ _); (case side6 => exact Nat.le_refl _); rintro e w10 ⟨rfl, hb⟩; refine ⟨_, rfl, ?_⟩; have n0_ := Aside0.mk (Kd.R_below (by (with_reducible repeat (first | apply Kd.R_alloc | apply Kd.R_drewN | apply Kd.R_drew)); exact HO112.out) hb); have n1_ := Aside0.mk (below_step (by repeat (first | (with_reducible first | exact HB.out | apply below_alloc | apply pw_below_drewN | apply below_drew1) | exact HB.out)) hb); clear HO112; clear HB; have HO112 := n0_; have HB := n1_; clear n0_ n1_; (try clear hb); (try clear hb2); (try clear hk); (try clear hi)))
    go_ret
    exact ⟨by first | rfl | (simp [errW_none, errW_some] <;> rfl) | (simp [*, errW_none, errW_some] <;> rfl), by repeat (first | (with_reducible first | exact HB.out | apply below_alloc | apply pw_below_drewN | apply below_drew1) | exact HB.out)⟩
end
end Go.Proofs.Ytjjfeoigjhbbpaa.PA
namespace Go.Proofs.Ytjjfeoigjhbbpaa.PA
section

open Go.RowKit Go.Proofs.YtjjfeoigjhbbpaaW.PrintWords Go.Proofs.YtjjfeoigjhbbpaaW.PrintLast Go.Proofs.YtjjfeoigjhbbpaaW.PrintMore
attribute [local go_sem] pr_leq pr_geq pr_gtr max2_int min2_int max_two min_two max_three min_three max_four min_four
set_option linter.unusedVariables false
set_option linter.unusedSimpArgs false
def cisternref11_Key.f (a0 : ByteArray) : Option (Bool) := if a0.toList = ([] : List UInt8) then (some false) else (some (decide ((a0.size : Int) ≤ 32)))
set_option maxHeartbeats 8000000 in
set_option maxRecDepth 100000 in
theorem cisternref11_Key.calls (a0 : ByteArray) (r : Bool) (w : World) (h : cisternref11_Key.f a0 = some r) :
    Calls Try.prog 29 #[.string a0] w fun e w' => e = .returned (.bool r) ∧ Drawn0 w w' := by
  have H : (if a0.toList = ([] : List UInt8) then (some false) else (some (decide ((a0.size : Int) ≤ 32)))) = some r := h
  clear h
  by_cases c2 : a0.toList = ([] : List UInt8)
  · rw [if_pos c2] at H
    have c2b0 : (a0.toList == ([] : List UInt8)) = true := beq_iff_eq.mpr c2
    have c2b1 : (a0.toList != ([] : List UInt8)) = false := bne_eq_false_iff_eq.mpr c2
    clear c2
    obtain rfl := Option.some.inj H
    go_enter Try.func29, Try.ntmps29
    go_wp2
    go_ret
    exact ⟨by first | rfl | (simp; done) | (simp [*]; done), by repeat (first | exact Drawn0.refl _ | apply Drawn0.step)⟩
  · rw [if_neg c2] at H
    have c2b0 : (a0.toList == ([] : List UInt8)) = false := beq_eq_false_iff_ne.mpr c2
    have c2b1 : (a0.toList != ([] : List UInt8)) = true := bne_iff_ne.mpr c2
    obtain rfl := Option.some.inj H
    go_enter Try.func29, Try.ntmps29
    go_wp2
    go_ret
    exact ⟨by first | rfl | (simp; done) | (simp [*]; done), by repeat (first | exact Drawn0.refl _ | apply Drawn0.step)⟩
end
end Go.Proofs.Ytjjfeoigjhbbpaa.PA
namespace Go.Proofs.Ytjjfeoigjhbbpaa.PA
section

open Go.RowKit Go.Proofs.YtjjfeoigjhbbpaaW.PrintWords Go.Proofs.YtjjfeoigjhbbpaaW.PrintLast Go.Proofs.YtjjfeoigjhbbpaaW.PrintMore
attribute [local go_sem] pr_leq pr_geq pr_gtr max2_int min2_int max_two min_two max_three min_three max_four min_four
set_option linter.unusedVariables false
set_option linter.unusedSimpArgs false
theorem nd_take {P : Program} {md : Region.Mode} {ops : Array Oper} {Q : Exit → Act → World → Prop} {S : World → Prop} {fuel : Nat} {listed : Array Bool} {a : Act} {w : World} (i : Nat) {oi : Oper} {v : Value} {a' : Act} (hS : S w)
    (h : wpAnyH P md ops Q S fuel (listed.setIfInBounds i true) a' w) (hi : ops[i]? = some oi := by rfl) (hs : Region.noSelect ops = true := by kernel_rfl) (hf : Region.free md ops listed i = true := by kernel_rfl) (hr : (Region.ready md ops listed).contains i = true := by kernel_rfl)
    (hQ : ∀ c a w, Q (.panic c) (a.put oi.dst v) w → Q (.panic c) a w := by exact fun _ _ _ h => h)
    (hy : YieldsIf P ops S oi v a := by exact Or.inl ⟨by rfl, by (intro w hSw; (try dsimp only at hSw); go_simp; try with_reducible rfl)⟩)
    (ha : a.put oi.dst v = a' := by (first | (simp only [Act.put, List.getElem_toArray, List.getElem_cons_zero, List.getElem_cons_succ, List.setIfInBounds_toArray, List.set_cons_zero, List.set_cons_succ]; done) | (simp only [Act.put, List.getElem_toArray, List.getElem_cons_zero, List.getElem_cons_succ, List.setIfInBounds_toArray, List.set_cons_zero, List.set_cons_succ]; rfl))) :
    wpAnyH P md ops Q S (fuel + 1) listed a w := by
  subst ha
  exact wpAnyH_take hi hs hf hr hQ hy hS h
theorem nd_skip {P : Program} {md : Region.Mode} {ops : Array Oper} {Q : Exit → Act → World → Prop} {S : World → Prop} {fuel : Nat} {listed : Array Bool} {a : Act} {w : World} (i : Nat) {oi : Oper} {a' : Act} (hS : S w)
    (h : wpAnyH P md ops Q S fuel (listed.setIfInBounds i true) a' w) (hi : ops[i]? = some oi := by rfl) (hs : Region.noSelect ops = true := by kernel_rfl) (hf : Region.free md ops listed i = true := by kernel_rfl) (hr : (Region.ready md ops listed).contains i = true := by kernel_rfl)
    (hQ : ∀ c a w, Q (.panic c) (a.put oi.dst undef) w → Q (.panic c) a w := by exact fun _ _ _ h => h)
    (hy : YieldsIf P ops S oi undef a := by exact Or.inr ⟨by rfl, rfl⟩)
    (ha : a.put oi.dst undef = a' := by (first | (simp only [Act.put, List.getElem_toArray, List.getElem_cons_zero, List.getElem_cons_succ, List.setIfInBounds_toArray, List.set_cons_zero, List.set_cons_succ]; done) | (simp only [Act.put, List.getElem_toArray, List.getElem_cons_zero, List.getElem_cons_succ, List.setIfInBounds_toArray, List.set_cons_zero, List.set_cons_succ]; rfl))) :
    wpAnyH P md ops Q S (fuel + 1) listed a w := by
  subst ha
  exact wpAnyH_take hi hs hf hr hQ hy hS h
def okV (P : List S48) (K : List ByteArray) (D : List Int) : Bool := !(P.any badP) && risesB (P.map (·.f0)) && !(K.any badS) && risesB K && !(D.any badI)
def gdV (a : Bool) (P : List S48) (K : List ByteArray) (D : List Int) : Bool := decide (P.length ≤ 255) && decide (D.length ≤ 255) && (if a then decide (K.length = 0) && decide (D.length = 0) else decide (P.length = 0) && decide (D.length ≠ 0) && decide (K.length + 1 = D.length))
theorem right_eq (a : Bool) (P : List S48) (K : List ByteArray) (D : List Int) : (gdV a P K D && okV P K D) = (leafV a P K D || innerV a P K D) := by
  unfold gdV okV leafV innerV
  cases a
  · by_cases h1 : P.length = 0
    · have : P = [] := List.eq_nil_of_length_eq_zero h1
      subst this
      by_cases h2 : D.length = 0
      · simp [h2]
      · by_cases h3 : D.length ≤ 255
        · by_cases h4 : K.length + 1 = D.length
          · have : 1 ≤ D.length := by omega
            have e0 : risesB [] = true := rfl
            simp only [h2, h3, h4, this, e0, List.map_nil, List.any_nil]
            cases K.any badS <;> cases D.any badI <;> cases risesB K <;> simp [h2]
          · simp [h4]
        · simp [h3]
    · simp [h1]
  · by_cases h1 : K.length = 0
    · have : K = [] := List.eq_nil_of_length_eq_zero h1
      subst this
      by_cases h2 : D.length = 0
      · have : D = [] := List.eq_nil_of_length_eq_zero h2
        subst this
        by_cases h3 : P.length ≤ 255
        · have e0 : risesB [] = true := rfl
          simp only [h3, e0, List.any_nil]
          cases P.any badP <;> cases risesB (P.map (·.f0)) <;> simp
        · simp [h3]
      · simp [h2]
    · by_cases h2 : D.length = 0
      · simp [h1, h2]
      · simp [h1, h2]
theorem ok_badP {P : List S48} {K : List ByteArray} {D : List Int} {x : S48} (hx : x ∈ P) (h : badP x = true) : okV P K D = false := by
  unfold okV
  rw [List.any_eq_true.2 ⟨x, hx, h⟩]
  rfl
theorem ok_badS {P : List S48} {K : List ByteArray} {D : List Int} {x : ByteArray} (hx : x ∈ K) (h : badS x = true) : okV P K D = false := by
  unfold okV
  rw [List.any_eq_true.2 ⟨x, hx, h⟩]
  simp
theorem ok_badI {P : List S48} {K : List ByteArray} {D : List Int} {x : Int} (hx : x ∈ D) (h : badI x = true) : okV P K D = false := by
  unfold okV
  rw [List.any_eq_true.2 ⟨x, hx, h⟩]
  simp
theorem ok_fallP {P : List S48} {K : List ByteArray} {D : List Int} (h : risesB (P.map (·.f0)) = false) : okV P K D = false := by
  unfold okV
  rw [h]
  simp
theorem ok_fallS {P : List S48} {K : List ByteArray} {D : List Int} (h : risesB K = false) : okV P K D = false := by
  unfold okV
  rw [h]
  simp
theorem take_any {α : Type} (f : α → Bool) (l : List α) (k : Nat) (h : k < l.length) (h1 : (l.take k).any f = false) (h2 : f l[k] = false) : (l.take (k + 1)).any f = false := by
  rw [List.take_succ_eq_append_getElem h, List.any_append, h1]
  simp [h2]
theorem key_val (s : ByteArray) : cisternref11_Key.f s = some (keyB s) := by unfold cisternref11_Key.f keyB; split <;> rfl
set_option maxHeartbeats 8000000 in
set_option maxRecDepth 100000 in
theorem right_true (A0_1 : Option Addr) (c0_1 : Nat) (l0_1 : List S48) (A0_2 : Option Addr) (c0_2 : Nat) (l0_2 : List ByteArray) (A0_3 : Option Addr) (c0_3 : Nat) (l0_3 : List Int) (r : Bool) (w : World) (hr0_1 : Kd.C k48 w A0_1 l0_1.length l0_1) (hc0_1 : l0_1.length ≤ c0_1) (hr0_2 : Kd.C Kd.string w A0_2 l0_2.length l0_2) (hc0_2 : l0_2.length ≤ c0_2) (hr0_3 : Kd.C (Kd.int .i64) w A0_3 l0_3.length l0_3) (hc0_3 : l0_3.length ≤ c0_3) (hr : r = (gdV true l0_1 l0_2 l0_3 && okV l0_1 l0_2 l0_3)) :
    Calls Try.prog 26 #[.agg #[.bool true, .slice A0_1 l0_1.length c0_1, .slice A0_2 l0_2.length c0_2, .slice A0_3 l0_3.length c0_3]] w fun e w' => e = .returned (.bool r) ∧ Below w.heap.size w w' := by
  have HR := Aside0.mk hr
  have L1 : l0_1.length ≤ 9223372036854775807 := hr0_1.2.1
  have L2 : l0_2.length ≤ 9223372036854775807 := hr0_2.2.1
  have L3 : l0_3.length ≤ 9223372036854775807 := hr0_3.2.1
  have R1 := Aside0.mk hr0_1
  have R2 := Aside0.mk hr0_2
  have R3 := Aside0.mk hr0_3
  clear hr0_1 hc0_1 hr0_2 hc0_2 hr0_3 hc0_3 hr
  by_cases hp : l0_1.length ≤ 255
  · have gp0 : decide ((255 : Int) < (l0_1.length : Int)) = false := decide_eq_false (by omega)
    have gp1 : decide (255 < l0_1.length) = false := decide_eq_false (by omega)
    by_cases hd : l0_3.length ≤ 255
    · have gd0 : decide ((255 : Int) < (l0_3.length : Int)) = false := decide_eq_false (by omega)
      have gd1 : decide (255 < l0_3.length) = false := decide_eq_false (by omega)
      by_cases hk : l0_2.length = 0
      · have gk0 : decide ((0 : Int) < (l0_2.length : Int)) = false := decide_eq_false (by omega)
        have gk1 : decide (0 < l0_2.length) = false := decide_eq_false (by omega)
        by_cases he : l0_3.length = 0
        · have ge0 : decide ((0 : Int) < (l0_3.length : Int)) = false := decide_eq_false (by omega)
          have ge1 : decide (0 < l0_3.length) = false := decide_eq_false (by omega)
          have GD : Aside0 (gdV true l0_1 l0_2 l0_3 = true) := ⟨by unfold gdV; simp [hp, hd, hk, he]⟩
          clear hp hd hk he
          have bx := heap_alloc_new w (.cells #[.bool true, .slice A0_1 l0_1.length c0_1, .slice A0_2 l0_2.length c0_2, .slice A0_3 l0_3.length c0_3] 26)
          have xa := below_alloc (Below.refl w.heap.size w) (.cells #[.bool true, .slice A0_1 l0_1.length c0_1, .slice A0_2 l0_2.length c0_2, .slice A0_3 l0_3.length c0_3] 26)
          obtain ⟨wa, hwa⟩ : ∃ wa, wa = w.alloc (.cells #[.bool true, .slice A0_1 l0_1.length c0_1, .slice A0_2 l0_2.length c0_2, .slice A0_3 l0_3.length c0_3] 26) := ⟨_, rfl⟩
          have HWA := Aside0.mk hwa
          rw [← hwa] at bx xa
          have BA := Aside0.mk xa
          clear hwa xa
          have b0 : wa.cell? ⟨w.heap.size, 0, none⟩ = some (.bool true) := blk_cell bx 0
          have b1 : wa.cell? ⟨w.heap.size, 1, none⟩ = some (.slice A0_1 l0_1.length c0_1) := blk_cell bx 1
          have b2 : wa.cell? ⟨w.heap.size, 2, none⟩ = some (.slice A0_2 l0_2.length c0_2) := blk_cell bx 2
          have b3 : wa.cell? ⟨w.heap.size, 3, none⟩ = some (.slice A0_3 l0_3.length c0_3) := blk_cell bx 3
          have BC1 := Aside0.mk b1
          have BC2 := Aside0.mk b2
          have BC3 := Aside0.mk b3
          clear bx
          go_enter Try.func26, Try.ntmps26
          go_wp2_with fail
          rw [← HWA.out]
          clear b0 b1 b2 b3
          go_loopw [3] (fun v w' => ∃ k : Nat, k ≤ l0_1.length ∧ v = .int .i64 (k : Int) ∧ Aside0 ((l0_1.take k).any badP = false) ∧ Aside0 (∀ j, j + 1 < k → Op.bytesLess ((l0_1.map (·.f0)).getD j ByteArray.empty).toList ((l0_1.map (·.f0)).getD (j + 1) ByteArray.empty).toList = true) ∧ Aside0 (Below wa.heap.size wa w')) (fun v _ => (l0_1.length - intOf v).toNat)
          case atStart => exact ⟨0, by omega, rfl, ⟨by simp⟩, ⟨fun j hj => by omega⟩, ⟨Below.refl _ _⟩⟩
          case round =>
            obtain ⟨k, hk, rfl, HTK, HA, HX2⟩ := hrel
            have hbx : wr.cell? ⟨w.heap.size, 1, none⟩ = some (.slice A0_1 l0_1.length c0_1) := nd_cell HX2.out BC1.out
            by_cases h : k < l0_1.length
            · have d1 : decide (k < l0_1.length) = true := decide_eq_true h
              have d1' : decide ((k : Int) < (l0_1.length : Int)) = true := decide_eq_true (by omega)
              have HB : Aside0 (Below w.heap.size w wr) := ⟨BA.out.trans (HX2.out.mono BA.out.size)⟩
              by_cases hk0 : k = 0
              · subst hk0
                have z0 : decide ((0 : Int) < 0) = false := rfl
                obtain ⟨x, xe'⟩ : ∃ x, x = rd_T48 l0_1 ((0 : Nat) : Int) := ⟨_, rfl⟩
                have xe := xe'.symm
                obtain ⟨adx, hax, hx0, hx1⟩ := at_T48 (Kd.C_below R1.out HB.out) ((0 : Nat) : Int) (by omega) (by omega)
                rw [Int.toNat_natCast, show rd_T48 l0_1 ((0 : Nat) : Int) = x from xe] at hx0 hx1
                have HXE : Aside0 (l0_1[0] = x) := ⟨by rw [xe']; simp [rd_T48, List.getD_eq_getElem?_getD, h]⟩
                clear xe xe'
                subst hax
                replace hx0 : wr.cell? adx = some (.string x.f0) := by simpa [Addr.add_zero'] using hx0
                replace hx1 : wr.cell? ⟨adx.block, adx.off + 1, none⟩ = some (.string x.f1) := by simpa [Addr.add_zero'] using hx1
                obtain ⟨kb, hkb⟩ : ∃ b, b = keyB x.f0 := ⟨_, rfl⟩
                have KY : Aside0 (∀ W, Calls Try.prog 29 #[.string x.f0] W fun e w' => e = .returned (.bool kb) ∧ Drawn0 W w') := ⟨fun W => cisternref11_Key.calls x.f0 kb W (by rw [key_val, hkb])⟩
                cases kb
                · have HBD : Aside0 (badP l0_1[0] = true) := ⟨by rw [HXE.out]; unfold badP; rw [← hkb]; rfl⟩
                  clear hkb
                  have MK : Aside0 (∀ w1, Below wr.heap.size wr w1 → Below wr.heap.size wr w1 ∧ w1.cell? ⟨w.heap.size, 1, none⟩ = some (.slice (some adx) l0_1.length c0_1) ∧ w1.cell? adx = some (.string x.f0) ∧ w1.cell? ⟨adx.block, adx.off + 1, none⟩ = some (.string x.f1)) := ⟨fun w1 hb => ⟨hb, nd_cell hb hbx, nd_cell hb hx0, nd_cell hb hx1⟩⟩
                  have FIN : Aside0 (∀ w1, Below wr.heap.size wr w1 → Below wa.heap.size wa w1) := ⟨fun w1 hb => HX2.out.trans (hb.mono HX2.out.size)⟩
                  have RF : Aside0 (false = r) := ⟨by rw [HR.out, ok_badP (List.getElem_mem h) HBD.out, Bool.and_false]⟩
                  clear hx0 hx1
                  go_wp2_with fail
                  refine wp_region_held_drew (S := fun w1 => Below wr.heap.size wr w1 ∧ w1.cell? ⟨w.heap.size, 1, none⟩ = some (.slice (some adx) l0_1.length c0_1) ∧ w1.cell? adx = some (.string x.f0) ∧ w1.cell? ⟨adx.block, adx.off + 1, none⟩ = some (.string x.f1)) (by kernel_rfl) ?_ (fun hHeld => ?_)
                  · try dsimp only
                    first | exact MK.out _ (Below.drew (Below.refl _ _)) | exact MK.out _ SB1.out | assumption
                  refine nd_take 0 hHeld ?_
                  refine nd_take 1 hHeld ?_
                  refine nd_take 2 hHeld ?_
                  refine nd_take 3 hHeld ?_
                  refine nd_take 4 hHeld ?_
                  refine nd_take 5 hHeld ?_
                  refine wpAnyH_ready (rs := [6]) (by kernel_rfl) (by simp) ?_
                  refine AllReadyH.cons rfl (fun K hK => ?_) AllReadyH.nil
                  go_simp
                  refine (KY.out _).mono ?_
                  rintro e w6 ⟨rfl, hd6⟩
                  have SB1 : Aside0 (Below wr.heap.size wr w6) := ⟨Below.trans hHeld.1 (hd6.below.mono hHeld.1.size)⟩
                  clear hd6
                  go_simp
                  refine hK.out _ _ ?_ (fun hNew => ?_)
                  · try dsimp only
                    first | exact MK.out _ (Below.drew (Below.refl _ _)) | exact MK.out _ SB1.out | assumption
                  clear hK K hHeld
                  have hHeld := hNew
                  clear hNew
                  refine nd_take 7 hHeld ?_
                  refine nd_take 8 hHeld ?_
                  refine nd_skip 9 hHeld ?_
                  refine nd_skip 10 hHeld ?_
                  refine nd_skip 11 hHeld ?_
                  refine nd_skip 12 hHeld ?_
                  refine nd_skip 13 hHeld ?_
                  refine nd_skip 14 hHeld ?_
                  refine nd_skip 15 hHeld ?_
                  refine nd_skip 16 hHeld ?_
                  refine nd_take 17 hHeld ?_
                  refine nd_take 18 hHeld ?_
                  refine nd_skip 19 hHeld ?_
                  refine nd_skip 20 hHeld ?_
                  refine nd_skip 21 hHeld ?_
                  refine nd_skip 22 hHeld ?_
                  refine nd_skip 23 hHeld ?_
                  refine nd_skip 24 hHeld ?_
                  refine nd_skip 25 hHeld ?_
                  refine nd_skip 26 hHeld ?_
                  refine nd_skip 27 hHeld ?_
                  refine nd_skip 28 hHeld ?_
                  refine nd_skip 29 hHeld ?_
                  refine nd_skip 30 hHeld ?_
                  refine nd_skip 31 hHeld ?_
                  refine nd_skip 32 hHeld ?_
                  refine nd_skip 33 hHeld ?_
                  refine nd_skip 34 hHeld ?_
                  refine nd_skip 35 hHeld ?_
                  refine nd_skip 36 hHeld ?_
                  refine nd_take 37 hHeld ?_
                  refine wpAnyH_done (by kernel_rfl) ?_ _
                  go_wp2_with fail
                  go_ret
                  exact ⟨by rw [← RF.out]; rfl, (BA.out.trans ((FIN.out _ hHeld.1).mono BA.out.size))⟩

                · by_cases hs : (48 : Int) < (x.f1.size : Int)
                  · have hs1 : decide ((48 : Int) < (x.f1.size : Int)) = true := decide_eq_true hs
                    have HBD : Aside0 (badP l0_1[0] = true) := ⟨by rw [HXE.out]; unfold badP; rw [decide_eq_true hs]; simp⟩
                    clear hkb
                    have MK : Aside0 (∀ w1, Below wr.heap.size wr w1 → Below wr.heap.size wr w1 ∧ w1.cell? ⟨w.heap.size, 1, none⟩ = some (.slice (some adx) l0_1.length c0_1) ∧ w1.cell? adx = some (.string x.f0) ∧ w1.cell? ⟨adx.block, adx.off + 1, none⟩ = some (.string x.f1)) := ⟨fun w1 hb => ⟨hb, nd_cell hb hbx, nd_cell hb hx0, nd_cell hb hx1⟩⟩
                    have FIN : Aside0 (∀ w1, Below wr.heap.size wr w1 → Below wa.heap.size wa w1) := ⟨fun w1 hb => HX2.out.trans (hb.mono HX2.out.size)⟩
                    have RF : Aside0 (false = r) := ⟨by rw [HR.out, ok_badP (List.getElem_mem h) HBD.out, Bool.and_false]⟩
                    clear hx0 hx1
                    go_wp2_with fail
                    refine wp_region_held_drew (S := fun w1 => Below wr.heap.size wr w1 ∧ w1.cell? ⟨w.heap.size, 1, none⟩ = some (.slice (some adx) l0_1.length c0_1) ∧ w1.cell? adx = some (.string x.f0) ∧ w1.cell? ⟨adx.block, adx.off + 1, none⟩ = some (.string x.f1)) (by kernel_rfl) ?_ (fun hHeld => ?_)
                    · try dsimp only
                      first | exact MK.out _ (Below.drew (Below.refl _ _)) | exact MK.out _ SB1.out | assumption
                    refine nd_take 0 hHeld ?_
                    refine nd_take 1 hHeld ?_
                    refine nd_take 2 hHeld ?_
                    refine nd_take 3 hHeld ?_
                    refine nd_take 4 hHeld ?_
                    refine nd_take 5 hHeld ?_
                    refine wpAnyH_ready (rs := [6]) (by kernel_rfl) (by simp) ?_
                    refine AllReadyH.cons rfl (fun K hK => ?_) AllReadyH.nil
                    go_simp
                    refine (KY.out _).mono ?_
                    rintro e w6 ⟨rfl, hd6⟩
                    have SB1 : Aside0 (Below wr.heap.size wr w6) := ⟨Below.trans hHeld.1 (hd6.below.mono hHeld.1.size)⟩
                    clear hd6
                    go_simp
                    refine hK.out _ _ ?_ (fun hNew => ?_)
                    · try dsimp only
                      first | exact MK.out _ (Below.drew (Below.refl _ _)) | exact MK.out _ SB1.out | assumption
                    clear hK K hHeld
                    have hHeld := hNew
                    clear hNew
                    refine nd_take 7 hHeld ?_
                    refine nd_take 8 hHeld ?_
                    refine nd_take 9 hHeld ?_
                    refine nd_take 10 hHeld ?_
                    refine nd_take 11 hHeld ?_
                    refine nd_take 12 hHeld ?_
                    refine nd_take 13 hHeld ?_
                    refine nd_take 14 hHeld ?_
                    refine nd_take 15 hHeld ?_
                    refine nd_take 16 hHeld ?_
                    refine nd_take 17 hHeld ?_
                    refine nd_take 18 hHeld ?_
                    refine nd_skip 19 hHeld ?_
                    refine nd_skip 20 hHeld ?_
                    refine nd_skip 21 hHeld ?_
                    refine nd_skip 22 hHeld ?_
                    refine nd_skip 23 hHeld ?_
                    refine nd_skip 24 hHeld ?_
                    refine nd_skip 25 hHeld ?_
                    refine nd_skip 26 hHeld ?_
                    refine nd_skip 27 hHeld ?_
                    refine nd_skip 28 hHeld ?_
                    refine nd_skip 29 hHeld ?_
                    refine nd_skip 30 hHeld ?_
                    refine nd_skip 31 hHeld ?_
                    refine nd_skip 32 hHeld ?_
                    refine nd_skip 33 hHeld ?_
                    refine nd_skip 34 hHeld ?_
                    refine nd_skip 35 hHeld ?_
                    refine nd_skip 36 hHeld ?_
                    refine nd_take 37 hHeld ?_
                    refine wpAnyH_done (by kernel_rfl) ?_ _
                    go_wp2_with fail
                    go_ret
                    exact ⟨by rw [← RF.out]; rfl, (BA.out.trans ((FIN.out _ hHeld.1).mono BA.out.size))⟩

                  · have hs1 : decide ((48 : Int) < (x.f1.size : Int)) = false := decide_eq_false hs
                    have HBG : Aside0 (badP l0_1[0] = false) := ⟨by rw [HXE.out]; unfold badP; rw [← hkb]; rw [decide_eq_false hs]; rfl⟩
                    clear hkb hs
                    have HT : Aside0 ((l0_1.take (1)).any badP = false) := ⟨take_any _ _ 0 h HTK.out HBG.out⟩
                    have HA2 : Aside0 (∀ j, j + 1 < 1 → Op.bytesLess ((l0_1.map (·.f0)).getD j ByteArray.empty).toList ((l0_1.map (·.f0)).getD (j + 1) ByteArray.empty).toList = true) := ⟨fun j hj => by omega⟩
                    have MK : Aside0 (∀ w1, Below wr.heap.size wr w1 → Below wr.heap.size wr w1 ∧ w1.cell? ⟨w.heap.size, 1, none⟩ = some (.slice (some adx) l0_1.length c0_1) ∧ w1.cell? adx = some (.string x.f0) ∧ w1.cell? ⟨adx.block, adx.off + 1, none⟩ = some (.string x.f1)) := ⟨fun w1 hb => ⟨hb, nd_cell hb hbx, nd_cell hb hx0, nd_cell hb hx1⟩⟩
                    have FIN : Aside0 (∀ w1, Below wr.heap.size wr w1 → Below wa.heap.size wa w1) := ⟨fun w1 hb => HX2.out.trans (hb.mono HX2.out.size)⟩
                    clear hx0 hx1
                    go_wp2_with fail
                    refine wp_region_held_drew (S := fun w1 => Below wr.heap.size wr w1 ∧ w1.cell? ⟨w.heap.size, 1, none⟩ = some (.slice (some adx) l0_1.length c0_1) ∧ w1.cell? adx = some (.string x.f0) ∧ w1.cell? ⟨adx.block, adx.off + 1, none⟩ = some (.string x.f1)) (by kernel_rfl) ?_ (fun hHeld => ?_)
                    · try dsimp only
                      first | exact MK.out _ (Below.drew (Below.refl _ _)) | exact MK.out _ SB1.out | assumption
                    refine nd_take 0 hHeld ?_
                    refine nd_take 1 hHeld ?_
                    refine nd_take 2 hHeld ?_
                    refine nd_take 3 hHeld ?_
                    refine nd_take 4 hHeld ?_
                    refine nd_take 5 hHeld ?_
                    refine wpAnyH_ready (rs := [6]) (by kernel_rfl) (by simp) ?_
                    refine AllReadyH.cons rfl (fun K hK => ?_) AllReadyH.nil
                    go_simp
                    refine (KY.out _).mono ?_
                    rintro e w6 ⟨rfl, hd6⟩
                    have SB1 : Aside0 (Below wr.heap.size wr w6) := ⟨Below.trans hHeld.1 (hd6.below.mono hHeld.1.size)⟩
                    clear hd6
                    go_simp
                    refine hK.out _ _ ?_ (fun hNew => ?_)
                    · try dsimp only
                      first | exact MK.out _ (Below.drew (Below.refl _ _)) | exact MK.out _ SB1.out | assumption
                    clear hK K hHeld
                    have hHeld := hNew
                    clear hNew
                    refine nd_take 7 hHeld ?_
                    refine nd_take 8 hHeld ?_
                    refine nd_take 9 hHeld ?_
                    refine nd_take 10 hHeld ?_
                    refine nd_take 11 hHeld ?_
                    refine nd_take 12 hHeld ?_
                    refine nd_take 13 hHeld ?_
                    refine nd_take 14 hHeld ?_
                    refine nd_take 15 hHeld ?_
                    refine nd_take 16 hHeld ?_
                    refine nd_take 17 hHeld ?_
                    refine nd_take 18 hHeld ?_
                    refine nd_take 19 hHeld ?_
                    refine nd_take 20 hHeld ?_
                    refine nd_take 21 hHeld ?_
                    refine nd_skip 22 hHeld ?_
                    refine nd_skip 23 hHeld ?_
                    refine nd_skip 24 hHeld ?_
                    refine nd_skip 25 hHeld ?_
                    refine nd_skip 26 hHeld ?_
                    refine nd_skip 27 hHeld ?_
                    refine nd_skip 28 hHeld ?_
                    refine nd_skip 29 hHeld ?_
                    refine nd_skip 30 hHeld ?_
                    refine nd_skip 31 hHeld ?_
                    refine nd_skip 32 hHeld ?_
                    refine nd_skip 33 hHeld ?_
                    refine nd_skip 34 hHeld ?_
                    refine nd_skip 35 hHeld ?_
                    refine nd_take 36 hHeld ?_
                    refine nd_take 37 hHeld ?_
                    refine wpAnyH_done (by kernel_rfl) ?_ _
                    have FB := Aside0.mk (FIN.out _ hHeld.1)
                    clear hHeld
                    go_wp2_with fail
                    go_roundw
                    case rel => exact ⟨1, by omega, by first | rfl | (simp; done) | go_num, HT, HA2, FB⟩
                    case measure => simp [intOf]; omega


              · obtain ⟨m, rfl⟩ : ∃ m, k = m + 1 := ⟨k - 1, by omega⟩
                clear hk0
                have z0 : decide ((0 : Int) < ((m + 1 : Nat) : Int)) = true := decide_eq_true (by omega)
                have z0' : decide ((0 : Int) < (m : Int) + 1) = true := decide_eq_true (by omega)
                have e1 : wrap64 (((m + 1 : Nat) : Int) - 1) = (m : Int) := by unfold wrap64; omega
                have e1b : wrap64 ((m : Int) + 1 - 1) = (m : Int) := by unfold wrap64; omega
                have e1c : wrap64 (m : Int) = (m : Int) := by unfold wrap64; omega
                have e1d : IntKind.i64.wrap (m : Int) = (m : Int) := by rw [IntKind.wrap_i64]; omega
                have p1 : (0 : Int) ≤ (m : Int) := by omega
                have q1 : (m : Int) < (l0_1.length : Int) := by omega
                have p2b : (0 : Int) ≤ (m : Int) + 1 := by omega
                have q2b : (m : Int) + 1 < (l0_1.length : Int) := by omega
                have e2b : ((m : Int) + 1).toNat = m + 1 := by omega
                obtain ⟨x, xe'⟩ : ∃ x, x = rd_T48 l0_1 ((m + 1 : Nat) : Int) := ⟨_, rfl⟩
                have xe := xe'.symm
                obtain ⟨adx, hax, hx0, hx1⟩ := at_T48 (Kd.C_below R1.out HB.out) ((m + 1 : Nat) : Int) (by omega) (by omega)
                rw [Int.toNat_natCast, show rd_T48 l0_1 ((m + 1 : Nat) : Int) = x from xe] at hx0 hx1
                have HXE : Aside0 (l0_1[m + 1] = x) := ⟨by rw [xe']; simp [rd_T48, List.getD_eq_getElem?_getD, h]⟩
                clear xe xe'
                obtain ⟨y, ye'⟩ : ∃ y, y = rd_T48 l0_1 ((m : Nat) : Int) := ⟨_, rfl⟩
                have ye := ye'.symm
                obtain ⟨ady0, hay0, hy0, hy1⟩ := at_T48 (Kd.C_below R1.out HB.out) ((m : Nat) : Int) (by omega) (by omega)
                rw [Int.toNat_natCast, show rd_T48 l0_1 ((m : Nat) : Int) = y from ye] at hy0 hy1
                rw [hax] at hay0
                cases hay0
                have hm' : m < l0_1.length := by omega
                have HYE : Aside0 (l0_1[m] = y) := ⟨by rw [ye']; simp [rd_T48, List.getD_eq_getElem?_getD, hm']⟩
                clear ye ye'
                subst hax
                obtain ⟨kb, hkb⟩ : ∃ b, b = keyB x.f0 := ⟨_, rfl⟩
                have KY : Aside0 (∀ W, Calls Try.prog 29 #[.string x.f0] W fun e w' => e = .returned (.bool kb) ∧ Drawn0 W w') := ⟨fun W => cisternref11_Key.calls x.f0 kb W (by rw [key_val, hkb])⟩
                cases kb
                · have HBD : Aside0 (badP l0_1[m + 1] = true) := ⟨by rw [HXE.out]; unfold badP; rw [← hkb]; rfl⟩
                  clear hkb
                  have MK : Aside0 (∀ w1, Below wr.heap.size wr w1 → Below wr.heap.size wr w1 ∧ w1.cell? ⟨w.heap.size, 1, none⟩ = some (.slice (some adx) l0_1.length c0_1) ∧ w1.cell? (adx.add ((m + 1) * 2)) = some (.string x.f0) ∧ w1.cell? ⟨(adx.add ((m + 1) * 2)).block, (adx.add ((m + 1) * 2)).off + 1, none⟩ = some (.string x.f1) ∧ w1.cell? (adx.add (m * 2)) = some (.string y.f0) ∧ w1.cell? ⟨(adx.add (m * 2)).block, (adx.add (m * 2)).off + 1, none⟩ = some (.string y.f1)) := ⟨fun w1 hb => ⟨hb, nd_cell hb hbx, nd_cell hb hx0, nd_cell hb hx1, nd_cell hb hy0, nd_cell hb hy1⟩⟩
                  have FIN : Aside0 (∀ w1, Below wr.heap.size wr w1 → Below wa.heap.size wa w1) := ⟨fun w1 hb => HX2.out.trans (hb.mono HX2.out.size)⟩
                  have RF : Aside0 (false = r) := ⟨by rw [HR.out, ok_badP (List.getElem_mem h) HBD.out, Bool.and_false]⟩
                  clear hx0 hx1 hy0 hy1
                  go_wp2_with fail
                  refine wp_region_held_drew (S := fun w1 => Below wr.heap.size wr w1 ∧ w1.cell? ⟨w.heap.size, 1, none⟩ = some (.slice (some adx) l0_1.length c0_1) ∧ w1.cell? (adx.add ((m + 1) * 2)) = some (.string x.f0) ∧ w1.cell? ⟨(adx.add ((m + 1) * 2)).block, (adx.add ((m + 1) * 2)).off + 1, none⟩ = some (.string x.f1) ∧ w1.cell? (adx.add (m * 2)) = some (.string y.f0) ∧ w1.cell? ⟨(adx.add (m * 2)).block, (adx.add (m * 2)).off + 1, none⟩ = some (.string y.f1)) (by kernel_rfl) ?_ (fun hHeld => ?_)
                  · try dsimp only
                    first | exact MK.out _ (Below.drew (Below.refl _ _)) | exact MK.out _ SB1.out | assumption
                  refine nd_take 0 hHeld ?_
                  refine nd_take 1 hHeld ?_
                  refine nd_take 2 hHeld ?_
                  refine nd_take 3 hHeld ?_
                  refine nd_take 4 hHeld ?_
                  refine nd_take 5 hHeld ?_
                  refine wpAnyH_ready (rs := [6]) (by kernel_rfl) (by simp) ?_
                  refine AllReadyH.cons rfl (fun K hK => ?_) AllReadyH.nil
                  go_simp
                  refine (KY.out _).mono ?_
                  rintro e w6 ⟨rfl, hd6⟩
                  have SB1 : Aside0 (Below wr.heap.size wr w6) := ⟨Below.trans hHeld.1 (hd6.below.mono hHeld.1.size)⟩
                  clear hd6
                  go_simp
                  refine hK.out _ _ ?_ (fun hNew => ?_)
                  · try dsimp only
                    first | exact MK.out _ (Below.drew (Below.refl _ _)) | exact MK.out _ SB1.out | assumption
                  clear hK K hHeld
                  have hHeld := hNew
                  clear hNew
                  refine nd_take 7 hHeld ?_
                  refine nd_take 8 hHeld ?_
                  refine nd_skip 9 hHeld ?_
                  refine nd_skip 10 hHeld ?_
                  refine nd_skip 11 hHeld ?_
                  refine nd_skip 12 hHeld ?_
                  refine nd_skip 13 hHeld ?_
                  refine nd_skip 14 hHeld ?_
                  refine nd_skip 15 hHeld ?_
                  refine nd_skip 16 hHeld ?_
                  refine nd_take 17 hHeld ?_
                  refine nd_take 18 hHeld ?_
                  refine nd_skip 19 hHeld ?_
                  refine nd_skip 20 hHeld ?_
                  refine nd_skip 21 hHeld ?_
                  refine nd_skip 22 hHeld ?_
                  refine nd_skip 23 hHeld ?_
                  refine nd_skip 24 hHeld ?_
                  refine nd_skip 25 hHeld ?_
                  refine nd_skip 26 hHeld ?_
                  refine nd_skip 27 hHeld ?_
                  refine nd_skip 28 hHeld ?_
                  refine nd_skip 29 hHeld ?_
                  refine nd_skip 30 hHeld ?_
                  refine nd_skip 31 hHeld ?_
                  refine nd_skip 32 hHeld ?_
                  refine nd_skip 33 hHeld ?_
                  refine nd_skip 34 hHeld ?_
                  refine nd_skip 35 hHeld ?_
                  refine nd_skip 36 hHeld ?_
                  refine nd_take 37 hHeld ?_
                  refine wpAnyH_done (by kernel_rfl) ?_ _
                  go_wp2_with fail
                  go_ret
                  exact ⟨by rw [← RF.out]; rfl, (BA.out.trans ((FIN.out _ hHeld.1).mono BA.out.size))⟩

                · by_cases hs : (48 : Int) < (x.f1.size : Int)
                  · have hs1 : decide ((48 : Int) < (x.f1.size : Int)) = true := decide_eq_true hs
                    have HBD : Aside0 (badP l0_1[m + 1] = true) := ⟨by rw [HXE.out]; unfold badP; rw [decide_eq_true hs]; simp⟩
                    clear hkb
                    have MK : Aside0 (∀ w1, Below wr.heap.size wr w1 → Below wr.heap.size wr w1 ∧ w1.cell? ⟨w.heap.size, 1, none⟩ = some (.slice (some adx) l0_1.length c0_1) ∧ w1.cell? (adx.add ((m + 1) * 2)) = some (.string x.f0) ∧ w1.cell? ⟨(adx.add ((m + 1) * 2)).block, (adx.add ((m + 1) * 2)).off + 1, none⟩ = some (.string x.f1) ∧ w1.cell? (adx.add (m * 2)) = some (.string y.f0) ∧ w1.cell? ⟨(adx.add (m * 2)).block, (adx.add (m * 2)).off + 1, none⟩ = some (.string y.f1)) := ⟨fun w1 hb => ⟨hb, nd_cell hb hbx, nd_cell hb hx0, nd_cell hb hx1, nd_cell hb hy0, nd_cell hb hy1⟩⟩
                    have FIN : Aside0 (∀ w1, Below wr.heap.size wr w1 → Below wa.heap.size wa w1) := ⟨fun w1 hb => HX2.out.trans (hb.mono HX2.out.size)⟩
                    have RF : Aside0 (false = r) := ⟨by rw [HR.out, ok_badP (List.getElem_mem h) HBD.out, Bool.and_false]⟩
                    clear hx0 hx1 hy0 hy1
                    go_wp2_with fail
                    refine wp_region_held_drew (S := fun w1 => Below wr.heap.size wr w1 ∧ w1.cell? ⟨w.heap.size, 1, none⟩ = some (.slice (some adx) l0_1.length c0_1) ∧ w1.cell? (adx.add ((m + 1) * 2)) = some (.string x.f0) ∧ w1.cell? ⟨(adx.add ((m + 1) * 2)).block, (adx.add ((m + 1) * 2)).off + 1, none⟩ = some (.string x.f1) ∧ w1.cell? (adx.add (m * 2)) = some (.string y.f0) ∧ w1.cell? ⟨(adx.add (m * 2)).block, (adx.add (m * 2)).off + 1, none⟩ = some (.string y.f1)) (by kernel_rfl) ?_ (fun hHeld => ?_)
                    · try dsimp only
                      first | exact MK.out _ (Below.drew (Below.refl _ _)) | exact MK.out _ SB1.out | assumption
                    refine nd_take 0 hHeld ?_
                    refine nd_take 1 hHeld ?_
                    refine nd_take 2 hHeld ?_
                    refine nd_take 3 hHeld ?_
                    refine nd_take 4 hHeld ?_
                    refine nd_take 5 hHeld ?_
                    refine wpAnyH_ready (rs := [6]) (by kernel_rfl) (by simp) ?_
                    refine AllReadyH.cons rfl (fun K hK => ?_) AllReadyH.nil
                    go_simp
                    refine (KY.out _).mono ?_
                    rintro e w6 ⟨rfl, hd6⟩
                    have SB1 : Aside0 (Below wr.heap.size wr w6) := ⟨Below.trans hHeld.1 (hd6.below.mono hHeld.1.size)⟩
                    clear hd6
                    go_simp
                    refine hK.out _ _ ?_ (fun hNew => ?_)
                    · try dsimp only
                      first | exact MK.out _ (Below.drew (Below.refl _ _)) | exact MK.out _ SB1.out | assumption
                    clear hK K hHeld
                    have hHeld := hNew
                    clear hNew
                    refine nd_take 7 hHeld ?_
                    refine nd_take 8 hHeld ?_
                    refine nd_take 9 hHeld ?_
                    refine nd_take 10 hHeld ?_
                    refine nd_take 11 hHeld ?_
                    refine nd_take 12 hHeld ?_
                    refine nd_take 13 hHeld ?_
                    refine nd_take 14 hHeld ?_
                    refine nd_take 15 hHeld ?_
                    refine nd_take 16 hHeld ?_
                    refine nd_take 17 hHeld ?_
                    refine nd_take 18 hHeld ?_
                    refine nd_skip 19 hHeld ?_
                    refine nd_skip 20 hHeld ?_
                    refine nd_skip 21 hHeld ?_
                    refine nd_skip 22 hHeld ?_
                    refine nd_skip 23 hHeld ?_
                    refine nd_skip 24 hHeld ?_
                    refine nd_skip 25 hHeld ?_
                    refine nd_skip 26 hHeld ?_
                    refine nd_skip 27 hHeld ?_
                    refine nd_skip 28 hHeld ?_
                    refine nd_skip 29 hHeld ?_
                    refine nd_skip 30 hHeld ?_
                    refine nd_skip 31 hHeld ?_
                    refine nd_skip 32 hHeld ?_
                    refine nd_skip 33 hHeld ?_
                    refine nd_skip 34 hHeld ?_
                    refine nd_skip 35 hHeld ?_
                    refine nd_skip 36 hHeld ?_
                    refine nd_take 37 hHeld ?_
                    refine wpAnyH_done (by kernel_rfl) ?_ _
                    go_wp2_with fail
                    go_ret
                    exact ⟨by rw [← RF.out]; rfl, (BA.out.trans ((FIN.out _ hHeld.1).mono BA.out.size))⟩

                  · have hs1 : decide ((48 : Int) < (x.f1.size : Int)) = false := decide_eq_false hs
                    have HBG : Aside0 (badP l0_1[m + 1] = false) := ⟨by rw [HXE.out]; unfold badP; rw [← hkb]; rw [decide_eq_false hs]; rfl⟩
                    clear hkb hs
                    have HT : Aside0 ((l0_1.take (m + 1 + 1)).any badP = false) := ⟨take_any _ _ (m + 1) h HTK.out HBG.out⟩
                    obtain ⟨b, hb⟩ : ∃ b, b = Op.bytesLess y.f0.toList x.f0.toList := ⟨_, rfl⟩
                    have Hb := Aside0.mk hb
                    have hb' : Op.bytesLess y.f0.toList x.f0.toList = b := hb.symm
                    clear hb
                    have HG : Aside0 ((l0_1.map (·.f0)).getD m ByteArray.empty = y.f0 ∧ (l0_1.map (·.f0)).getD (m + 1) ByteArray.empty = x.f0) := ⟨by rw [← HXE.out, ← HYE.out]; constructor <;> simp [List.getD_eq_getElem?_getD, h, show m < l0_1.length by omega]⟩
                    cases b
                    · have HFL : Aside0 (risesB (l0_1.map (·.f0)) = false) := ⟨rises_false m (by simpa using h) (by rw [HG.out.1, HG.out.2]; exact Hb.out.symm)⟩
                      have MK : Aside0 (∀ w1, Below wr.heap.size wr w1 → Below wr.heap.size wr w1 ∧ w1.cell? ⟨w.heap.size, 1, none⟩ = some (.slice (some adx) l0_1.length c0_1) ∧ w1.cell? (adx.add ((m + 1) * 2)) = some (.string x.f0) ∧ w1.cell? ⟨(adx.add ((m + 1) * 2)).block, (adx.add ((m + 1) * 2)).off + 1, none⟩ = some (.string x.f1) ∧ w1.cell? (adx.add (m * 2)) = some (.string y.f0) ∧ w1.cell? ⟨(adx.add (m * 2)).block, (adx.add (m * 2)).off + 1, none⟩ = some (.string y.f1)) := ⟨fun w1 hb => ⟨hb, nd_cell hb hbx, nd_cell hb hx0, nd_cell hb hx1, nd_cell hb hy0, nd_cell hb hy1⟩⟩
                      have FIN : Aside0 (∀ w1, Below wr.heap.size wr w1 → Below wa.heap.size wa w1) := ⟨fun w1 hb => HX2.out.trans (hb.mono HX2.out.size)⟩
                      have RF : Aside0 (false = r) := ⟨by rw [HR.out, ok_fallP HFL.out, Bool.and_false]⟩
                      clear hx0 hx1 hy0 hy1
                      go_wp2_with fail
                      refine wp_region_held_drew (S := fun w1 => Below wr.heap.size wr w1 ∧ w1.cell? ⟨w.heap.size, 1, none⟩ = some (.slice (some adx) l0_1.length c0_1) ∧ w1.cell? (adx.add ((m + 1) * 2)) = some (.string x.f0) ∧ w1.cell? ⟨(adx.add ((m + 1) * 2)).block, (adx.add ((m + 1) * 2)).off + 1, none⟩ = some (.string x.f1) ∧ w1.cell? (adx.add (m * 2)) = some (.string y.f0) ∧ w1.cell? ⟨(adx.add (m * 2)).block, (adx.add (m * 2)).off + 1, none⟩ = some (.string y.f1)) (by kernel_rfl) ?_ (fun hHeld => ?_)
                      · try dsimp only
                        first | exact MK.out _ (Below.drew (Below.refl _ _)) | exact MK.out _ SB1.out | assumption
                      refine nd_take 0 hHeld ?_
                      refine nd_take 1 hHeld ?_
                      refine nd_take 2 hHeld ?_
                      refine nd_take 3 hHeld ?_
                      refine nd_take 4 hHeld ?_
                      refine nd_take 5 hHeld ?_
                      refine wpAnyH_ready (rs := [6]) (by kernel_rfl) (by simp) ?_
                      refine AllReadyH.cons rfl (fun K hK => ?_) AllReadyH.nil
                      go_simp
                      refine (KY.out _).mono ?_
                      rintro e w6 ⟨rfl, hd6⟩
                      have SB1 : Aside0 (Below wr.heap.size wr w6) := ⟨Below.trans hHeld.1 (hd6.below.mono hHeld.1.size)⟩
                      clear hd6
                      go_simp
                      refine hK.out _ _ ?_ (fun hNew => ?_)
                      · try dsimp only
                        first | exact MK.out _ (Below.drew (Below.refl _ _)) | exact MK.out _ SB1.out | assumption
                      clear hK K hHeld
                      have hHeld := hNew
                      clear hNew
                      refine nd_take 7 hHeld ?_
                      refine nd_take 8 hHeld ?_
                      refine nd_take 9 hHeld ?_
                      refine nd_take 10 hHeld ?_
                      refine nd_take 11 hHeld ?_
                      refine nd_take 12 hHeld ?_
                      refine nd_take 13 hHeld ?_
                      refine nd_take 14 hHeld ?_
                      refine nd_take 15 hHeld ?_
                      refine nd_take 16 hHeld ?_
                      refine nd_take 17 hHeld ?_
                      refine nd_take 18 hHeld ?_
                      refine nd_take 19 hHeld ?_
                      refine nd_take 20 hHeld ?_
                      refine nd_take 21 hHeld ?_
                      refine nd_take 22 hHeld ?_
                      refine nd_take 23 hHeld ?_
                      refine nd_take 24 hHeld ?_
                      refine nd_take 25 hHeld ?_
                      refine nd_take 26 hHeld ?_
                      refine nd_take 27 hHeld ?_
                      refine nd_take 28 hHeld ?_
                      refine nd_take 29 hHeld ?_
                      refine nd_take 30 hHeld ?_
                      refine nd_take 31 hHeld ?_
                      refine nd_take 32 hHeld ?_
                      refine nd_take 33 hHeld ?_
                      refine nd_take 34 hHeld ?_
                      refine nd_take 35 hHeld ?_
                      refine nd_take 36 hHeld ?_
                      refine nd_take 37 hHeld ?_
                      refine wpAnyH_done (by kernel_rfl) ?_ _
                      go_wp2_with fail
                      go_ret
                      exact ⟨by rw [← RF.out]; rfl, (BA.out.trans ((FIN.out _ hHeld.1).mono BA.out.size))⟩

                    · have HA2 : Aside0 (∀ j, j + 1 < m + 1 + 1 → Op.bytesLess ((l0_1.map (·.f0)).getD j ByteArray.empty).toList ((l0_1.map (·.f0)).getD (j + 1) ByteArray.empty).toList = true) := ⟨fun j hj => by
                        by_cases e : j = m
                        · subst e
                          rw [HG.out.1, HG.out.2]
                          exact Hb.out.symm
                        · exact HA.out j (by omega)⟩
                      have MK : Aside0 (∀ w1, Below wr.heap.size wr w1 → Below wr.heap.size wr w1 ∧ w1.cell? ⟨w.heap.size, 1, none⟩ = some (.slice (some adx) l0_1.length c0_1) ∧ w1.cell? (adx.add ((m + 1) * 2)) = some (.string x.f0) ∧ w1.cell? ⟨(adx.add ((m + 1) * 2)).block, (adx.add ((m + 1) * 2)).off + 1, none⟩ = some (.string x.f1) ∧ w1.cell? (adx.add (m * 2)) = some (.string y.f0) ∧ w1.cell? ⟨(adx.add (m * 2)).block, (adx.add (m * 2)).off + 1, none⟩ = some (.string y.f1)) := ⟨fun w1 hb => ⟨hb, nd_cell hb hbx, nd_cell hb hx0, nd_cell hb hx1, nd_cell hb hy0, nd_cell hb hy1⟩⟩
                      have FIN : Aside0 (∀ w1, Below wr.heap.size wr w1 → Below wa.heap.size wa w1) := ⟨fun w1 hb => HX2.out.trans (hb.mono HX2.out.size)⟩
                      clear hx0 hx1 hy0 hy1
                      go_wp2_with fail
                      refine wp_region_held_drew (S := fun w1 => Below wr.heap.size wr w1 ∧ w1.cell? ⟨w.heap.size, 1, none⟩ = some (.slice (some adx) l0_1.length c0_1) ∧ w1.cell? (adx.add ((m + 1) * 2)) = some (.string x.f0) ∧ w1.cell? ⟨(adx.add ((m + 1) * 2)).block, (adx.add ((m + 1) * 2)).off + 1, none⟩ = some (.string x.f1) ∧ w1.cell? (adx.add (m * 2)) = some (.string y.f0) ∧ w1.cell? ⟨(adx.add (m * 2)).block, (adx.add (m * 2)).off + 1, none⟩ = some (.string y.f1)) (by kernel_rfl) ?_ (fun hHeld => ?_)
                      · try dsimp only
                        first | exact MK.out _ (Below.drew (Below.refl _ _)) | exact MK.out _ SB1.out | assumption
                      refine nd_take 0 hHeld ?_
                      refine nd_take 1 hHeld ?_
                      refine nd_take 2 hHeld ?_
                      refine nd_take 3 hHeld ?_
                      refine nd_take 4 hHeld ?_
                      refine nd_take 5 hHeld ?_
                      refine wpAnyH_ready (rs := [6]) (by kernel_rfl) (by simp) ?_
                      refine AllReadyH.cons rfl (fun K hK => ?_) AllReadyH.nil
                      go_simp
                      refine (KY.out _).mono ?_
                      rintro e w6 ⟨rfl, hd6⟩
                      have SB1 : Aside0 (Below wr.heap.size wr w6) := ⟨Below.trans hHeld.1 (hd6.below.mono hHeld.1.size)⟩
                      clear hd6
                      go_simp
                      refine hK.out _ _ ?_ (fun hNew => ?_)
                      · try dsimp only
                        first | exact MK.out _ (Below.drew (Below.refl _ _)) | exact MK.out _ SB1.out | assumption
                      clear hK K hHeld
                      have hHeld := hNew
                      clear hNew
                      refine nd_take 7 hHeld ?_
                      refine nd_take 8 hHeld ?_
                      refine nd_take 9 hHeld ?_
                      refine nd_take 10 hHeld ?_
                      refine nd_take 11 hHeld ?_
                      refine nd_take 12 hHeld ?_
                      refine nd_take 13 hHeld ?_
                      refine nd_take 14 hHeld ?_
                      refine nd_take 15 hHeld ?_
                      refine nd_take 16 hHeld ?_
                      refine nd_take 17 hHeld ?_
                      refine nd_take 18 hHeld ?_
                      refine nd_take 19 hHeld ?_
                      refine nd_take 20 hHeld ?_
                      refine nd_take 21 hHeld ?_
                      refine nd_take 22 hHeld ?_
                      refine nd_take 23 hHeld ?_
                      refine nd_take 24 hHeld ?_
                      refine nd_take 25 hHeld ?_
                      refine nd_take 26 hHeld ?_
                      refine nd_take 27 hHeld ?_
                      refine nd_take 28 hHeld ?_
                      refine nd_take 29 hHeld ?_
                      refine nd_take 30 hHeld ?_
                      refine nd_take 31 hHeld ?_
                      refine nd_take 32 hHeld ?_
                      refine nd_take 33 hHeld ?_
                      refine nd_take 34 hHeld ?_
                      refine nd_take 35 hHeld ?_
                      refine nd_take 36 hHeld ?_
                      refine nd_take 37 hHeld ?_
                      refine wpAnyH_done (by kernel_rfl) ?_ _
                      have FB := Aside0.mk (FIN.out _ hHeld.1)
                      clear hHeld
                      go_wp2_with fail
                      go_roundw
                      case rel => exact ⟨m + 1 + 1, by omega, by first | rfl | (simp; done) | go_num, HT, HA2, FB⟩
                      case measure => simp [intOf]; omega



            · have d1 : decide (k < l0_1.length) = false := decide_eq_false h
              have d1' : decide ((k : Int) < (l0_1.length : Int)) = false := decide_eq_false (by omega)
              have OKP : Aside0 (l0_1.any badP = false ∧ risesB (l0_1.map (·.f0)) = true) := ⟨by have := HTK.out; rwa [List.take_of_length_le (by omega)] at this, rises_true (fun j hj => HA.out j (by (try simp at hj); omega))⟩
              clear HTK HA
              go_wp2_with fail
              clear hbx
              go_loopw [4] (fun v w' => ∃ k : Nat, k ≤ l0_2.length ∧ v = .int .i64 (k : Int) ∧ Aside0 ((l0_2.take k).any badS = false) ∧ Aside0 (∀ j, j + 1 < k → Op.bytesLess (l0_2.getD j ByteArray.empty).toList (l0_2.getD (j + 1) ByteArray.empty).toList = true) ∧ Aside0 (Below wa.heap.size wa w')) (fun v _ => (l0_2.length - intOf v).toNat)
              case atStart => exact ⟨0, by omega, rfl, ⟨by simp⟩, ⟨fun j hj => by omega⟩, HX2⟩
              case round =>
                obtain ⟨k, hk, rfl, HTK, HA, HX2⟩ := hrel
                have hbx : wr.cell? ⟨w.heap.size, 2, none⟩ = some (.slice A0_2 l0_2.length c0_2) := nd_cell HX2.out BC2.out
                by_cases h : k < l0_2.length
                · have d1 : decide (k < l0_2.length) = true := decide_eq_true h
                  have d1' : decide ((k : Int) < (l0_2.length : Int)) = true := decide_eq_true (by omega)
                  have HB : Aside0 (Below w.heap.size w wr) := ⟨BA.out.trans (HX2.out.mono BA.out.size)⟩
                  by_cases hk0 : k = 0
                  · subst hk0
                    have z0 : decide ((0 : Int) < 0) = false := rfl
                    obtain ⟨x, xe'⟩ : ∃ x, x = rdOf ByteArray.empty l0_2 ((0 : Nat) : Int) := ⟨_, rfl⟩
                    have xe := xe'.symm
                    obtain ⟨adx, hax, hx0⟩ := Kd.at_string (Kd.C_below R2.out HB.out) ((0 : Nat) : Int) (by omega) (by omega)
                    rw [Int.toNat_natCast, show rdOf ByteArray.empty l0_2 ((0 : Nat) : Int) = x from xe] at hx0
                    have HXE : Aside0 (l0_2[0] = x) := ⟨by rw [xe']; simp [rdOf, List.getD_eq_getElem?_getD, h]⟩
                    clear xe xe'
                    subst hax
                    replace hx0 : wr.cell? adx = some (.string x) := by simpa [Addr.add_zero'] using hx0
                    obtain ⟨kb, hkb⟩ : ∃ b, b = keyB x := ⟨_, rfl⟩
                    have KY : Aside0 (∀ W, Calls Try.prog 29 #[.string x] W fun e w' => e = .returned (.bool kb) ∧ Drawn0 W w') := ⟨fun W => cisternref11_Key.calls x kb W (by rw [key_val, hkb])⟩
                    cases kb
                    · have HBD : Aside0 (badS l0_2[0] = true) := ⟨by rw [HXE.out]; unfold badS; rw [← hkb]; rfl⟩
                      clear hkb
                      have MK : Aside0 (∀ w1, Below wr.heap.size wr w1 → Below wr.heap.size wr w1 ∧ w1.cell? ⟨w.heap.size, 2, none⟩ = some (.slice (some adx) l0_2.length c0_2) ∧ w1.cell? adx = some (.string x)) := ⟨fun w1 hb => ⟨hb, nd_cell hb hbx, nd_cell hb hx0⟩⟩
                      have FIN : Aside0 (∀ w1, Below wr.heap.size wr w1 → Below wa.heap.size wa w1) := ⟨fun w1 hb => HX2.out.trans (hb.mono HX2.out.size)⟩
                      have RF : Aside0 (false = r) := ⟨by rw [HR.out, ok_badS (List.getElem_mem h) HBD.out, Bool.and_false]⟩
                      clear hx0
                      go_wp2_with fail
                      refine wp_region_held_drew (S := fun w1 => Below wr.heap.size wr w1 ∧ w1.cell? ⟨w.heap.size, 2, none⟩ = some (.slice (some adx) l0_2.length c0_2) ∧ w1.cell? adx = some (.string x)) (by kernel_rfl) ?_ (fun hHeld => ?_)
                      · try dsimp only
                        first | exact MK.out _ (Below.drew (Below.refl _ _)) | exact MK.out _ SB1.out | assumption
                      refine nd_take 0 hHeld ?_
                      refine nd_take 1 hHeld ?_
                      refine nd_take 2 hHeld ?_
                      refine nd_take 3 hHeld ?_
                      refine nd_take 4 hHeld ?_
                      refine wpAnyH_ready (rs := [5]) (by kernel_rfl) (by simp) ?_
                      refine AllReadyH.cons rfl (fun K hK => ?_) AllReadyH.nil
                      go_simp
                      refine (KY.out _).mono ?_
                      rintro e w6 ⟨rfl, hd6⟩
                      have SB1 : Aside0 (Below wr.heap.size wr w6) := ⟨Below.trans hHeld.1 (hd6.below.mono hHeld.1.size)⟩
                      clear hd6
                      go_simp
                      refine hK.out _ _ ?_ (fun hNew => ?_)
                      · try dsimp only
                        first | exact MK.out _ (Below.drew (Below.refl _ _)) | exact MK.out _ SB1.out | assumption
                      clear hK K hHeld
                      have hHeld := hNew
                      clear hNew
                      refine nd_take 6 hHeld ?_
                      refine nd_take 7 hHeld ?_
                      refine nd_skip 8 hHeld ?_
                      refine nd_skip 9 hHeld ?_
                      refine nd_skip 10 hHeld ?_
                      refine nd_skip 11 hHeld ?_
                      refine nd_skip 12 hHeld ?_
                      refine nd_skip 13 hHeld ?_
                      refine nd_skip 14 hHeld ?_
                      refine nd_skip 15 hHeld ?_
                      refine nd_skip 16 hHeld ?_
                      refine nd_skip 17 hHeld ?_
                      refine nd_skip 18 hHeld ?_
                      refine nd_skip 19 hHeld ?_
                      refine nd_skip 20 hHeld ?_
                      refine nd_skip 21 hHeld ?_
                      refine nd_skip 22 hHeld ?_
                      refine nd_skip 23 hHeld ?_
                      refine nd_take 24 hHeld ?_
                      refine wpAnyH_done (by kernel_rfl) ?_ _
                      go_wp2_with fail
                      go_ret
                      exact ⟨by rw [← RF.out]; rfl, (BA.out.trans ((FIN.out _ hHeld.1).mono BA.out.size))⟩

                    · have HBG : Aside0 (badS l0_2[0] = false) := ⟨by rw [HXE.out]; unfold badS; rw [← hkb]; rfl⟩
                      clear hkb
                      have HT : Aside0 ((l0_2.take (1)).any badS = false) := ⟨take_any _ _ 0 h HTK.out HBG.out⟩
                      have HA2 : Aside0 (∀ j, j + 1 < 1 → Op.bytesLess (l0_2.getD j ByteArray.empty).toList (l0_2.getD (j + 1) ByteArray.empty).toList = true) := ⟨fun j hj => by omega⟩
                      have MK : Aside0 (∀ w1, Below wr.heap.size wr w1 → Below wr.heap.size wr w1 ∧ w1.cell? ⟨w.heap.size, 2, none⟩ = some (.slice (some adx) l0_2.length c0_2) ∧ w1.cell? adx = some (.string x)) := ⟨fun w1 hb => ⟨hb, nd_cell hb hbx, nd_cell hb hx0⟩⟩
                      have FIN : Aside0 (∀ w1, Below wr.heap.size wr w1 → Below wa.heap.size wa w1) := ⟨fun w1 hb => HX2.out.trans (hb.mono HX2.out.size)⟩
                      clear hx0
                      go_wp2_with fail
                      refine wp_region_held_drew (S := fun w1 => Below wr.heap.size wr w1 ∧ w1.cell? ⟨w.heap.size, 2, none⟩ = some (.slice (some adx) l0_2.length c0_2) ∧ w1.cell? adx = some (.string x)) (by kernel_rfl) ?_ (fun hHeld => ?_)
                      · try dsimp only
                        first | exact MK.out _ (Below.drew (Below.refl _ _)) | exact MK.out _ SB1.out | assumption
                      refine nd_take 0 hHeld ?_
                      refine nd_take 1 hHeld ?_
                      refine nd_take 2 hHeld ?_
                      refine nd_take 3 hHeld ?_
                      refine nd_take 4 hHeld ?_
                      refine wpAnyH_ready (rs := [5]) (by kernel_rfl) (by simp) ?_
                      refine AllReadyH.cons rfl (fun K hK => ?_) AllReadyH.nil
                      go_simp
                      refine (KY.out _).mono ?_
                      rintro e w6 ⟨rfl, hd6⟩
                      have SB1 : Aside0 (Below wr.heap.size wr w6) := ⟨Below.trans hHeld.1 (hd6.below.mono hHeld.1.size)⟩
                      clear hd6
                      go_simp
                      refine hK.out _ _ ?_ (fun hNew => ?_)
                      · try dsimp only
                        first | exact MK.out _ (Below.drew (Below.refl _ _)) | exact MK.out _ SB1.out | assumption
                      clear hK K hHeld
                      have hHeld := hNew
                      clear hNew
                      refine nd_take 6 hHeld ?_
                      refine nd_take 7 hHeld ?_
                      refine nd_take 8 hHeld ?_
                      refine nd_take 9 hHeld ?_
                      refine nd_take 10 hHeld ?_
                      refine nd_skip 11 hHeld ?_
                      refine nd_skip 12 hHeld ?_
                      refine nd_skip 13 hHeld ?_
                      refine nd_skip 14 hHeld ?_
                      refine nd_skip 15 hHeld ?_
                      refine nd_skip 16 hHeld ?_
                      refine nd_skip 17 hHeld ?_
                      refine nd_skip 18 hHeld ?_
                      refine nd_skip 19 hHeld ?_
                      refine nd_skip 20 hHeld ?_
                      refine nd_skip 21 hHeld ?_
                      refine nd_skip 22 hHeld ?_
                      refine nd_take 23 hHeld ?_
                      refine nd_take 24 hHeld ?_
                      refine wpAnyH_done (by kernel_rfl) ?_ _
                      have FB := Aside0.mk (FIN.out _ hHeld.1)
                      clear hHeld
                      go_wp2_with fail
                      go_roundw
                      case rel => exact ⟨1, by omega, by first | rfl | (simp; done) | go_num, HT, HA2, FB⟩
                      case measure => simp [intOf]; omega


                  · obtain ⟨m, rfl⟩ : ∃ m, k = m + 1 := ⟨k - 1, by omega⟩
                    clear hk0
                    have z0 : decide ((0 : Int) < ((m + 1 : Nat) : Int)) = true := decide_eq_true (by omega)
                    have z0' : decide ((0 : Int) < (m : Int) + 1) = true := decide_eq_true (by omega)
                    have e1 : wrap64 (((m + 1 : Nat) : Int) - 1) = (m : Int) := by unfold wrap64; omega
                    have e1b : wrap64 ((m : Int) + 1 - 1) = (m : Int) := by unfold wrap64; omega
                    have e1c : wrap64 (m : Int) = (m : Int) := by unfold wrap64; omega
                    have e1d : IntKind.i64.wrap (m : Int) = (m : Int) := by rw [IntKind.wrap_i64]; omega
                    have p1 : (0 : Int) ≤ (m : Int) := by omega
                    have q1 : (m : Int) < (l0_2.length : Int) := by omega
                    have p2b : (0 : Int) ≤ (m : Int) + 1 := by omega
                    have q2b : (m : Int) + 1 < (l0_2.length : Int) := by omega
                    have e2b : ((m : Int) + 1).toNat = m + 1 := by omega
                    obtain ⟨x, xe'⟩ : ∃ x, x = rdOf ByteArray.empty l0_2 ((m + 1 : Nat) : Int) := ⟨_, rfl⟩
                    have xe := xe'.symm
                    obtain ⟨adx, hax, hx0⟩ := Kd.at_string (Kd.C_below R2.out HB.out) ((m + 1 : Nat) : Int) (by omega) (by omega)
                    rw [Int.toNat_natCast, show rdOf ByteArray.empty l0_2 ((m + 1 : Nat) : Int) = x from xe] at hx0
                    have HXE : Aside0 (l0_2[m + 1] = x) := ⟨by rw [xe']; simp [rdOf, List.getD_eq_getElem?_getD, h]⟩
                    clear xe xe'
                    obtain ⟨y, ye'⟩ : ∃ y, y = rdOf ByteArray.empty l0_2 ((m : Nat) : Int) := ⟨_, rfl⟩
                    have ye := ye'.symm
                    obtain ⟨ady0, hay0, hy0⟩ := Kd.at_string (Kd.C_below R2.out HB.out) ((m : Nat) : Int) (by omega) (by omega)
                    rw [Int.toNat_natCast, show rdOf ByteArray.empty l0_2 ((m : Nat) : Int) = y from ye] at hy0
                    rw [hax] at hay0
                    cases hay0
                    have hm' : m < l0_2.length := by omega
                    have HYE : Aside0 (l0_2[m] = y) := ⟨by rw [ye']; simp [rdOf, List.getD_eq_getElem?_getD, hm']⟩
                    clear ye ye'
                    subst hax
                    obtain ⟨kb, hkb⟩ : ∃ b, b = keyB x := ⟨_, rfl⟩
                    have KY : Aside0 (∀ W, Calls Try.prog 29 #[.string x] W fun e w' => e = .returned (.bool kb) ∧ Drawn0 W w') := ⟨fun W => cisternref11_Key.calls x kb W (by rw [key_val, hkb])⟩
                    cases kb
                    · have HBD : Aside0 (badS l0_2[m + 1] = true) := ⟨by rw [HXE.out]; unfold badS; rw [← hkb]; rfl⟩
                      clear hkb
                      have MK : Aside0 (∀ w1, Below wr.heap.size wr w1 → Below wr.heap.size wr w1 ∧ w1.cell? ⟨w.heap.size, 2, none⟩ = some (.slice (some adx) l0_2.length c0_2) ∧ w1.cell? (adx.add (m + 1)) = some (.string x) ∧ w1.cell? ⟨adx.block, adx.off + (m + 1), none⟩ = some (.string x) ∧ w1.cell? (adx.add m) = some (.string y)) := ⟨fun w1 hb => ⟨hb, nd_cell hb hbx, nd_cell hb hx0, nd_cell hb (by exact hx0), nd_cell hb hy0⟩⟩
                      have FIN : Aside0 (∀ w1, Below wr.heap.size wr w1 → Below wa.heap.size wa w1) := ⟨fun w1 hb => HX2.out.trans (hb.mono HX2.out.size)⟩
                      have RF : Aside0 (false = r) := ⟨by rw [HR.out, ok_badS (List.getElem_mem h) HBD.out, Bool.and_false]⟩
                      clear hx0 hy0
                      go_wp2_with fail
                      refine wp_region_held_drew (S := fun w1 => Below wr.heap.size wr w1 ∧ w1.cell? ⟨w.heap.size, 2, none⟩ = some (.slice (some adx) l0_2.length c0_2) ∧ w1.cell? (adx.add (m + 1)) = some (.string x) ∧ w1.cell? ⟨adx.block, adx.off + (m + 1), none⟩ = some (.string x) ∧ w1.cell? (adx.add m) = some (.string y)) (by kernel_rfl) ?_ (fun hHeld => ?_)
                      · try dsimp only
                        first | exact MK.out _ (Below.drew (Below.refl _ _)) | exact MK.out _ SB1.out | assumption
                      refine nd_take 0 hHeld ?_
                      refine nd_take 1 hHeld ?_
                      refine nd_take 2 hHeld ?_
                      refine nd_take 3 hHeld ?_
                      refine nd_take 4 hHeld ?_
                      refine wpAnyH_ready (rs := [5]) (by kernel_rfl) (by simp) ?_
                      refine AllReadyH.cons rfl (fun K hK => ?_) AllReadyH.nil
                      go_simp
                      refine (KY.out _).mono ?_
                      rintro e w6 ⟨rfl, hd6⟩
                      have SB1 : Aside0 (Below wr.heap.size wr w6) := ⟨Below.trans hHeld.1 (hd6.below.mono hHeld.1.size)⟩
                      clear hd6
                      go_simp
                      refine hK.out _ _ ?_ (fun hNew => ?_)
                      · try dsimp only
                        first | exact MK.out _ (Below.drew (Below.refl _ _)) | exact MK.out _ SB1.out | assumption
                      clear hK K hHeld
                      have hHeld := hNew
                      clear hNew
                      refine nd_take 6 hHeld ?_
                      refine nd_take 7 hHeld ?_
                      refine nd_skip 8 hHeld ?_
                      refine nd_skip 9 hHeld ?_
                      refine nd_skip 10 hHeld ?_
                      refine nd_skip 11 hHeld ?_
                      refine nd_skip 12 hHeld ?_
                      refine nd_skip 13 hHeld ?_
                      refine nd_skip 14 hHeld ?_
                      refine nd_skip 15 hHeld ?_
                      refine nd_skip 16 hHeld ?_
                      refine nd_skip 17 hHeld ?_
                      refine nd_skip 18 hHeld ?_
                      refine nd_skip 19 hHeld ?_
                      refine nd_skip 20 hHeld ?_
                      refine nd_skip 21 hHeld ?_
                      refine nd_skip 22 hHeld ?_
                      refine nd_skip 23 hHeld ?_
                      refine nd_take 24 hHeld ?_
                      refine wpAnyH_done (by kernel_rfl) ?_ _
                      go_wp2_with fail
                      go_ret
                      exact ⟨by rw [← RF.out]; rfl, (BA.out.trans ((FIN.out _ hHeld.1).mono BA.out.size))⟩

                    · have HBG : Aside0 (badS l0_2[m + 1] = false) := ⟨by rw [HXE.out]; unfold badS; rw [← hkb]; rfl⟩
                      clear hkb
                      have HT : Aside0 ((l0_2.take (m + 1 + 1)).any badS = false) := ⟨take_any _ _ (m + 1) h HTK.out HBG.out⟩
                      obtain ⟨b, hb⟩ : ∃ b, b = Op.bytesLess y.toList x.toList := ⟨_, rfl⟩
                      have Hb := Aside0.mk hb
                      have hb' : Op.bytesLess y.toList x.toList = b := hb.symm
                      clear hb
                      have HG : Aside0 (l0_2.getD m ByteArray.empty = y ∧ l0_2.getD (m + 1) ByteArray.empty = x) := ⟨by rw [← HXE.out, ← HYE.out]; constructor <;> simp [List.getD_eq_getElem?_getD, h, show m < l0_2.length by omega]⟩
                      cases b
                      · have HFL : Aside0 (risesB l0_2 = false) := ⟨rises_false m (by simpa using h) (by rw [HG.out.1, HG.out.2]; exact Hb.out.symm)⟩
                        have MK : Aside0 (∀ w1, Below wr.heap.size wr w1 → Below wr.heap.size wr w1 ∧ w1.cell? ⟨w.heap.size, 2, none⟩ = some (.slice (some adx) l0_2.length c0_2) ∧ w1.cell? (adx.add (m + 1)) = some (.string x) ∧ w1.cell? ⟨adx.block, adx.off + (m + 1), none⟩ = some (.string x) ∧ w1.cell? (adx.add m) = some (.string y)) := ⟨fun w1 hb => ⟨hb, nd_cell hb hbx, nd_cell hb hx0, nd_cell hb (by exact hx0), nd_cell hb hy0⟩⟩
                        have FIN : Aside0 (∀ w1, Below wr.heap.size wr w1 → Below wa.heap.size wa w1) := ⟨fun w1 hb => HX2.out.trans (hb.mono HX2.out.size)⟩
                        have RF : Aside0 (false = r) := ⟨by rw [HR.out, ok_fallS HFL.out, Bool.and_false]⟩
                        clear hx0 hy0
                        go_wp2_with fail
                        refine wp_region_held_drew (S := fun w1 => Below wr.heap.size wr w1 ∧ w1.cell? ⟨w.heap.size, 2, none⟩ = some (.slice (some adx) l0_2.length c0_2) ∧ w1.cell? (adx.add (m + 1)) = some (.string x) ∧ w1.cell? ⟨adx.block, adx.off + (m + 1), none⟩ = some (.string x) ∧ w1.cell? (adx.add m) = some (.string y)) (by kernel_rfl) ?_ (fun hHeld => ?_)
                        · try dsimp only
                          first | exact MK.out _ (Below.drew (Below.refl _ _)) | exact MK.out _ SB1.out | assumption
                        refine nd_take 0 hHeld ?_
                        refine nd_take 1 hHeld ?_
                        refine nd_take 2 hHeld ?_
                        refine nd_take 3 hHeld ?_
                        refine nd_take 4 hHeld ?_
                        refine wpAnyH_ready (rs := [5]) (by kernel_rfl) (by simp) ?_
                        refine AllReadyH.cons rfl (fun K hK => ?_) AllReadyH.nil
                        go_simp
                        refine (KY.out _).mono ?_
                        rintro e w6 ⟨rfl, hd6⟩
                        have SB1 : Aside0 (Below wr.heap.size wr w6) := ⟨Below.trans hHeld.1 (hd6.below.mono hHeld.1.size)⟩
                        clear hd6
                        go_simp
                        refine hK.out _ _ ?_ (fun hNew => ?_)
                        · try dsimp only
                          first | exact MK.out _ (Below.drew (Below.refl _ _)) | exact MK.out _ SB1.out | assumption
                        clear hK K hHeld
                        have hHeld := hNew
                        clear hNew
                        refine nd_take 6 hHeld ?_
                        refine nd_take 7 hHeld ?_
                        refine nd_take 8 hHeld ?_
                        refine nd_take 9 hHeld ?_
                        refine nd_take 10 hHeld ?_
                        refine nd_take 11 hHeld ?_
                        refine nd_take 12 hHeld ?_
                        refine nd_take 13 hHeld ?_
                        refine nd_take 14 hHeld ?_
                        refine nd_take 15 hHeld ?_
                        refine nd_take 16 hHeld ?_
                        refine nd_take 17 hHeld ?_
                        refine nd_take 18 hHeld ?_
                        refine nd_take 19 hHeld ?_
                        refine nd_take 20 hHeld ?_
                        refine nd_take 21 hHeld ?_
                        refine nd_take 22 hHeld ?_
                        refine nd_take 23 hHeld ?_
                        refine nd_take 24 hHeld ?_
                        refine wpAnyH_done (by kernel_rfl) ?_ _
                        go_wp2_with fail
                        go_ret
                        exact ⟨by rw [← RF.out]; rfl, (BA.out.trans ((FIN.out _ hHeld.1).mono BA.out.size))⟩

                      · have HA2 : Aside0 (∀ j, j + 1 < m + 1 + 1 → Op.bytesLess (l0_2.getD j ByteArray.empty).toList (l0_2.getD (j + 1) ByteArray.empty).toList = true) := ⟨fun j hj => by
                          by_cases e : j = m
                          · subst e
                            rw [HG.out.1, HG.out.2]
                            exact Hb.out.symm
                          · exact HA.out j (by omega)⟩
                        have MK : Aside0 (∀ w1, Below wr.heap.size wr w1 → Below wr.heap.size wr w1 ∧ w1.cell? ⟨w.heap.size, 2, none⟩ = some (.slice (some adx) l0_2.length c0_2) ∧ w1.cell? (adx.add (m + 1)) = some (.string x) ∧ w1.cell? ⟨adx.block, adx.off + (m + 1), none⟩ = some (.string x) ∧ w1.cell? (adx.add m) = some (.string y)) := ⟨fun w1 hb => ⟨hb, nd_cell hb hbx, nd_cell hb hx0, nd_cell hb (by exact hx0), nd_cell hb hy0⟩⟩
                        have FIN : Aside0 (∀ w1, Below wr.heap.size wr w1 → Below wa.heap.size wa w1) := ⟨fun w1 hb => HX2.out.trans (hb.mono HX2.out.size)⟩
                        clear hx0 hy0
                        go_wp2_with fail
                        refine wp_region_held_drew (S := fun w1 => Below wr.heap.size wr w1 ∧ w1.cell? ⟨w.heap.size, 2, none⟩ = some (.slice (some adx) l0_2.length c0_2) ∧ w1.cell? (adx.add (m + 1)) = some (.string x) ∧ w1.cell? ⟨adx.block, adx.off + (m + 1), none⟩ = some (.string x) ∧ w1.cell? (adx.add m) = some (.string y)) (by kernel_rfl) ?_ (fun hHeld => ?_)
                        · try dsimp only
                          first | exact MK.out _ (Below.drew (Below.refl _ _)) | exact MK.out _ SB1.out | assumption
                        refine nd_take 0 hHeld ?_
                        refine nd_take 1 hHeld ?_
                        refine nd_take 2 hHeld ?_
                        refine nd_take 3 hHeld ?_
                        refine nd_take 4 hHeld ?_
                        refine wpAnyH_ready (rs := [5]) (by kernel_rfl) (by simp) ?_
                        refine AllReadyH.cons rfl (fun K hK => ?_) AllReadyH.nil
                        go_simp
                        refine (KY.out _).mono ?_
                        rintro e w6 ⟨rfl, hd6⟩
                        have SB1 : Aside0 (Below wr.heap.size wr w6) := ⟨Below.trans hHeld.1 (hd6.below.mono hHeld.1.size)⟩
                        clear hd6
                        go_simp
                        refine hK.out _ _ ?_ (fun hNew => ?_)
                        · try dsimp only
                          first | exact MK.out _ (Below.drew (Below.refl _ _)) | exact MK.out _ SB1.out | assumption
                        clear hK K hHeld
                        have hHeld := hNew
                        clear hNew
                        refine nd_take 6 hHeld ?_
                        refine nd_take 7 hHeld ?_
                        refine nd_take 8 hHeld ?_
                        refine nd_take 9 hHeld ?_
                        refine nd_take 10 hHeld ?_
                        refine nd_take 11 hHeld ?_
                        refine nd_take 12 hHeld ?_
                        refine nd_take 13 hHeld ?_
                        refine nd_take 14 hHeld ?_
                        refine nd_take 15 hHeld ?_
                        refine nd_take 16 hHeld ?_
                        refine nd_take 17 hHeld ?_
                        refine nd_take 18 hHeld ?_
                        refine nd_take 19 hHeld ?_
                        refine nd_take 20 hHeld ?_
                        refine nd_take 21 hHeld ?_
                        refine nd_take 22 hHeld ?_
                        refine nd_take 23 hHeld ?_
                        refine nd_take 24 hHeld ?_
                        refine wpAnyH_done (by kernel_rfl) ?_ _
                        have FB := Aside0.mk (FIN.out _ hHeld.1)
                        clear hHeld
                        go_wp2_with fail
                        go_roundw
                        case rel => exact ⟨m + 1 + 1, by omega, by first | rfl | (simp; done) | go_num, HT, HA2, FB⟩
                        case measure => simp [intOf]; omega



                · have d1 : decide (k < l0_2.length) = false := decide_eq_false h
                  have d1' : decide ((k : Int) < (l0_2.length : Int)) = false := decide_eq_false (by omega)
                  have OKS : Aside0 (l0_2.any badS = false ∧ risesB l0_2 = true) := ⟨by have := HTK.out; rwa [List.take_of_length_le (by omega)] at this, rises_true (fun j hj => HA.out j (by (try simp at hj); omega))⟩
                  clear HTK HA
                  go_wp2_with fail
                  clear hbx
                  go_loopw [5] (fun v w' => ∃ k : Nat, k ≤ l0_3.length ∧ v = .int .i64 (k : Int) ∧ Aside0 ((l0_3.take k).any badI = false) ∧ Aside0 (Below wa.heap.size wa w')) (fun v _ => (l0_3.length - intOf v).toNat)
                  case atStart => exact ⟨0, by omega, rfl, ⟨by simp⟩, HX2⟩
                  case round =>
                    obtain ⟨k, hk, rfl, HTK, HX2⟩ := hrel
                    have hbx : wr.cell? ⟨w.heap.size, 3, none⟩ = some (.slice A0_3 l0_3.length c0_3) := nd_cell HX2.out BC3.out
                    by_cases h : k < l0_3.length
                    · have d1 : decide (k < l0_3.length) = true := decide_eq_true h
                      have d1' : decide ((k : Int) < (l0_3.length : Int)) = true := decide_eq_true (by omega)
                      have HB : Aside0 (Below w.heap.size w wr) := ⟨BA.out.trans (HX2.out.mono BA.out.size)⟩
                      have p1 : (0 : Int) ≤ (k : Int) := by omega
                      have q1 : (k : Int) < (l0_3.length : Int) := by omega
                      obtain ⟨ad, e, hx⟩ := Kd.at_int (Kd.C_below R3.out HB.out) (k : Int) p1 q1
                      cases e
                      obtain ⟨x, hxx⟩ : ∃ x, x = rd l0_3 (k : Int) := ⟨_, rfl⟩
                      rw [← hxx] at hx
                      have HXE : Aside0 (l0_3[k] = x) := ⟨by rw [hxx]; simp [rd, List.getD_eq_getElem?_getD, h]⟩
                      clear hxx
                      rw [Int.toNat_natCast] at hx
                      by_cases h1 : x < 1
                      · have f1 : decide (x < 1) = true := decide_eq_true h1
                        have RF : Aside0 (false = r) := ⟨by rw [HR.out, ok_badI (List.getElem_mem h) (by rw [HXE.out]; unfold badI; rw [f1]; rfl), Bool.and_false]⟩
                        clear h1
                        go_wp2_with fail
                        go_ret
                        exact ⟨by rw [← RF.out]; rfl, BA.out.trans (HX2.out.mono BA.out.size)⟩
                      · have f1 : decide (x < 1) = false := decide_eq_false h1
                        by_cases h2 : 65535 < x
                        · have f2 : decide (65535 < x) = true := decide_eq_true h2
                          have RF : Aside0 (false = r) := ⟨by rw [HR.out, ok_badI (List.getElem_mem h) (by rw [HXE.out]; unfold badI; rw [f2]; simp), Bool.and_false]⟩
                          clear h1 h2
                          go_wp2_with fail
                          go_ret
                          exact ⟨by rw [← RF.out]; rfl, BA.out.trans (HX2.out.mono BA.out.size)⟩
                        · have f2 : decide (65535 < x) = false := decide_eq_false h2
                          have HT : Aside0 ((l0_3.take (k + 1)).any badI = false) := ⟨take_any _ _ k h HTK.out (by rw [HXE.out]; unfold badI; rw [f1, f2]; rfl)⟩
                          clear h1 h2
                          go_wp2_with fail
                          go_roundw
                          case rel => exact ⟨k + 1, by omega, by first | rfl | (simp; done) | go_num, HT, HX2⟩
                          case measure => simp [intOf]; omega
                    · have d1 : decide (k < l0_3.length) = false := decide_eq_false h
                      have d1' : decide ((k : Int) < (l0_3.length : Int)) = false := decide_eq_false (by omega)
                      have RF : Aside0 (true = r) := ⟨by
                        have hi := HTK.out
                        rw [List.take_of_length_le (by omega)] at hi
                        rw [HR.out, GD.out]
                        unfold okV
                        rw [OKP.out.1, OKP.out.2, OKS.out.1, OKS.out.2, hi]
                        rfl⟩
                      go_wp2_with fail
                      go_ret
                      exact ⟨by rw [← RF.out]; rfl, BA.out.trans (HX2.out.mono BA.out.size)⟩

        · have ge0 : decide ((0 : Int) < (l0_3.length : Int)) = true := decide_eq_true (by omega)
          have ge1 : decide (0 < l0_3.length) = true := decide_eq_true (by omega)
          have RF : Aside0 (false = r) := ⟨by rw [HR.out, show gdV true l0_1 l0_2 l0_3 = false by unfold gdV; simp [hp, hd, hk, he], Bool.false_and]⟩
          clear hp hd hk he
          have bx := heap_alloc_new w (.cells #[.bool true, .slice A0_1 l0_1.length c0_1, .slice A0_2 l0_2.length c0_2, .slice A0_3 l0_3.length c0_3] 26)
          have xa := below_alloc (Below.refl w.heap.size w) (.cells #[.bool true, .slice A0_1 l0_1.length c0_1, .slice A0_2 l0_2.length c0_2, .slice A0_3 l0_3.length c0_3] 26)
          obtain ⟨wa, hwa⟩ : ∃ wa, wa = w.alloc (.cells #[.bool true, .slice A0_1 l0_1.length c0_1, .slice A0_2 l0_2.length c0_2, .slice A0_3 l0_3.length c0_3] 26) := ⟨_, rfl⟩
          have HWA := Aside0.mk hwa
          rw [← hwa] at bx xa
          have BA := Aside0.mk xa
          clear hwa xa
          have b0 : wa.cell? ⟨w.heap.size, 0, none⟩ = some (.bool true) := blk_cell bx 0
          have b1 : wa.cell? ⟨w.heap.size, 1, none⟩ = some (.slice A0_1 l0_1.length c0_1) := blk_cell bx 1
          have b2 : wa.cell? ⟨w.heap.size, 2, none⟩ = some (.slice A0_2 l0_2.length c0_2) := blk_cell bx 2
          have b3 : wa.cell? ⟨w.heap.size, 3, none⟩ = some (.slice A0_3 l0_3.length c0_3) := blk_cell bx 3
          have BC1 := Aside0.mk b1
          have BC2 := Aside0.mk b2
          have BC3 := Aside0.mk b3
          clear bx

          go_enter Try.func26, Try.ntmps26
          go_wp2_with fail
          go_ret
          exact ⟨by rw [← RF.out]; rfl, by rw [← HWA.out]; exact BA.out⟩

      · have gk0 : decide ((0 : Int) < (l0_2.length : Int)) = true := decide_eq_true (by omega)
        have gk1 : decide (0 < l0_2.length) = true := decide_eq_true (by omega)
        have RF : Aside0 (false = r) := ⟨by rw [HR.out, show gdV true l0_1 l0_2 l0_3 = false by unfold gdV; simp [hp, hd, hk], Bool.false_and]⟩
        clear hp hd hk
        have bx := heap_alloc_new w (.cells #[.bool true, .slice A0_1 l0_1.length c0_1, .slice A0_2 l0_2.length c0_2, .slice A0_3 l0_3.length c0_3] 26)
        have xa := below_alloc (Below.refl w.heap.size w) (.cells #[.bool true, .slice A0_1 l0_1.length c0_1, .slice A0_2 l0_2.length c0_2, .slice A0_3 l0_3.length c0_3] 26)
        obtain ⟨wa, hwa⟩ : ∃ wa, wa = w.alloc (.cells #[.bool true, .slice A0_1 l0_1.length c0_1, .slice A0_2 l0_2.length c0_2, .slice A0_3 l0_3.length c0_3] 26) := ⟨_, rfl⟩
        have HWA := Aside0.mk hwa
        rw [← hwa] at bx xa
        have BA := Aside0.mk xa
        clear hwa xa
        have b0 : wa.cell? ⟨w.heap.size, 0, none⟩ = some (.bool true) := blk_cell bx 0
        have b1 : wa.cell? ⟨w.heap.size, 1, none⟩ = some (.slice A0_1 l0_1.length c0_1) := blk_cell bx 1
        have b2 : wa.cell? ⟨w.heap.size, 2, none⟩ = some (.slice A0_2 l0_2.length c0_2) := blk_cell bx 2
        have b3 : wa.cell? ⟨w.heap.size, 3, none⟩ = some (.slice A0_3 l0_3.length c0_3) := blk_cell bx 3
        have BC1 := Aside0.mk b1
        have BC2 := Aside0.mk b2
        have BC3 := Aside0.mk b3
        clear bx

        go_enter Try.func26, Try.ntmps26
        go_wp2_with fail
        go_ret
        exact ⟨by rw [← RF.out]; rfl, by rw [← HWA.out]; exact BA.out⟩

    · have gd0 : decide ((255 : Int) < (l0_3.length : Int)) = true := decide_eq_true (by omega)
      have gd1 : decide (255 < l0_3.length) = true := decide_eq_true (by omega)
      have RF : Aside0 (false = r) := ⟨by rw [HR.out, show gdV true l0_1 l0_2 l0_3 = false by unfold gdV; simp [hp, hd], Bool.false_and]⟩
      clear hp hd
      have bx := heap_alloc_new w (.cells #[.bool true, .slice A0_1 l0_1.length c0_1, .slice A0_2 l0_2.length c0_2, .slice A0_3 l0_3.length c0_3] 26)
      have xa := below_alloc (Below.refl w.heap.size w) (.cells #[.bool true, .slice A0_1 l0_1.length c0_1, .slice A0_2 l0_2.length c0_2, .slice A0_3 l0_3.length c0_3] 26)
      obtain ⟨wa, hwa⟩ : ∃ wa, wa = w.alloc (.cells #[.bool true, .slice A0_1 l0_1.length c0_1, .slice A0_2 l0_2.length c0_2, .slice A0_3 l0_3.length c0_3] 26) := ⟨_, rfl⟩
      have HWA := Aside0.mk hwa
      rw [← hwa] at bx xa
      have BA := Aside0.mk xa
      clear hwa xa
      have b0 : wa.cell? ⟨w.heap.size, 0, none⟩ = some (.bool true) := blk_cell bx 0
      have b1 : wa.cell? ⟨w.heap.size, 1, none⟩ = some (.slice A0_1 l0_1.length c0_1) := blk_cell bx 1
      have b2 : wa.cell? ⟨w.heap.size, 2, none⟩ = some (.slice A0_2 l0_2.length c0_2) := blk_cell bx 2
      have b3 : wa.cell? ⟨w.heap.size, 3, none⟩ = some (.slice A0_3 l0_3.length c0_3) := blk_cell bx 3
      have BC1 := Aside0.mk b1
      have BC2 := Aside0.mk b2
      have BC3 := Aside0.mk b3
      clear bx

      go_enter Try.func26, Try.ntmps26
      go_wp2_with fail
      go_ret
      exact ⟨by rw [← RF.out]; rfl, by rw [← HWA.out]; exact BA.out⟩

  · have gp0 : decide ((255 : Int) < (l0_1.length : Int)) = true := decide_eq_true (by omega)
    have gp1 : decide (255 < l0_1.length) = true := decide_eq_true (by omega)
    have RF : Aside0 (false = r) := ⟨by rw [HR.out, show gdV true l0_1 l0_2 l0_3 = false by unfold gdV; simp [hp], Bool.false_and]⟩
    clear hp
    have bx := heap_alloc_new w (.cells #[.bool true, .slice A0_1 l0_1.length c0_1, .slice A0_2 l0_2.length c0_2, .slice A0_3 l0_3.length c0_3] 26)
    have xa := below_alloc (Below.refl w.heap.size w) (.cells #[.bool true, .slice A0_1 l0_1.length c0_1, .slice A0_2 l0_2.length c0_2, .slice A0_3 l0_3.length c0_3] 26)
    obtain ⟨wa, hwa⟩ : ∃ wa, wa = w.alloc (.cells #[.bool true, .slice A0_1 l0_1.length c0_1, .slice A0_2 l0_2.length c0_2, .slice A0_3 l0_3.length c0_3] 26) := ⟨_, rfl⟩
    have HWA := Aside0.mk hwa
    rw [← hwa] at bx xa
    have BA := Aside0.mk xa
    clear hwa xa
    have b0 : wa.cell? ⟨w.heap.size, 0, none⟩ = some (.bool true) := blk_cell bx 0
    have b1 : wa.cell? ⟨w.heap.size, 1, none⟩ = some (.slice A0_1 l0_1.length c0_1) := blk_cell bx 1
    have b2 : wa.cell? ⟨w.heap.size, 2, none⟩ = some (.slice A0_2 l0_2.length c0_2) := blk_cell bx 2
    have b3 : wa.cell? ⟨w.heap.size, 3, none⟩ = some (.slice A0_3 l0_3.length c0_3) := blk_cell bx 3
    have BC1 := Aside0.mk b1
    have BC2 := Aside0.mk b2
    have BC3 := Aside0.mk b3
    clear bx

    go_enter Try.func26, Try.ntmps26
    go_wp2_with fail
    go_ret
    exact ⟨by rw [← RF.out]; rfl, by rw [← HWA.out]; exact BA.out⟩
set_option maxHeartbeats 8000000 in
set_option maxRecDepth 100000 in
theorem right_false (A0_1 : Option Addr) (c0_1 : Nat) (l0_1 : List S48) (A0_2 : Option Addr) (c0_2 : Nat) (l0_2 : List ByteArray) (A0_3 : Option Addr) (c0_3 : Nat) (l0_3 : List Int) (r : Bool) (w : World) (hr0_1 : Kd.C k48 w A0_1 l0_1.length l0_1) (hc0_1 : l0_1.length ≤ c0_1) (hr0_2 : Kd.C Kd.string w A0_2 l0_2.length l0_2) (hc0_2 : l0_2.length ≤ c0_2) (hr0_3 : Kd.C (Kd.int .i64) w A0_3 l0_3.length l0_3) (hc0_3 : l0_3.length ≤ c0_3) (hr : r = (gdV false l0_1 l0_2 l0_3 && okV l0_1 l0_2 l0_3)) :
    Calls Try.prog 26 #[.agg #[.bool false, .slice A0_1 l0_1.length c0_1, .slice A0_2 l0_2.length c0_2, .slice A0_3 l0_3.length c0_3]] w fun e w' => e = .returned (.bool r) ∧ Below w.heap.size w w' := by
  have HR := Aside0.mk hr
  have L1 : l0_1.length ≤ 9223372036854775807 := hr0_1.2.1
  have L2 : l0_2.length ≤ 9223372036854775807 := hr0_2.2.1
  have L3 : l0_3.length ≤ 9223372036854775807 := hr0_3.2.1
  have R1 := Aside0.mk hr0_1
  have R2 := Aside0.mk hr0_2
  have R3 := Aside0.mk hr0_3
  clear hr0_1 hc0_1 hr0_2 hc0_2 hr0_3 hc0_3 hr
  by_cases hp : l0_1.length ≤ 255
  · have gp0 : decide ((255 : Int) < (l0_1.length : Int)) = false := decide_eq_false (by omega)
    have gp1 : decide (255 < l0_1.length) = false := decide_eq_false (by omega)
    by_cases hd : l0_3.length ≤ 255
    · have gd0 : decide ((255 : Int) < (l0_3.length : Int)) = false := decide_eq_false (by omega)
      have gd1 : decide (255 < l0_3.length) = false := decide_eq_false (by omega)
      by_cases hq : l0_1.length = 0
      · have gq0 : decide ((0 : Int) < (l0_1.length : Int)) = false := decide_eq_false (by omega)
        have gq1 : decide (0 < l0_1.length) = false := decide_eq_false (by omega)
        by_cases hz : l0_3.length ≠ 0
        · have gz0 : ((l0_3.length : Int) == 0) = false := beq_eq_false_iff_ne.2 (by omega)
          have gz1 : (l0_3.length == 0) = false := beq_eq_false_iff_ne.2 (by omega)
          by_cases hs : l0_2.length + 1 = l0_3.length
          · have gs0 : ((l0_2.length : Int) != (l0_3.length : Int) - 1) = false := by rw [bne_eq_false_iff_eq]; omega
            have GD : Aside0 (gdV false l0_1 l0_2 l0_3 = true) := ⟨by unfold gdV; simp [hp, hd, hq, hz, hs]⟩
            clear hp hd hq hz hs
            have bx := heap_alloc_new w (.cells #[.bool false, .slice A0_1 l0_1.length c0_1, .slice A0_2 l0_2.length c0_2, .slice A0_3 l0_3.length c0_3] 26)
            have xa := below_alloc (Below.refl w.heap.size w) (.cells #[.bool false, .slice A0_1 l0_1.length c0_1, .slice A0_2 l0_2.length c0_2, .slice A0_3 l0_3.length c0_3] 26)
            obtain ⟨wa, hwa⟩ : ∃ wa, wa = w.alloc (.cells #[.bool false, .slice A0_1 l0_1.length c0_1, .slice A0_2 l0_2.length c0_2, .slice A0_3 l0_3.length c0_3] 26) := ⟨_, rfl⟩
            have HWA := Aside0.mk hwa
            rw [← hwa] at bx xa
            have BA := Aside0.mk xa
            clear hwa xa
            have b0 : wa.cell? ⟨w.heap.size, 0, none⟩ = some (.bool false) := blk_cell bx 0
            have b1 : wa.cell? ⟨w.heap.size, 1, none⟩ = some (.slice A0_1 l0_1.length c0_1) := blk_cell bx 1
            have b2 : wa.cell? ⟨w.heap.size, 2, none⟩ = some (.slice A0_2 l0_2.length c0_2) := blk_cell bx 2
            have b3 : wa.cell? ⟨w.heap.size, 3, none⟩ = some (.slice A0_3 l0_3.length c0_3) := blk_cell bx 3
            have BC1 := Aside0.mk b1
            have BC2 := Aside0.mk b2
            have BC3 := Aside0.mk b3
            clear bx
            go_enter Try.func26, Try.ntmps26
            go_wp2_with fail
            rw [← HWA.out]
            clear b0 b1 b2 b3
            go_loopw [3] (fun v w' => ∃ k : Nat, k ≤ l0_1.length ∧ v = .int .i64 (k : Int) ∧ Aside0 ((l0_1.take k).any badP = false) ∧ Aside0 (∀ j, j + 1 < k → Op.bytesLess ((l0_1.map (·.f0)).getD j ByteArray.empty).toList ((l0_1.map (·.f0)).getD (j + 1) ByteArray.empty).toList = true) ∧ Aside0 (Below wa.heap.size wa w')) (fun v _ => (l0_1.length - intOf v).toNat)
            case atStart => exact ⟨0, by omega, rfl, ⟨by simp⟩, ⟨fun j hj => by omega⟩, ⟨Below.refl _ _⟩⟩
            case round =>
              obtain ⟨k, hk, rfl, HTK, HA, HX2⟩ := hrel
              have hbx : wr.cell? ⟨w.heap.size, 1, none⟩ = some (.slice A0_1 l0_1.length c0_1) := nd_cell HX2.out BC1.out
              by_cases h : k < l0_1.length
              · have d1 : decide (k < l0_1.length) = true := decide_eq_true h
                have d1' : decide ((k : Int) < (l0_1.length : Int)) = true := decide_eq_true (by omega)
                have HB : Aside0 (Below w.heap.size w wr) := ⟨BA.out.trans (HX2.out.mono BA.out.size)⟩
                by_cases hk0 : k = 0
                · subst hk0
                  have z0 : decide ((0 : Int) < 0) = false := rfl
                  obtain ⟨x, xe'⟩ : ∃ x, x = rd_T48 l0_1 ((0 : Nat) : Int) := ⟨_, rfl⟩
                  have xe := xe'.symm
                  obtain ⟨adx, hax, hx0, hx1⟩ := at_T48 (Kd.C_below R1.out HB.out) ((0 : Nat) : Int) (by omega) (by omega)
                  rw [Int.toNat_natCast, show rd_T48 l0_1 ((0 : Nat) : Int) = x from xe] at hx0 hx1
                  have HXE : Aside0 (l0_1[0] = x) := ⟨by rw [xe']; simp [rd_T48, List.getD_eq_getElem?_getD, h]⟩
                  clear xe xe'
                  subst hax
                  replace hx0 : wr.cell? adx = some (.string x.f0) := by simpa [Addr.add_zero'] using hx0
                  replace hx1 : wr.cell? ⟨adx.block, adx.off + 1, none⟩ = some (.string x.f1) := by simpa [Addr.add_zero'] using hx1
                  obtain ⟨kb, hkb⟩ : ∃ b, b = keyB x.f0 := ⟨_, rfl⟩
                  have KY : Aside0 (∀ W, Calls Try.prog 29 #[.string x.f0] W fun e w' => e = .returned (.bool kb) ∧ Drawn0 W w') := ⟨fun W => cisternref11_Key.calls x.f0 kb W (by rw [key_val, hkb])⟩
                  cases kb
                  · have HBD : Aside0 (badP l0_1[0] = true) := ⟨by rw [HXE.out]; unfold badP; rw [← hkb]; rfl⟩
                    clear hkb
                    have MK : Aside0 (∀ w1, Below wr.heap.size wr w1 → Below wr.heap.size wr w1 ∧ w1.cell? ⟨w.heap.size, 1, none⟩ = some (.slice (some adx) l0_1.length c0_1) ∧ w1.cell? adx = some (.string x.f0) ∧ w1.cell? ⟨adx.block, adx.off + 1, none⟩ = some (.string x.f1)) := ⟨fun w1 hb => ⟨hb, nd_cell hb hbx, nd_cell hb hx0, nd_cell hb hx1⟩⟩
                    have FIN : Aside0 (∀ w1, Below wr.heap.size wr w1 → Below wa.heap.size wa w1) := ⟨fun w1 hb => HX2.out.trans (hb.mono HX2.out.size)⟩
                    have RF : Aside0 (false = r) := ⟨by rw [HR.out, ok_badP (List.getElem_mem h) HBD.out, Bool.and_false]⟩
                    clear hx0 hx1
                    go_wp2_with fail
                    refine wp_region_held_drew (S := fun w1 => Below wr.heap.size wr w1 ∧ w1.cell? ⟨w.heap.size, 1, none⟩ = some (.slice (some adx) l0_1.length c0_1) ∧ w1.cell? adx = some (.string x.f0) ∧ w1.cell? ⟨adx.block, adx.off + 1, none⟩ = some (.string x.f1)) (by kernel_rfl) ?_ (fun hHeld => ?_)
                    · try dsimp only
                      first | exact MK.out _ (Below.drew (Below.refl _ _)) | exact MK.out _ SB1.out | assumption
                    refine nd_take 0 hHeld ?_
                    refine nd_take 1 hHeld ?_
                    refine nd_take 2 hHeld ?_
                    refine nd_take 3 hHeld ?_
                    refine nd_take 4 hHeld ?_
                    refine nd_take 5 hHeld ?_
                    refine wpAnyH_ready (rs := [6]) (by kernel_rfl) (by simp) ?_
                    refine AllReadyH.cons rfl (fun K hK => ?_) AllReadyH.nil
                    go_simp
                    refine (KY.out _).mono ?_
                    rintro e w6 ⟨rfl, hd6⟩
                    have SB1 : Aside0 (Below wr.heap.size wr w6) := ⟨Below.trans hHeld.1 (hd6.below.mono hHeld.1.size)⟩
                    clear hd6
                    go_simp
                    refine hK.out _ _ ?_ (fun hNew => ?_)
                    · try dsimp only
                      first | exact MK.out _ (Below.drew (Below.refl _ _)) | exact MK.out _ SB1.out | assumption
                    clear hK K hHeld
                    have hHeld := hNew
                    clear hNew
                    refine nd_take 7 hHeld ?_
                    refine nd_take 8 hHeld ?_
                    refine nd_skip 9 hHeld ?_
                    refine nd_skip 10 hHeld ?_
                    refine nd_skip 11 hHeld ?_
                    refine nd_skip 12 hHeld ?_
                    refine nd_skip 13 hHeld ?_
                    refine nd_skip 14 hHeld ?_
                    refine nd_skip 15 hHeld ?_
                    refine nd_skip 16 hHeld ?_
                    refine nd_take 17 hHeld ?_
                    refine nd_take 18 hHeld ?_
                    refine nd_skip 19 hHeld ?_
                    refine nd_skip 20 hHeld ?_
                    refine nd_skip 21 hHeld ?_
                    refine nd_skip 22 hHeld ?_
                    refine nd_skip 23 hHeld ?_
                    refine nd_skip 24 hHeld ?_
                    refine nd_skip 25 hHeld ?_
                    refine nd_skip 26 hHeld ?_
                    refine nd_skip 27 hHeld ?_
                    refine nd_skip 28 hHeld ?_
                    refine nd_skip 29 hHeld ?_
                    refine nd_skip 30 hHeld ?_
                    refine nd_skip 31 hHeld ?_
                    refine nd_skip 32 hHeld ?_
                    refine nd_skip 33 hHeld ?_
                    refine nd_skip 34 hHeld ?_
                    refine nd_skip 35 hHeld ?_
                    refine nd_skip 36 hHeld ?_
                    refine nd_take 37 hHeld ?_
                    refine wpAnyH_done (by kernel_rfl) ?_ _
                    go_wp2_with fail
                    go_ret
                    exact ⟨by rw [← RF.out]; rfl, (BA.out.trans ((FIN.out _ hHeld.1).mono BA.out.size))⟩

                  · by_cases hs : (48 : Int) < (x.f1.size : Int)
                    · have hs1 : decide ((48 : Int) < (x.f1.size : Int)) = true := decide_eq_true hs
                      have HBD : Aside0 (badP l0_1[0] = true) := ⟨by rw [HXE.out]; unfold badP; rw [decide_eq_true hs]; simp⟩
                      clear hkb
                      have MK : Aside0 (∀ w1, Below wr.heap.size wr w1 → Below wr.heap.size wr w1 ∧ w1.cell? ⟨w.heap.size, 1, none⟩ = some (.slice (some adx) l0_1.length c0_1) ∧ w1.cell? adx = some (.string x.f0) ∧ w1.cell? ⟨adx.block, adx.off + 1, none⟩ = some (.string x.f1)) := ⟨fun w1 hb => ⟨hb, nd_cell hb hbx, nd_cell hb hx0, nd_cell hb hx1⟩⟩
                      have FIN : Aside0 (∀ w1, Below wr.heap.size wr w1 → Below wa.heap.size wa w1) := ⟨fun w1 hb => HX2.out.trans (hb.mono HX2.out.size)⟩
                      have RF : Aside0 (false = r) := ⟨by rw [HR.out, ok_badP (List.getElem_mem h) HBD.out, Bool.and_false]⟩
                      clear hx0 hx1
                      go_wp2_with fail
                      refine wp_region_held_drew (S := fun w1 => Below wr.heap.size wr w1 ∧ w1.cell? ⟨w.heap.size, 1, none⟩ = some (.slice (some adx) l0_1.length c0_1) ∧ w1.cell? adx = some (.string x.f0) ∧ w1.cell? ⟨adx.block, adx.off + 1, none⟩ = some (.string x.f1)) (by kernel_rfl) ?_ (fun hHeld => ?_)
                      · try dsimp only
                        first | exact MK.out _ (Below.drew (Below.refl _ _)) | exact MK.out _ SB1.out | assumption
                      refine nd_take 0 hHeld ?_
                      refine nd_take 1 hHeld ?_
                      refine nd_take 2 hHeld ?_
                      refine nd_take 3 hHeld ?_
                      refine nd_take 4 hHeld ?_
                      refine nd_take 5 hHeld ?_
                      refine wpAnyH_ready (rs := [6]) (by kernel_rfl) (by simp) ?_
                      refine AllReadyH.cons rfl (fun K hK => ?_) AllReadyH.nil
                      go_simp
                      refine (KY.out _).mono ?_
                      rintro e w6 ⟨rfl, hd6⟩
                      have SB1 : Aside0 (Below wr.heap.size wr w6) := ⟨Below.trans hHeld.1 (hd6.below.mono hHeld.1.size)⟩
                      clear hd6
                      go_simp
                      refine hK.out _ _ ?_ (fun hNew => ?_)
                      · try dsimp only
                        first | exact MK.out _ (Below.drew (Below.refl _ _)) | exact MK.out _ SB1.out | assumption
                      clear hK K hHeld
                      have hHeld := hNew
                      clear hNew
                      refine nd_take 7 hHeld ?_
                      refine nd_take 8 hHeld ?_
                      refine nd_take 9 hHeld ?_
                      refine nd_take 10 hHeld ?_
                      refine nd_take 11 hHeld ?_
                      refine nd_take 12 hHeld ?_
                      refine nd_take 13 hHeld ?_
                      refine nd_take 14 hHeld ?_
                      refine nd_take 15 hHeld ?_
                      refine nd_take 16 hHeld ?_
                      refine nd_take 17 hHeld ?_
                      refine nd_take 18 hHeld ?_
                      refine nd_skip 19 hHeld ?_
                      refine nd_skip 20 hHeld ?_
                      refine nd_skip 21 hHeld ?_
                      refine nd_skip 22 hHeld ?_
                      refine nd_skip 23 hHeld ?_
                      refine nd_skip 24 hHeld ?_
                      refine nd_skip 25 hHeld ?_
                      refine nd_skip 26 hHeld ?_
                      refine nd_skip 27 hHeld ?_
                      refine nd_skip 28 hHeld ?_
                      refine nd_skip 29 hHeld ?_
                      refine nd_skip 30 hHeld ?_
                      refine nd_skip 31 hHeld ?_
                      refine nd_skip 32 hHeld ?_
                      refine nd_skip 33 hHeld ?_
                      refine nd_skip 34 hHeld ?_
                      refine nd_skip 35 hHeld ?_
                      refine nd_skip 36 hHeld ?_
                      refine nd_take 37 hHeld ?_
                      refine wpAnyH_done (by kernel_rfl) ?_ _
                      go_wp2_with fail
                      go_ret
                      exact ⟨by rw [← RF.out]; rfl, (BA.out.trans ((FIN.out _ hHeld.1).mono BA.out.size))⟩

                    · have hs1 : decide ((48 : Int) < (x.f1.size : Int)) = false := decide_eq_false hs
                      have HBG : Aside0 (badP l0_1[0] = false) := ⟨by rw [HXE.out]; unfold badP; rw [← hkb]; rw [decide_eq_false hs]; rfl⟩
                      clear hkb hs
                      have HT : Aside0 ((l0_1.take (1)).any badP = false) := ⟨take_any _ _ 0 h HTK.out HBG.out⟩
                      have HA2 : Aside0 (∀ j, j + 1 < 1 → Op.bytesLess ((l0_1.map (·.f0)).getD j ByteArray.empty).toList ((l0_1.map (·.f0)).getD (j + 1) ByteArray.empty).toList = true) := ⟨fun j hj => by omega⟩
                      have MK : Aside0 (∀ w1, Below wr.heap.size wr w1 → Below wr.heap.size wr w1 ∧ w1.cell? ⟨w.heap.size, 1, none⟩ = some (.slice (some adx) l0_1.length c0_1) ∧ w1.cell? adx = some (.string x.f0) ∧ w1.cell? ⟨adx.block, adx.off + 1, none⟩ = some (.string x.f1)) := ⟨fun w1 hb => ⟨hb, nd_cell hb hbx, nd_cell hb hx0, nd_cell hb hx1⟩⟩
                      have FIN : Aside0 (∀ w1, Below wr.heap.size wr w1 → Below wa.heap.size wa w1) := ⟨fun w1 hb => HX2.out.trans (hb.mono HX2.out.size)⟩
                      clear hx0 hx1
                      go_wp2_with fail
                      refine wp_region_held_drew (S := fun w1 => Below wr.heap.size wr w1 ∧ w1.cell? ⟨w.heap.size, 1, none⟩ = some (.slice (some adx) l0_1.length c0_1) ∧ w1.cell? adx = some (.string x.f0) ∧ w1.cell? ⟨adx.block, adx.off + 1, none⟩ = some (.string x.f1)) (by kernel_rfl) ?_ (fun hHeld => ?_)
                      · try dsimp only
                        first | exact MK.out _ (Below.drew (Below.refl _ _)) | exact MK.out _ SB1.out | assumption
                      refine nd_take 0 hHeld ?_
                      refine nd_take 1 hHeld ?_
                      refine nd_take 2 hHeld ?_
                      refine nd_take 3 hHeld ?_
                      refine nd_take 4 hHeld ?_
                      refine nd_take 5 hHeld ?_
                      refine wpAnyH_ready (rs := [6]) (by kernel_rfl) (by simp) ?_
                      refine AllReadyH.cons rfl (fun K hK => ?_) AllReadyH.nil
                      go_simp
                      refine (KY.out _).mono ?_
                      rintro e w6 ⟨rfl, hd6⟩
                      have SB1 : Aside0 (Below wr.heap.size wr w6) := ⟨Below.trans hHeld.1 (hd6.below.mono hHeld.1.size)⟩
                      clear hd6
                      go_simp
                      refine hK.out _ _ ?_ (fun hNew => ?_)
                      · try dsimp only
                        first | exact MK.out _ (Below.drew (Below.refl _ _)) | exact MK.out _ SB1.out | assumption
                      clear hK K hHeld
                      have hHeld := hNew
                      clear hNew
                      refine nd_take 7 hHeld ?_
                      refine nd_take 8 hHeld ?_
                      refine nd_take 9 hHeld ?_
                      refine nd_take 10 hHeld ?_
                      refine nd_take 11 hHeld ?_
                      refine nd_take 12 hHeld ?_
                      refine nd_take 13 hHeld ?_
                      refine nd_take 14 hHeld ?_
                      refine nd_take 15 hHeld ?_
                      refine nd_take 16 hHeld ?_
                      refine nd_take 17 hHeld ?_
                      refine nd_take 18 hHeld ?_
                      refine nd_take 19 hHeld ?_
                      refine nd_take 20 hHeld ?_
                      refine nd_take 21 hHeld ?_
                      refine nd_skip 22 hHeld ?_
                      refine nd_skip 23 hHeld ?_
                      refine nd_skip 24 hHeld ?_
                      refine nd_skip 25 hHeld ?_
                      refine nd_skip 26 hHeld ?_
                      refine nd_skip 27 hHeld ?_
                      refine nd_skip 28 hHeld ?_
                      refine nd_skip 29 hHeld ?_
                      refine nd_skip 30 hHeld ?_
                      refine nd_skip 31 hHeld ?_
                      refine nd_skip 32 hHeld ?_
                      refine nd_skip 33 hHeld ?_
                      refine nd_skip 34 hHeld ?_
                      refine nd_skip 35 hHeld ?_
                      refine nd_take 36 hHeld ?_
                      refine nd_take 37 hHeld ?_
                      refine wpAnyH_done (by kernel_rfl) ?_ _
                      have FB := Aside0.mk (FIN.out _ hHeld.1)
                      clear hHeld
                      go_wp2_with fail
                      go_roundw
                      case rel => exact ⟨1, by omega, by first | rfl | (simp; done) | go_num, HT, HA2, FB⟩
                      case measure => simp [intOf]; omega


                · obtain ⟨m, rfl⟩ : ∃ m, k = m + 1 := ⟨k - 1, by omega⟩
                  clear hk0
                  have z0 : decide ((0 : Int) < ((m + 1 : Nat) : Int)) = true := decide_eq_true (by omega)
                  have z0' : decide ((0 : Int) < (m : Int) + 1) = true := decide_eq_true (by omega)
                  have e1 : wrap64 (((m + 1 : Nat) : Int) - 1) = (m : Int) := by unfold wrap64; omega
                  have e1b : wrap64 ((m : Int) + 1 - 1) = (m : Int) := by unfold wrap64; omega
                  have e1c : wrap64 (m : Int) = (m : Int) := by unfold wrap64; omega
                  have e1d : IntKind.i64.wrap (m : Int) = (m : Int) := by rw [IntKind.wrap_i64]; omega
                  have p1 : (0 : Int) ≤ (m : Int) := by omega
                  have q1 : (m : Int) < (l0_1.length : Int) := by omega
                  have p2b : (0 : Int) ≤ (m : Int) + 1 := by omega
                  have q2b : (m : Int) + 1 < (l0_1.length : Int) := by omega
                  have e2b : ((m : Int) + 1).toNat = m + 1 := by omega
                  obtain ⟨x, xe'⟩ : ∃ x, x = rd_T48 l0_1 ((m + 1 : Nat) : Int) := ⟨_, rfl⟩
                  have xe := xe'.symm
                  obtain ⟨adx, hax, hx0, hx1⟩ := at_T48 (Kd.C_below R1.out HB.out) ((m + 1 : Nat) : Int) (by omega) (by omega)
                  rw [Int.toNat_natCast, show rd_T48 l0_1 ((m + 1 : Nat) : Int) = x from xe] at hx0 hx1
                  have HXE : Aside0 (l0_1[m + 1] = x) := ⟨by rw [xe']; simp [rd_T48, List.getD_eq_getElem?_getD, h]⟩
                  clear xe xe'
                  obtain ⟨y, ye'⟩ : ∃ y, y = rd_T48 l0_1 ((m : Nat) : Int) := ⟨_, rfl⟩
                  have ye := ye'.symm
                  obtain ⟨ady0, hay0, hy0, hy1⟩ := at_T48 (Kd.C_below R1.out HB.out) ((m : Nat) : Int) (by omega) (by omega)
                  rw [Int.toNat_natCast, show rd_T48 l0_1 ((m : Nat) : Int) = y from ye] at hy0 hy1
                  rw [hax] at hay0
                  cases hay0
                  have hm' : m < l0_1.length := by omega
                  have HYE : Aside0 (l0_1[m] = y) := ⟨by rw [ye']; simp [rd_T48, List.getD_eq_getElem?_getD, hm']⟩
                  clear ye ye'
                  subst hax
                  obtain ⟨kb, hkb⟩ : ∃ b, b = keyB x.f0 := ⟨_, rfl⟩
                  have KY : Aside0 (∀ W, Calls Try.prog 29 #[.string x.f0] W fun e w' => e = .returned (.bool kb) ∧ Drawn0 W w') := ⟨fun W => cisternref11_Key.calls x.f0 kb W (by rw [key_val, hkb])⟩
                  cases kb
                  · have HBD : Aside0 (badP l0_1[m + 1] = true) := ⟨by rw [HXE.out]; unfold badP; rw [← hkb]; rfl⟩
                    clear hkb
                    have MK : Aside0 (∀ w1, Below wr.heap.size wr w1 → Below wr.heap.size wr w1 ∧ w1.cell? ⟨w.heap.size, 1, none⟩ = some (.slice (some adx) l0_1.length c0_1) ∧ w1.cell? (adx.add ((m + 1) * 2)) = some (.string x.f0) ∧ w1.cell? ⟨(adx.add ((m + 1) * 2)).block, (adx.add ((m + 1) * 2)).off + 1, none⟩ = some (.string x.f1) ∧ w1.cell? (adx.add (m * 2)) = some (.string y.f0) ∧ w1.cell? ⟨(adx.add (m * 2)).block, (adx.add (m * 2)).off + 1, none⟩ = some (.string y.f1)) := ⟨fun w1 hb => ⟨hb, nd_cell hb hbx, nd_cell hb hx0, nd_cell hb hx1, nd_cell hb hy0, nd_cell hb hy1⟩⟩
                    have FIN : Aside0 (∀ w1, Below wr.heap.size wr w1 → Below wa.heap.size wa w1) := ⟨fun w1 hb => HX2.out.trans (hb.mono HX2.out.size)⟩
                    have RF : Aside0 (false = r) := ⟨by rw [HR.out, ok_badP (List.getElem_mem h) HBD.out, Bool.and_false]⟩
                    clear hx0 hx1 hy0 hy1
                    go_wp2_with fail
                    refine wp_region_held_drew (S := fun w1 => Below wr.heap.size wr w1 ∧ w1.cell? ⟨w.heap.size, 1, none⟩ = some (.slice (some adx) l0_1.length c0_1) ∧ w1.cell? (adx.add ((m + 1) * 2)) = some (.string x.f0) ∧ w1.cell? ⟨(adx.add ((m + 1) * 2)).block, (adx.add ((m + 1) * 2)).off + 1, none⟩ = some (.string x.f1) ∧ w1.cell? (adx.add (m * 2)) = some (.string y.f0) ∧ w1.cell? ⟨(adx.add (m * 2)).block, (adx.add (m * 2)).off + 1, none⟩ = some (.string y.f1)) (by kernel_rfl) ?_ (fun hHeld => ?_)
                    · try dsimp only
                      first | exact MK.out _ (Below.drew (Below.refl _ _)) | exact MK.out _ SB1.out | assumption
                    refine nd_take 0 hHeld ?_
                    refine nd_take 1 hHeld ?_
                    refine nd_take 2 hHeld ?_
                    refine nd_take 3 hHeld ?_
                    refine nd_take 4 hHeld ?_
                    refine nd_take 5 hHeld ?_
                    refine wpAnyH_ready (rs := [6]) (by kernel_rfl) (by simp) ?_
                    refine AllReadyH.cons rfl (fun K hK => ?_) AllReadyH.nil
                    go_simp
                    refine (KY.out _).mono ?_
                    rintro e w6 ⟨rfl, hd6⟩
                    have SB1 : Aside0 (Below wr.heap.size wr w6) := ⟨Below.trans hHeld.1 (hd6.below.mono hHeld.1.size)⟩
                    clear hd6
                    go_simp
                    refine hK.out _ _ ?_ (fun hNew => ?_)
                    · try dsimp only
                      first | exact MK.out _ (Below.drew (Below.refl _ _)) | exact MK.out _ SB1.out | assumption
                    clear hK K hHeld
                    have hHeld := hNew
                    clear hNew
                    refine nd_take 7 hHeld ?_
                    refine nd_take 8 hHeld ?_
                    refine nd_skip 9 hHeld ?_
                    refine nd_skip 10 hHeld ?_
                    refine nd_skip 11 hHeld ?_
                    refine nd_skip 12 hHeld ?_
                    refine nd_skip 13 hHeld ?_
                    refine nd_skip 14 hHeld ?_
                    refine nd_skip 15 hHeld ?_
                    refine nd_skip 16 hHeld ?_
                    refine nd_take 17 hHeld ?_
                    refine nd_take 18 hHeld ?_
                    refine nd_skip 19 hHeld ?_
                    refine nd_skip 20 hHeld ?_
                    refine nd_skip 21 hHeld ?_
                    refine nd_skip 22 hHeld ?_
                    refine nd_skip 23 hHeld ?_
                    refine nd_skip 24 hHeld ?_
                    refine nd_skip 25 hHeld ?_
                    refine nd_skip 26 hHeld ?_
                    refine nd_skip 27 hHeld ?_
                    refine nd_skip 28 hHeld ?_
                    refine nd_skip 29 hHeld ?_
                    refine nd_skip 30 hHeld ?_
                    refine nd_skip 31 hHeld ?_
                    refine nd_skip 32 hHeld ?_
                    refine nd_skip 33 hHeld ?_
                    refine nd_skip 34 hHeld ?_
                    refine nd_skip 35 hHeld ?_
                    refine nd_skip 36 hHeld ?_
                    refine nd_take 37 hHeld ?_
                    refine wpAnyH_done (by kernel_rfl) ?_ _
                    go_wp2_with fail
                    go_ret
                    exact ⟨by rw [← RF.out]; rfl, (BA.out.trans ((FIN.out _ hHeld.1).mono BA.out.size))⟩

                  · by_cases hs : (48 : Int) < (x.f1.size : Int)
                    · have hs1 : decide ((48 : Int) < (x.f1.size : Int)) = true := decide_eq_true hs
                      have HBD : Aside0 (badP l0_1[m + 1] = true) := ⟨by rw [HXE.out]; unfold badP; rw [decide_eq_true hs]; simp⟩
                      clear hkb
                      have MK : Aside0 (∀ w1, Below wr.heap.size wr w1 → Below wr.heap.size wr w1 ∧ w1.cell? ⟨w.heap.size, 1, none⟩ = some (.slice (some adx) l0_1.length c0_1) ∧ w1.cell? (adx.add ((m + 1) * 2)) = some (.string x.f0) ∧ w1.cell? ⟨(adx.add ((m + 1) * 2)).block, (adx.add ((m + 1) * 2)).off + 1, none⟩ = some (.string x.f1) ∧ w1.cell? (adx.add (m * 2)) = some (.string y.f0) ∧ w1.cell? ⟨(adx.add (m * 2)).block, (adx.add (m * 2)).off + 1, none⟩ = some (.string y.f1)) := ⟨fun w1 hb => ⟨hb, nd_cell hb hbx, nd_cell hb hx0, nd_cell hb hx1, nd_cell hb hy0, nd_cell hb hy1⟩⟩
                      have FIN : Aside0 (∀ w1, Below wr.heap.size wr w1 → Below wa.heap.size wa w1) := ⟨fun w1 hb => HX2.out.trans (hb.mono HX2.out.size)⟩
                      have RF : Aside0 (false = r) := ⟨by rw [HR.out, ok_badP (List.getElem_mem h) HBD.out, Bool.and_false]⟩
                      clear hx0 hx1 hy0 hy1
                      go_wp2_with fail
                      refine wp_region_held_drew (S := fun w1 => Below wr.heap.size wr w1 ∧ w1.cell? ⟨w.heap.size, 1, none⟩ = some (.slice (some adx) l0_1.length c0_1) ∧ w1.cell? (adx.add ((m + 1) * 2)) = some (.string x.f0) ∧ w1.cell? ⟨(adx.add ((m + 1) * 2)).block, (adx.add ((m + 1) * 2)).off + 1, none⟩ = some (.string x.f1) ∧ w1.cell? (adx.add (m * 2)) = some (.string y.f0) ∧ w1.cell? ⟨(adx.add (m * 2)).block, (adx.add (m * 2)).off + 1, none⟩ = some (.string y.f1)) (by kernel_rfl) ?_ (fun hHeld => ?_)
                      · try dsimp only
                        first | exact MK.out _ (Below.drew (Below.refl _ _)) | exact MK.out _ SB1.out | assumption
                      refine nd_take 0 hHeld ?_
                      refine nd_take 1 hHeld ?_
                      refine nd_take 2 hHeld ?_
                      refine nd_take 3 hHeld ?_
                      refine nd_take 4 hHeld ?_
                      refine nd_take 5 hHeld ?_
                      refine wpAnyH_ready (rs := [6]) (by kernel_rfl) (by simp) ?_
                      refine AllReadyH.cons rfl (fun K hK => ?_) AllReadyH.nil
                      go_simp
                      refine (KY.out _).mono ?_
                      rintro e w6 ⟨rfl, hd6⟩
                      have SB1 : Aside0 (Below wr.heap.size wr w6) := ⟨Below.trans hHeld.1 (hd6.below.mono hHeld.1.size)⟩
                      clear hd6
                      go_simp
                      refine hK.out _ _ ?_ (fun hNew => ?_)
                      · try dsimp only
                        first | exact MK.out _ (Below.drew (Below.refl _ _)) | exact MK.out _ SB1.out | assumption
                      clear hK K hHeld
                      have hHeld := hNew
                      clear hNew
                      refine nd_take 7 hHeld ?_
                      refine nd_take 8 hHeld ?_
                      refine nd_take 9 hHeld ?_
                      refine nd_take 10 hHeld ?_
                      refine nd_take 11 hHeld ?_
                      refine nd_take 12 hHeld ?_
                      refine nd_take 13 hHeld ?_
                      refine nd_take 14 hHeld ?_
                      refine nd_take 15 hHeld ?_
                      refine nd_take 16 hHeld ?_
                      refine nd_take 17 hHeld ?_
                      refine nd_take 18 hHeld ?_
                      refine nd_skip 19 hHeld ?_
                      refine nd_skip 20 hHeld ?_
                      refine nd_skip 21 hHeld ?_
                      refine nd_skip 22 hHeld ?_
                      refine nd_skip 23 hHeld ?_
                      refine nd_skip 24 hHeld ?_
                      refine nd_skip 25 hHeld ?_
                      refine nd_skip 26 hHeld ?_
                      refine nd_skip 27 hHeld ?_
                      refine nd_skip 28 hHeld ?_
                      refine nd_skip 29 hHeld ?_
                      refine nd_skip 30 hHeld ?_
                      refine nd_skip 31 hHeld ?_
                      refine nd_skip 32 hHeld ?_
                      refine nd_skip 33 hHeld ?_
                      refine nd_skip 34 hHeld ?_
                      refine nd_skip 35 hHeld ?_
                      refine nd_skip 36 hHeld ?_
                      refine nd_take 37 hHeld ?_
                      refine wpAnyH_done (by kernel_rfl) ?_ _
                      go_wp2_with fail
                      go_ret
                      exact ⟨by rw [← RF.out]; rfl, (BA.out.trans ((FIN.out _ hHeld.1).mono BA.out.size))⟩

                    · have hs1 : decide ((48 : Int) < (x.f1.size : Int)) = false := decide_eq_false hs
                      have HBG : Aside0 (badP l0_1[m + 1] = false) := ⟨by rw [HXE.out]; unfold badP; rw [← hkb]; rw [decide_eq_false hs]; rfl⟩
                      clear hkb hs
                      have HT : Aside0 ((l0_1.take (m + 1 + 1)).any badP = false) := ⟨take_any _ _ (m + 1) h HTK.out HBG.out⟩
                      obtain ⟨b, hb⟩ : ∃ b, b = Op.bytesLess y.f0.toList x.f0.toList := ⟨_, rfl⟩
                      have Hb := Aside0.mk hb
                      have hb' : Op.bytesLess y.f0.toList x.f0.toList = b := hb.symm
                      clear hb
                      have HG : Aside0 ((l0_1.map (·.f0)).getD m ByteArray.empty = y.f0 ∧ (l0_1.map (·.f0)).getD (m + 1) ByteArray.empty = x.f0) := ⟨by rw [← HXE.out, ← HYE.out]; constructor <;> simp [List.getD_eq_getElem?_getD, h, show m < l0_1.length by omega]⟩
                      cases b
                      · have HFL : Aside0 (risesB (l0_1.map (·.f0)) = false) := ⟨rises_false m (by simpa using h) (by rw [HG.out.1, HG.out.2]; exact Hb.out.symm)⟩
                        have MK : Aside0 (∀ w1, Below wr.heap.size wr w1 → Below wr.heap.size wr w1 ∧ w1.cell? ⟨w.heap.size, 1, none⟩ = some (.slice (some adx) l0_1.length c0_1) ∧ w1.cell? (adx.add ((m + 1) * 2)) = some (.string x.f0) ∧ w1.cell? ⟨(adx.add ((m + 1) * 2)).block, (adx.add ((m + 1) * 2)).off + 1, none⟩ = some (.string x.f1) ∧ w1.cell? (adx.add (m * 2)) = some (.string y.f0) ∧ w1.cell? ⟨(adx.add (m * 2)).block, (adx.add (m * 2)).off + 1, none⟩ = some (.string y.f1)) := ⟨fun w1 hb => ⟨hb, nd_cell hb hbx, nd_cell hb hx0, nd_cell hb hx1, nd_cell hb hy0, nd_cell hb hy1⟩⟩
                        have FIN : Aside0 (∀ w1, Below wr.heap.size wr w1 → Below wa.heap.size wa w1) := ⟨fun w1 hb => HX2.out.trans (hb.mono HX2.out.size)⟩
                        have RF : Aside0 (false = r) := ⟨by rw [HR.out, ok_fallP HFL.out, Bool.and_false]⟩
                        clear hx0 hx1 hy0 hy1
                        go_wp2_with fail
                        refine wp_region_held_drew (S := fun w1 => Below wr.heap.size wr w1 ∧ w1.cell? ⟨w.heap.size, 1, none⟩ = some (.slice (some adx) l0_1.length c0_1) ∧ w1.cell? (adx.add ((m + 1) * 2)) = some (.string x.f0) ∧ w1.cell? ⟨(adx.add ((m + 1) * 2)).block, (adx.add ((m + 1) * 2)).off + 1, none⟩ = some (.string x.f1) ∧ w1.cell? (adx.add (m * 2)) = some (.string y.f0) ∧ w1.cell? ⟨(adx.add (m * 2)).block, (adx.add (m * 2)).off + 1, none⟩ = some (.string y.f1)) (by kernel_rfl) ?_ (fun hHeld => ?_)
                        · try dsimp only
                          first | exact MK.out _ (Below.drew (Below.refl _ _)) | exact MK.out _ SB1.out | assumption
                        refine nd_take 0 hHeld ?_
                        refine nd_take 1 hHeld ?_
                        refine nd_take 2 hHeld ?_
                        refine nd_take 3 hHeld ?_
                        refine nd_take 4 hHeld ?_
                        refine nd_take 5 hHeld ?_
                        refine wpAnyH_ready (rs := [6]) (by kernel_rfl) (by simp) ?_
                        refine AllReadyH.cons rfl (fun K hK => ?_) AllReadyH.nil
                        go_simp
                        refine (KY.out _).mono ?_
                        rintro e w6 ⟨rfl, hd6⟩
                        have SB1 : Aside0 (Below wr.heap.size wr w6) := ⟨Below.trans hHeld.1 (hd6.below.mono hHeld.1.size)⟩
                        clear hd6
                        go_simp
                        refine hK.out _ _ ?_ (fun hNew => ?_)
                        · try dsimp only
                          first | exact MK.out _ (Below.drew (Below.refl _ _)) | exact MK.out _ SB1.out | assumption
                        clear hK K hHeld
                        have hHeld := hNew
                        clear hNew
                        refine nd_take 7 hHeld ?_
                        refine nd_take 8 hHeld ?_
                        refine nd_take 9 hHeld ?_
                        refine nd_take 10 hHeld ?_
                        refine nd_take 11 hHeld ?_
                        refine nd_take 12 hHeld ?_
                        refine nd_take 13 hHeld ?_
                        refine nd_take 14 hHeld ?_
                        refine nd_take 15 hHeld ?_
                        refine nd_take 16 hHeld ?_
                        refine nd_take 17 hHeld ?_
                        refine nd_take 18 hHeld ?_
                        refine nd_take 19 hHeld ?_
                        refine nd_take 20 hHeld ?_
                        refine nd_take 21 hHeld ?_
                        refine nd_take 22 hHeld ?_
                        refine nd_take 23 hHeld ?_
                        refine nd_take 24 hHeld ?_
                        refine nd_take 25 hHeld ?_
                        refine nd_take 26 hHeld ?_
                        refine nd_take 27 hHeld ?_
                        refine nd_take 28 hHeld ?_
                        refine nd_take 29 hHeld ?_
                        refine nd_take 30 hHeld ?_
                        refine nd_take 31 hHeld ?_
                        refine nd_take 32 hHeld ?_
                        refine nd_take 33 hHeld ?_
                        refine nd_take 34 hHeld ?_
                        refine nd_take 35 hHeld ?_
                        refine nd_take 36 hHeld ?_
                        refine nd_take 37 hHeld ?_
                        refine wpAnyH_done (by kernel_rfl) ?_ _
                        go_wp2_with fail
                        go_ret
                        exact ⟨by rw [← RF.out]; rfl, (BA.out.trans ((FIN.out _ hHeld.1).mono BA.out.size))⟩

                      · have HA2 : Aside0 (∀ j, j + 1 < m + 1 + 1 → Op.bytesLess ((l0_1.map (·.f0)).getD j ByteArray.empty).toList ((l0_1.map (·.f0)).getD (j + 1) ByteArray.empty).toList = true) := ⟨fun j hj => by
                          by_cases e : j = m
                          · subst e
                            rw [HG.out.1, HG.out.2]
                            exact Hb.out.symm
                          · exact HA.out j (by omega)⟩
                        have MK : Aside0 (∀ w1, Below wr.heap.size wr w1 → Below wr.heap.size wr w1 ∧ w1.cell? ⟨w.heap.size, 1, none⟩ = some (.slice (some adx) l0_1.length c0_1) ∧ w1.cell? (adx.add ((m + 1) * 2)) = some (.string x.f0) ∧ w1.cell? ⟨(adx.add ((m + 1) * 2)).block, (adx.add ((m + 1) * 2)).off + 1, none⟩ = some (.string x.f1) ∧ w1.cell? (adx.add (m * 2)) = some (.string y.f0) ∧ w1.cell? ⟨(adx.add (m * 2)).block, (adx.add (m * 2)).off + 1, none⟩ = some (.string y.f1)) := ⟨fun w1 hb => ⟨hb, nd_cell hb hbx, nd_cell hb hx0, nd_cell hb hx1, nd_cell hb hy0, nd_cell hb hy1⟩⟩
                        have FIN : Aside0 (∀ w1, Below wr.heap.size wr w1 → Below wa.heap.size wa w1) := ⟨fun w1 hb => HX2.out.trans (hb.mono HX2.out.size)⟩
                        clear hx0 hx1 hy0 hy1
                        go_wp2_with fail
                        refine wp_region_held_drew (S := fun w1 => Below wr.heap.size wr w1 ∧ w1.cell? ⟨w.heap.size, 1, none⟩ = some (.slice (some adx) l0_1.length c0_1) ∧ w1.cell? (adx.add ((m + 1) * 2)) = some (.string x.f0) ∧ w1.cell? ⟨(adx.add ((m + 1) * 2)).block, (adx.add ((m + 1) * 2)).off + 1, none⟩ = some (.string x.f1) ∧ w1.cell? (adx.add (m * 2)) = some (.string y.f0) ∧ w1.cell? ⟨(adx.add (m * 2)).block, (adx.add (m * 2)).off + 1, none⟩ = some (.string y.f1)) (by kernel_rfl) ?_ (fun hHeld => ?_)
                        · try dsimp only
                          first | exact MK.out _ (Below.drew (Below.refl _ _)) | exact MK.out _ SB1.out | assumption
                        refine nd_take 0 hHeld ?_
                        refine nd_take 1 hHeld ?_
                        refine nd_take 2 hHeld ?_
                        refine nd_take 3 hHeld ?_
                        refine nd_take 4 hHeld ?_
                        refine nd_take 5 hHeld ?_
                        refine wpAnyH_ready (rs := [6]) (by kernel_rfl) (by simp) ?_
                        refine AllReadyH.cons rfl (fun K hK => ?_) AllReadyH.nil
                        go_simp
                        refine (KY.out _).mono ?_
                        rintro e w6 ⟨rfl, hd6⟩
                        have SB1 : Aside0 (Below wr.heap.size wr w6) := ⟨Below.trans hHeld.1 (hd6.below.mono hHeld.1.size)⟩
                        clear hd6
                        go_simp
                        refine hK.out _ _ ?_ (fun hNew => ?_)
                        · try dsimp only
                          first | exact MK.out _ (Below.drew (Below.refl _ _)) | exact MK.out _ SB1.out | assumption
                        clear hK K hHeld
                        have hHeld := hNew
                        clear hNew
                        refine nd_take 7 hHeld ?_
                        refine nd_take 8 hHeld ?_
                        refine nd_take 9 hHeld ?_
                        refine nd_take 10 hHeld ?_
                        refine nd_take 11 hHeld ?_
                        refine nd_take 12 hHeld ?_
                        refine nd_take 13 hHeld ?_
                        refine nd_take 14 hHeld ?_
                        refine nd_take 15 hHeld ?_
                        refine nd_take 16 hHeld ?_
                        refine nd_take 17 hHeld ?_
                        refine nd_take 18 hHeld ?_
                        refine nd_take 19 hHeld ?_
                        refine nd_take 20 hHeld ?_
                        refine nd_take 21 hHeld ?_
                        refine nd_take 22 hHeld ?_
                        refine nd_take 23 hHeld ?_
                        refine nd_take 24 hHeld ?_
                        refine nd_take 25 hHeld ?_
                        refine nd_take 26 hHeld ?_
                        refine nd_take 27 hHeld ?_
                        refine nd_take 28 hHeld ?_
                        refine nd_take 29 hHeld ?_
                        refine nd_take 30 hHeld ?_
                        refine nd_take 31 hHeld ?_
                        refine nd_take 32 hHeld ?_
                        refine nd_take 33 hHeld ?_
                        refine nd_take 34 hHeld ?_
                        refine nd_take 35 hHeld ?_
                        refine nd_take 36 hHeld ?_
                        refine nd_take 37 hHeld ?_
                        refine wpAnyH_done (by kernel_rfl) ?_ _
                        have FB := Aside0.mk (FIN.out _ hHeld.1)
                        clear hHeld
                        go_wp2_with fail
                        go_roundw
                        case rel => exact ⟨m + 1 + 1, by omega, by first | rfl | (simp; done) | go_num, HT, HA2, FB⟩
                        case measure => simp [intOf]; omega



              · have d1 : decide (k < l0_1.length) = false := decide_eq_false h
                have d1' : decide ((k : Int) < (l0_1.length : Int)) = false := decide_eq_false (by omega)
                have OKP : Aside0 (l0_1.any badP = false ∧ risesB (l0_1.map (·.f0)) = true) := ⟨by have := HTK.out; rwa [List.take_of_length_le (by omega)] at this, rises_true (fun j hj => HA.out j (by (try simp at hj); omega))⟩
                clear HTK HA
                go_wp2_with fail
                clear hbx
                go_loopw [4] (fun v w' => ∃ k : Nat, k ≤ l0_2.length ∧ v = .int .i64 (k : Int) ∧ Aside0 ((l0_2.take k).any badS = false) ∧ Aside0 (∀ j, j + 1 < k → Op.bytesLess (l0_2.getD j ByteArray.empty).toList (l0_2.getD (j + 1) ByteArray.empty).toList = true) ∧ Aside0 (Below wa.heap.size wa w')) (fun v _ => (l0_2.length - intOf v).toNat)
                case atStart => exact ⟨0, by omega, rfl, ⟨by simp⟩, ⟨fun j hj => by omega⟩, HX2⟩
                case round =>
                  obtain ⟨k, hk, rfl, HTK, HA, HX2⟩ := hrel
                  have hbx : wr.cell? ⟨w.heap.size, 2, none⟩ = some (.slice A0_2 l0_2.length c0_2) := nd_cell HX2.out BC2.out
                  by_cases h : k < l0_2.length
                  · have d1 : decide (k < l0_2.length) = true := decide_eq_true h
                    have d1' : decide ((k : Int) < (l0_2.length : Int)) = true := decide_eq_true (by omega)
                    have HB : Aside0 (Below w.heap.size w wr) := ⟨BA.out.trans (HX2.out.mono BA.out.size)⟩
                    by_cases hk0 : k = 0
                    · subst hk0
                      have z0 : decide ((0 : Int) < 0) = false := rfl
                      obtain ⟨x, xe'⟩ : ∃ x, x = rdOf ByteArray.empty l0_2 ((0 : Nat) : Int) := ⟨_, rfl⟩
                      have xe := xe'.symm
                      obtain ⟨adx, hax, hx0⟩ := Kd.at_string (Kd.C_below R2.out HB.out) ((0 : Nat) : Int) (by omega) (by omega)
                      rw [Int.toNat_natCast, show rdOf ByteArray.empty l0_2 ((0 : Nat) : Int) = x from xe] at hx0
                      have HXE : Aside0 (l0_2[0] = x) := ⟨by rw [xe']; simp [rdOf, List.getD_eq_getElem?_getD, h]⟩
                      clear xe xe'
                      subst hax
                      replace hx0 : wr.cell? adx = some (.string x) := by simpa [Addr.add_zero'] using hx0
                      obtain ⟨kb, hkb⟩ : ∃ b, b = keyB x := ⟨_, rfl⟩
                      have KY : Aside0 (∀ W, Calls Try.prog 29 #[.string x] W fun e w' => e = .returned (.bool kb) ∧ Drawn0 W w') := ⟨fun W => cisternref11_Key.calls x kb W (by rw [key_val, hkb])⟩
                      cases kb
                      · have HBD : Aside0 (badS l0_2[0] = true) := ⟨by rw [HXE.out]; unfold badS; rw [← hkb]; rfl⟩
                        clear hkb
                        have MK : Aside0 (∀ w1, Below wr.heap.size wr w1 → Below wr.heap.size wr w1 ∧ w1.cell? ⟨w.heap.size, 2, none⟩ = some (.slice (some adx) l0_2.length c0_2) ∧ w1.cell? adx = some (.string x)) := ⟨fun w1 hb => ⟨hb, nd_cell hb hbx, nd_cell hb hx0⟩⟩
                        have FIN : Aside0 (∀ w1, Below wr.heap.size wr w1 → Below wa.heap.size wa w1) := ⟨fun w1 hb => HX2.out.trans (hb.mono HX2.out.size)⟩
                        have RF : Aside0 (false = r) := ⟨by rw [HR.out, ok_badS (List.getElem_mem h) HBD.out, Bool.and_false]⟩
                        clear hx0
                        go_wp2_with fail
                        refine wp_region_held_drew (S := fun w1 => Below wr.heap.size wr w1 ∧ w1.cell? ⟨w.heap.size, 2, none⟩ = some (.slice (some adx) l0_2.length c0_2) ∧ w1.cell? adx = some (.string x)) (by kernel_rfl) ?_ (fun hHeld => ?_)
                        · try dsimp only
                          first | exact MK.out _ (Below.drew (Below.refl _ _)) | exact MK.out _ SB1.out | assumption
                        refine nd_take 0 hHeld ?_
                        refine nd_take 1 hHeld ?_
                        refine nd_take 2 hHeld ?_
                        refine nd_take 3 hHeld ?_
                        refine nd_take 4 hHeld ?_
                        refine wpAnyH_ready (rs := [5]) (by kernel_rfl) (by simp) ?_
                        refine AllReadyH.cons rfl (fun K hK => ?_) AllReadyH.nil
                        go_simp
                        refine (KY.out _).mono ?_
                        rintro e w6 ⟨rfl, hd6⟩
                        have SB1 : Aside0 (Below wr.heap.size wr w6) := ⟨Below.trans hHeld.1 (hd6.below.mono hHeld.1.size)⟩
                        clear hd6
                        go_simp
                        refine hK.out _ _ ?_ (fun hNew => ?_)
                        · try dsimp only
                          first | exact MK.out _ (Below.drew (Below.refl _ _)) | exact MK.out _ SB1.out | assumption
                        clear hK K hHeld
                        have hHeld := hNew
                        clear hNew
                        refine nd_take 6 hHeld ?_
                        refine nd_take 7 hHeld ?_
                        refine nd_skip 8 hHeld ?_
                        refine nd_skip 9 hHeld ?_
                        refine nd_skip 10 hHeld ?_
                        refine nd_skip 11 hHeld ?_
                        refine nd_skip 12 hHeld ?_
                        refine nd_skip 13 hHeld ?_
                        refine nd_skip 14 hHeld ?_
                        refine nd_skip 15 hHeld ?_
                        refine nd_skip 16 hHeld ?_
                        refine nd_skip 17 hHeld ?_
                        refine nd_skip 18 hHeld ?_
                        refine nd_skip 19 hHeld ?_
                        refine nd_skip 20 hHeld ?_
                        refine nd_skip 21 hHeld ?_
                        refine nd_skip 22 hHeld ?_
                        refine nd_skip 23 hHeld ?_
                        refine nd_take 24 hHeld ?_
                        refine wpAnyH_done (by kernel_rfl) ?_ _
                        go_wp2_with fail
                        go_ret
                        exact ⟨by rw [← RF.out]; rfl, (BA.out.trans ((FIN.out _ hHeld.1).mono BA.out.size))⟩

                      · have HBG : Aside0 (badS l0_2[0] = false) := ⟨by rw [HXE.out]; unfold badS; rw [← hkb]; rfl⟩
                        clear hkb
                        have HT : Aside0 ((l0_2.take (1)).any badS = false) := ⟨take_any _ _ 0 h HTK.out HBG.out⟩
                        have HA2 : Aside0 (∀ j, j + 1 < 1 → Op.bytesLess (l0_2.getD j ByteArray.empty).toList (l0_2.getD (j + 1) ByteArray.empty).toList = true) := ⟨fun j hj => by omega⟩
                        have MK : Aside0 (∀ w1, Below wr.heap.size wr w1 → Below wr.heap.size wr w1 ∧ w1.cell? ⟨w.heap.size, 2, none⟩ = some (.slice (some adx) l0_2.length c0_2) ∧ w1.cell? adx = some (.string x)) := ⟨fun w1 hb => ⟨hb, nd_cell hb hbx, nd_cell hb hx0⟩⟩
                        have FIN : Aside0 (∀ w1, Below wr.heap.size wr w1 → Below wa.heap.size wa w1) := ⟨fun w1 hb => HX2.out.trans (hb.mono HX2.out.size)⟩
                        clear hx0
                        go_wp2_with fail
                        refine wp_region_held_drew (S := fun w1 => Below wr.heap.size wr w1 ∧ w1.cell? ⟨w.heap.size, 2, none⟩ = some (.slice (some adx) l0_2.length c0_2) ∧ w1.cell? adx = some (.string x)) (by kernel_rfl) ?_ (fun hHeld => ?_)
                        · try dsimp only
                          first | exact MK.out _ (Below.drew (Below.refl _ _)) | exact MK.out _ SB1.out | assumption
                        refine nd_take 0 hHeld ?_
                        refine nd_take 1 hHeld ?_
                        refine nd_take 2 hHeld ?_
                        refine nd_take 3 hHeld ?_
                        refine nd_take 4 hHeld ?_
                        refine wpAnyH_ready (rs := [5]) (by kernel_rfl) (by simp) ?_
                        refine AllReadyH.cons rfl (fun K hK => ?_) AllReadyH.nil
                        go_simp
                        refine (KY.out _).mono ?_
                        rintro e w6 ⟨rfl, hd6⟩
                        have SB1 : Aside0 (Below wr.heap.size wr w6) := ⟨Below.trans hHeld.1 (hd6.below.mono hHeld.1.size)⟩
                        clear hd6
                        go_simp
                        refine hK.out _ _ ?_ (fun hNew => ?_)
                        · try dsimp only
                          first | exact MK.out _ (Below.drew (Below.refl _ _)) | exact MK.out _ SB1.out | assumption
                        clear hK K hHeld
                        have hHeld := hNew
                        clear hNew
                        refine nd_take 6 hHeld ?_
                        refine nd_take 7 hHeld ?_
                        refine nd_take 8 hHeld ?_
                        refine nd_take 9 hHeld ?_
                        refine nd_take 10 hHeld ?_
                        refine nd_skip 11 hHeld ?_
                        refine nd_skip 12 hHeld ?_
                        refine nd_skip 13 hHeld ?_
                        refine nd_skip 14 hHeld ?_
                        refine nd_skip 15 hHeld ?_
                        refine nd_skip 16 hHeld ?_
                        refine nd_skip 17 hHeld ?_
                        refine nd_skip 18 hHeld ?_
                        refine nd_skip 19 hHeld ?_
                        refine nd_skip 20 hHeld ?_
                        refine nd_skip 21 hHeld ?_
                        refine nd_skip 22 hHeld ?_
                        refine nd_take 23 hHeld ?_
                        refine nd_take 24 hHeld ?_
                        refine wpAnyH_done (by kernel_rfl) ?_ _
                        have FB := Aside0.mk (FIN.out _ hHeld.1)
                        clear hHeld
                        go_wp2_with fail
                        go_roundw
                        case rel => exact ⟨1, by omega, by first | rfl | (simp; done) | go_num, HT, HA2, FB⟩
                        case measure => simp [intOf]; omega


                    · obtain ⟨m, rfl⟩ : ∃ m, k = m + 1 := ⟨k - 1, by omega⟩
                      clear hk0
                      have z0 : decide ((0 : Int) < ((m + 1 : Nat) : Int)) = true := decide_eq_true (by omega)
                      have z0' : decide ((0 : Int) < (m : Int) + 1) = true := decide_eq_true (by omega)
                      have e1 : wrap64 (((m + 1 : Nat) : Int) - 1) = (m : Int) := by unfold wrap64; omega
                      have e1b : wrap64 ((m : Int) + 1 - 1) = (m : Int) := by unfold wrap64; omega
                      have e1c : wrap64 (m : Int) = (m : Int) := by unfold wrap64; omega
                      have e1d : IntKind.i64.wrap (m : Int) = (m : Int) := by rw [IntKind.wrap_i64]; omega
                      have p1 : (0 : Int) ≤ (m : Int) := by omega
                      have q1 : (m : Int) < (l0_2.length : Int) := by omega
                      have p2b : (0 : Int) ≤ (m : Int) + 1 := by omega
                      have q2b : (m : Int) + 1 < (l0_2.length : Int) := by omega
                      have e2b : ((m : Int) + 1).toNat = m + 1 := by omega
                      obtain ⟨x, xe'⟩ : ∃ x, x = rdOf ByteArray.empty l0_2 ((m + 1 : Nat) : Int) := ⟨_, rfl⟩
                      have xe := xe'.symm
                      obtain ⟨adx, hax, hx0⟩ := Kd.at_string (Kd.C_below R2.out HB.out) ((m + 1 : Nat) : Int) (by omega) (by omega)
                      rw [Int.toNat_natCast, show rdOf ByteArray.empty l0_2 ((m + 1 : Nat) : Int) = x from xe] at hx0
                      have HXE : Aside0 (l0_2[m + 1] = x) := ⟨by rw [xe']; simp [rdOf, List.getD_eq_getElem?_getD, h]⟩
                      clear xe xe'
                      obtain ⟨y, ye'⟩ : ∃ y, y = rdOf ByteArray.empty l0_2 ((m : Nat) : Int) := ⟨_, rfl⟩
                      have ye := ye'.symm
                      obtain ⟨ady0, hay0, hy0⟩ := Kd.at_string (Kd.C_below R2.out HB.out) ((m : Nat) : Int) (by omega) (by omega)
                      rw [Int.toNat_natCast, show rdOf ByteArray.empty l0_2 ((m : Nat) : Int) = y from ye] at hy0
                      rw [hax] at hay0
                      cases hay0
                      have hm' : m < l0_2.length := by omega
                      have HYE : Aside0 (l0_2[m] = y) := ⟨by rw [ye']; simp [rdOf, List.getD_eq_getElem?_getD, hm']⟩
                      clear ye ye'
                      subst hax
                      obtain ⟨kb, hkb⟩ : ∃ b, b = keyB x := ⟨_, rfl⟩
                      have KY : Aside0 (∀ W, Calls Try.prog 29 #[.string x] W fun e w' => e = .returned (.bool kb) ∧ Drawn0 W w') := ⟨fun W => cisternref11_Key.calls x kb W (by rw [key_val, hkb])⟩
                      cases kb
                      · have HBD : Aside0 (badS l0_2[m + 1] = true) := ⟨by rw [HXE.out]; unfold badS; rw [← hkb]; rfl⟩
                        clear hkb
                        have MK : Aside0 (∀ w1, Below wr.heap.size wr w1 → Below wr.heap.size wr w1 ∧ w1.cell? ⟨w.heap.size, 2, none⟩ = some (.slice (some adx) l0_2.length c0_2) ∧ w1.cell? (adx.add (m + 1)) = some (.string x) ∧ w1.cell? ⟨adx.block, adx.off + (m + 1), none⟩ = some (.string x) ∧ w1.cell? (adx.add m) = some (.string y)) := ⟨fun w1 hb => ⟨hb, nd_cell hb hbx, nd_cell hb hx0, nd_cell hb (by exact hx0), nd_cell hb hy0⟩⟩
                        have FIN : Aside0 (∀ w1, Below wr.heap.size wr w1 → Below wa.heap.size wa w1) := ⟨fun w1 hb => HX2.out.trans (hb.mono HX2.out.size)⟩
                        have RF : Aside0 (false = r) := ⟨by rw [HR.out, ok_badS (List.getElem_mem h) HBD.out, Bool.and_false]⟩
                        clear hx0 hy0
                        go_wp2_with fail
                        refine wp_region_held_drew (S := fun w1 => Below wr.heap.size wr w1 ∧ w1.cell? ⟨w.heap.size, 2, none⟩ = some (.slice (some adx) l0_2.length c0_2) ∧ w1.cell? (adx.add (m + 1)) = some (.string x) ∧ w1.cell? ⟨adx.block, adx.off + (m + 1), none⟩ = some (.string x) ∧ w1.cell? (adx.add m) = some (.string y)) (by kernel_rfl) ?_ (fun hHeld => ?_)
                        · try dsimp only
                          first | exact MK.out _ (Below.drew (Below.refl _ _)) | exact MK.out _ SB1.out | assumption
                        refine nd_take 0 hHeld ?_
                        refine nd_take 1 hHeld ?_
                        refine nd_take 2 hHeld ?_
                        refine nd_take 3 hHeld ?_
                        refine nd_take 4 hHeld ?_
                        refine wpAnyH_ready (rs := [5]) (by kernel_rfl) (by simp) ?_
                        refine AllReadyH.cons rfl (fun K hK => ?_) AllReadyH.nil
                        go_simp
                        refine (KY.out _).mono ?_
                        rintro e w6 ⟨rfl, hd6⟩
                        have SB1 : Aside0 (Below wr.heap.size wr w6) := ⟨Below.trans hHeld.1 (hd6.below.mono hHeld.1.size)⟩
                        clear hd6
                        go_simp
                        refine hK.out _ _ ?_ (fun hNew => ?_)
                        · try dsimp only
                          first | exact MK.out _ (Below.drew (Below.refl _ _)) | exact MK.out _ SB1.out | assumption
                        clear hK K hHeld
                        have hHeld := hNew
                        clear hNew
                        refine nd_take 6 hHeld ?_
                        refine nd_take 7 hHeld ?_
                        refine nd_skip 8 hHeld ?_
                        refine nd_skip 9 hHeld ?_
                        refine nd_skip 10 hHeld ?_
                        refine nd_skip 11 hHeld ?_
                        refine nd_skip 12 hHeld ?_
                        refine nd_skip 13 hHeld ?_
                        refine nd_skip 14 hHeld ?_
                        refine nd_skip 15 hHeld ?_
                        refine nd_skip 16 hHeld ?_
                        refine nd_skip 17 hHeld ?_
                        refine nd_skip 18 hHeld ?_
                        refine nd_skip 19 hHeld ?_
                        refine nd_skip 20 hHeld ?_
                        refine nd_skip 21 hHeld ?_
                        refine nd_skip 22 hHeld ?_
                        refine nd_skip 23 hHeld ?_
                        refine nd_take 24 hHeld ?_
                        refine wpAnyH_done (by kernel_rfl) ?_ _
                        go_wp2_with fail
                        go_ret
                        exact ⟨by rw [← RF.out]; rfl, (BA.out.trans ((FIN.out _ hHeld.1).mono BA.out.size))⟩

                      · have HBG : Aside0 (badS l0_2[m + 1] = false) := ⟨by rw [HXE.out]; unfold badS; rw [← hkb]; rfl⟩
                        clear hkb
                        have HT : Aside0 ((l0_2.take (m + 1 + 1)).any badS = false) := ⟨take_any _ _ (m + 1) h HTK.out HBG.out⟩
                        obtain ⟨b, hb⟩ : ∃ b, b = Op.bytesLess y.toList x.toList := ⟨_, rfl⟩
                        have Hb := Aside0.mk hb
                        have hb' : Op.bytesLess y.toList x.toList = b := hb.symm
                        clear hb
                        have HG : Aside0 (l0_2.getD m ByteArray.empty = y ∧ l0_2.getD (m + 1) ByteArray.empty = x) := ⟨by rw [← HXE.out, ← HYE.out]; constructor <;> simp [List.getD_eq_getElem?_getD, h, show m < l0_2.length by omega]⟩
                        cases b
                        · have HFL : Aside0 (risesB l0_2 = false) := ⟨rises_false m (by simpa using h) (by rw [HG.out.1, HG.out.2]; exact Hb.out.symm)⟩
                          have MK : Aside0 (∀ w1, Below wr.heap.size wr w1 → Below wr.heap.size wr w1 ∧ w1.cell? ⟨w.heap.size, 2, none⟩ = some (.slice (some adx) l0_2.length c0_2) ∧ w1.cell? (adx.add (m + 1)) = some (.string x) ∧ w1.cell? ⟨adx.block, adx.off + (m + 1), none⟩ = some (.string x) ∧ w1.cell? (adx.add m) = some (.string y)) := ⟨fun w1 hb => ⟨hb, nd_cell hb hbx, nd_cell hb hx0, nd_cell hb (by exact hx0), nd_cell hb hy0⟩⟩
                          have FIN : Aside0 (∀ w1, Below wr.heap.size wr w1 → Below wa.heap.size wa w1) := ⟨fun w1 hb => HX2.out.trans (hb.mono HX2.out.size)⟩
                          have RF : Aside0 (false = r) := ⟨by rw [HR.out, ok_fallS HFL.out, Bool.and_false]⟩
                          clear hx0 hy0
                          go_wp2_with fail
                          refine wp_region_held_drew (S := fun w1 => Below wr.heap.size wr w1 ∧ w1.cell? ⟨w.heap.size, 2, none⟩ = some (.slice (some adx) l0_2.length c0_2) ∧ w1.cell? (adx.add (m + 1)) = some (.string x) ∧ w1.cell? ⟨adx.block, adx.off + (m + 1), none⟩ = some (.string x) ∧ w1.cell? (adx.add m) = some (.string y)) (by kernel_rfl) ?_ (fun hHeld => ?_)
                          · try dsimp only
                            first | exact MK.out _ (Below.drew (Below.refl _ _)) | exact MK.out _ SB1.out | assumption
                          refine nd_take 0 hHeld ?_
                          refine nd_take 1 hHeld ?_
                          refine nd_take 2 hHeld ?_
                          refine nd_take 3 hHeld ?_
                          refine nd_take 4 hHeld ?_
                          refine wpAnyH_ready (rs := [5]) (by kernel_rfl) (by simp) ?_
                          refine AllReadyH.cons rfl (fun K hK => ?_) AllReadyH.nil
                          go_simp
                          refine (KY.out _).mono ?_
                          rintro e w6 ⟨rfl, hd6⟩
                          have SB1 : Aside0 (Below wr.heap.size wr w6) := ⟨Below.trans hHeld.1 (hd6.below.mono hHeld.1.size)⟩
                          clear hd6
                          go_simp
                          refine hK.out _ _ ?_ (fun hNew => ?_)
                          · try dsimp only
                            first | exact MK.out _ (Below.drew (Below.refl _ _)) | exact MK.out _ SB1.out | assumption
                          clear hK K hHeld
                          have hHeld := hNew
                          clear hNew
                          refine nd_take 6 hHeld ?_
                          refine nd_take 7 hHeld ?_
                          refine nd_take 8 hHeld ?_
                          refine nd_take 9 hHeld ?_
                          refine nd_take 10 hHeld ?_
                          refine nd_take 11 hHeld ?_
                          refine nd_take 12 hHeld ?_
                          refine nd_take 13 hHeld ?_
                          refine nd_take 14 hHeld ?_
                          refine nd_take 15 hHeld ?_
                          refine nd_take 16 hHeld ?_
                          refine nd_take 17 hHeld ?_
                          refine nd_take 18 hHeld ?_
                          refine nd_take 19 hHeld ?_
                          refine nd_take 20 hHeld ?_
                          refine nd_take 21 hHeld ?_
                          refine nd_take 22 hHeld ?_
                          refine nd_take 23 hHeld ?_
                          refine nd_take 24 hHeld ?_
                          refine wpAnyH_done (by kernel_rfl) ?_ _
                          go_wp2_with fail
                          go_ret
                          exact ⟨by rw [← RF.out]; rfl, (BA.out.trans ((FIN.out _ hHeld.1).mono BA.out.size))⟩

                        · have HA2 : Aside0 (∀ j, j + 1 < m + 1 + 1 → Op.bytesLess (l0_2.getD j ByteArray.empty).toList (l0_2.getD (j + 1) ByteArray.empty).toList = true) := ⟨fun j hj => by
                            by_cases e : j = m
                            · subst e
                              rw [HG.out.1, HG.out.2]
                              exact Hb.out.symm
                            · exact HA.out j (by omega)⟩
                          have MK : Aside0 (∀ w1, Below wr.heap.size wr w1 → Below wr.heap.size wr w1 ∧ w1.cell? ⟨w.heap.size, 2, none⟩ = some (.slice (some adx) l0_2.length c0_2) ∧ w1.cell? (adx.add (m + 1)) = some (.string x) ∧ w1.cell? ⟨adx.block, adx.off + (m + 1), none⟩ = some (.string x) ∧ w1.cell? (adx.add m) = some (.string y)) := ⟨fun w1 hb => ⟨hb, nd_cell hb hbx, nd_cell hb hx0, nd_cell hb (by exact hx0), nd_cell hb hy0⟩⟩
                          have FIN : Aside0 (∀ w1, Below wr.heap.size wr w1 → Below wa.heap.size wa w1) := ⟨fun w1 hb => HX2.out.trans (hb.mono HX2.out.size)⟩
                          clear hx0 hy0
                          go_wp2_with fail
                          refine wp_region_held_drew (S := fun w1 => Below wr.heap.size wr w1 ∧ w1.cell? ⟨w.heap.size, 2, none⟩ = some (.slice (some adx) l0_2.length c0_2) ∧ w1.cell? (adx.add (m + 1)) = some (.string x) ∧ w1.cell? ⟨adx.block, adx.off + (m + 1), none⟩ = some (.string x) ∧ w1.cell? (adx.add m) = some (.string y)) (by kernel_rfl) ?_ (fun hHeld => ?_)
                          · try dsimp only
                            first | exact MK.out _ (Below.drew (Below.refl _ _)) | exact MK.out _ SB1.out | assumption
                          refine nd_take 0 hHeld ?_
                          refine nd_take 1 hHeld ?_
                          refine nd_take 2 hHeld ?_
                          refine nd_take 3 hHeld ?_
                          refine nd_take 4 hHeld ?_
                          refine wpAnyH_ready (rs := [5]) (by kernel_rfl) (by simp) ?_
                          refine AllReadyH.cons rfl (fun K hK => ?_) AllReadyH.nil
                          go_simp
                          refine (KY.out _).mono ?_
                          rintro e w6 ⟨rfl, hd6⟩
                          have SB1 : Aside0 (Below wr.heap.size wr w6) := ⟨Below.trans hHeld.1 (hd6.below.mono hHeld.1.size)⟩
                          clear hd6
                          go_simp
                          refine hK.out _ _ ?_ (fun hNew => ?_)
                          · try dsimp only
                            first | exact MK.out _ (Below.drew (Below.refl _ _)) | exact MK.out _ SB1.out | assumption
                          clear hK K hHeld
                          have hHeld := hNew
                          clear hNew
                          refine nd_take 6 hHeld ?_
                          refine nd_take 7 hHeld ?_
                          refine nd_take 8 hHeld ?_
                          refine nd_take 9 hHeld ?_
                          refine nd_take 10 hHeld ?_
                          refine nd_take 11 hHeld ?_
                          refine nd_take 12 hHeld ?_
                          refine nd_take 13 hHeld ?_
                          refine nd_take 14 hHeld ?_
                          refine nd_take 15 hHeld ?_
                          refine nd_take 16 hHeld ?_
                          refine nd_take 17 hHeld ?_
                          refine nd_take 18 hHeld ?_
                          refine nd_take 19 hHeld ?_
                          refine nd_take 20 hHeld ?_
                          refine nd_take 21 hHeld ?_
                          refine nd_take 22 hHeld ?_
                          refine nd_take 23 hHeld ?_
                          refine nd_take 24 hHeld ?_
                          refine wpAnyH_done (by kernel_rfl) ?_ _
                          have FB := Aside0.mk (FIN.out _ hHeld.1)
                          clear hHeld
                          go_wp2_with fail
                          go_roundw
                          case rel => exact ⟨m + 1 + 1, by omega, by first | rfl | (simp; done) | go_num, HT, HA2, FB⟩
                          case measure => simp [intOf]; omega



                  · have d1 : decide (k < l0_2.length) = false := decide_eq_false h
                    have d1' : decide ((k : Int) < (l0_2.length : Int)) = false := decide_eq_false (by omega)
                    have OKS : Aside0 (l0_2.any badS = false ∧ risesB l0_2 = true) := ⟨by have := HTK.out; rwa [List.take_of_length_le (by omega)] at this, rises_true (fun j hj => HA.out j (by (try simp at hj); omega))⟩
                    clear HTK HA
                    go_wp2_with fail
                    clear hbx
                    go_loopw [5] (fun v w' => ∃ k : Nat, k ≤ l0_3.length ∧ v = .int .i64 (k : Int) ∧ Aside0 ((l0_3.take k).any badI = false) ∧ Aside0 (Below wa.heap.size wa w')) (fun v _ => (l0_3.length - intOf v).toNat)
                    case atStart => exact ⟨0, by omega, rfl, ⟨by simp⟩, HX2⟩
                    case round =>
                      obtain ⟨k, hk, rfl, HTK, HX2⟩ := hrel
                      have hbx : wr.cell? ⟨w.heap.size, 3, none⟩ = some (.slice A0_3 l0_3.length c0_3) := nd_cell HX2.out BC3.out
                      by_cases h : k < l0_3.length
                      · have d1 : decide (k < l0_3.length) = true := decide_eq_true h
                        have d1' : decide ((k : Int) < (l0_3.length : Int)) = true := decide_eq_true (by omega)
                        have HB : Aside0 (Below w.heap.size w wr) := ⟨BA.out.trans (HX2.out.mono BA.out.size)⟩
                        have p1 : (0 : Int) ≤ (k : Int) := by omega
                        have q1 : (k : Int) < (l0_3.length : Int) := by omega
                        obtain ⟨ad, e, hx⟩ := Kd.at_int (Kd.C_below R3.out HB.out) (k : Int) p1 q1
                        cases e
                        obtain ⟨x, hxx⟩ : ∃ x, x = rd l0_3 (k : Int) := ⟨_, rfl⟩
                        rw [← hxx] at hx
                        have HXE : Aside0 (l0_3[k] = x) := ⟨by rw [hxx]; simp [rd, List.getD_eq_getElem?_getD, h]⟩
                        clear hxx
                        rw [Int.toNat_natCast] at hx
                        by_cases h1 : x < 1
                        · have f1 : decide (x < 1) = true := decide_eq_true h1
                          have RF : Aside0 (false = r) := ⟨by rw [HR.out, ok_badI (List.getElem_mem h) (by rw [HXE.out]; unfold badI; rw [f1]; rfl), Bool.and_false]⟩
                          clear h1
                          go_wp2_with fail
                          go_ret
                          exact ⟨by rw [← RF.out]; rfl, BA.out.trans (HX2.out.mono BA.out.size)⟩
                        · have f1 : decide (x < 1) = false := decide_eq_false h1
                          by_cases h2 : 65535 < x
                          · have f2 : decide (65535 < x) = true := decide_eq_true h2
                            have RF : Aside0 (false = r) := ⟨by rw [HR.out, ok_badI (List.getElem_mem h) (by rw [HXE.out]; unfold badI; rw [f2]; simp), Bool.and_false]⟩
                            clear h1 h2
                            go_wp2_with fail
                            go_ret
                            exact ⟨by rw [← RF.out]; rfl, BA.out.trans (HX2.out.mono BA.out.size)⟩
                          · have f2 : decide (65535 < x) = false := decide_eq_false h2
                            have HT : Aside0 ((l0_3.take (k + 1)).any badI = false) := ⟨take_any _ _ k h HTK.out (by rw [HXE.out]; unfold badI; rw [f1, f2]; rfl)⟩
                            clear h1 h2
                            go_wp2_with fail
                            go_roundw
                            case rel => exact ⟨k + 1, by omega, by first | rfl | (simp; done) | go_num, HT, HX2⟩
                            case measure => simp [intOf]; omega
                      · have d1 : decide (k < l0_3.length) = false := decide_eq_false h
                        have d1' : decide ((k : Int) < (l0_3.length : Int)) = false := decide_eq_false (by omega)
                        have RF : Aside0 (true = r) := ⟨by
                          have hi := HTK.out
                          rw [List.take_of_length_le (by omega)] at hi
                          rw [HR.out, GD.out]
                          unfold okV
                          rw [OKP.out.1, OKP.out.2, OKS.out.1, OKS.out.2, hi]
                          rfl⟩
                        go_wp2_with fail
                        go_ret
                        exact ⟨by rw [← RF.out]; rfl, BA.out.trans (HX2.out.mono BA.out.size)⟩

          · have gs0 : ((l0_2.length : Int) != (l0_3.length : Int) - 1) = true := bne_iff_ne.2 (by omega)
            have RF : Aside0 (false = r) := ⟨by rw [HR.out, show gdV false l0_1 l0_2 l0_3 = false by unfold gdV; simp [hp, hd, hq, hz, hs], Bool.false_and]⟩
            clear hp hd hq hz hs
            have bx := heap_alloc_new w (.cells #[.bool false, .slice A0_1 l0_1.length c0_1, .slice A0_2 l0_2.length c0_2, .slice A0_3 l0_3.length c0_3] 26)
            have xa := below_alloc (Below.refl w.heap.size w) (.cells #[.bool false, .slice A0_1 l0_1.length c0_1, .slice A0_2 l0_2.length c0_2, .slice A0_3 l0_3.length c0_3] 26)
            obtain ⟨wa, hwa⟩ : ∃ wa, wa = w.alloc (.cells #[.bool false, .slice A0_1 l0_1.length c0_1, .slice A0_2 l0_2.length c0_2, .slice A0_3 l0_3.length c0_3] 26) := ⟨_, rfl⟩
            have HWA := Aside0.mk hwa
            rw [← hwa] at bx xa
            have BA := Aside0.mk xa
            clear hwa xa
            have b0 : wa.cell? ⟨w.heap.size, 0, none⟩ = some (.bool false) := blk_cell bx 0
            have b1 : wa.cell? ⟨w.heap.size, 1, none⟩ = some (.slice A0_1 l0_1.length c0_1) := blk_cell bx 1
            have b2 : wa.cell? ⟨w.heap.size, 2, none⟩ = some (.slice A0_2 l0_2.length c0_2) := blk_cell bx 2
            have b3 : wa.cell? ⟨w.heap.size, 3, none⟩ = some (.slice A0_3 l0_3.length c0_3) := blk_cell bx 3
            have BC1 := Aside0.mk b1
            have BC2 := Aside0.mk b2
            have BC3 := Aside0.mk b3
            clear bx

            go_enter Try.func26, Try.ntmps26
            go_wp2_with fail
            go_ret
            exact ⟨by rw [← RF.out]; rfl, by rw [← HWA.out]; exact BA.out⟩

        · have gz0 : ((l0_3.length : Int) == 0) = true := beq_iff_eq.2 (by omega)
          have gz1 : (l0_3.length == 0) = true := beq_iff_eq.2 (by omega)
          have RF : Aside0 (false = r) := ⟨by rw [HR.out, show gdV false l0_1 l0_2 l0_3 = false by unfold gdV; simp [hp, hd, hq, hz], Bool.false_and]⟩
          clear hp hd hq hz
          have bx := heap_alloc_new w (.cells #[.bool false, .slice A0_1 l0_1.length c0_1, .slice A0_2 l0_2.length c0_2, .slice A0_3 l0_3.length c0_3] 26)
          have xa := below_alloc (Below.refl w.heap.size w) (.cells #[.bool false, .slice A0_1 l0_1.length c0_1, .slice A0_2 l0_2.length c0_2, .slice A0_3 l0_3.length c0_3] 26)
          obtain ⟨wa, hwa⟩ : ∃ wa, wa = w.alloc (.cells #[.bool false, .slice A0_1 l0_1.length c0_1, .slice A0_2 l0_2.length c0_2, .slice A0_3 l0_3.length c0_3] 26) := ⟨_, rfl⟩
          have HWA := Aside0.mk hwa
          rw [← hwa] at bx xa
          have BA := Aside0.mk xa
          clear hwa xa
          have b0 : wa.cell? ⟨w.heap.size, 0, none⟩ = some (.bool false) := blk_cell bx 0
          have b1 : wa.cell? ⟨w.heap.size, 1, none⟩ = some (.slice A0_1 l0_1.length c0_1) := blk_cell bx 1
          have b2 : wa.cell? ⟨w.heap.size, 2, none⟩ = some (.slice A0_2 l0_2.length c0_2) := blk_cell bx 2
          have b3 : wa.cell? ⟨w.heap.size, 3, none⟩ = some (.slice A0_3 l0_3.length c0_3) := blk_cell bx 3
          have BC1 := Aside0.mk b1
          have BC2 := Aside0.mk b2
          have BC3 := Aside0.mk b3
          clear bx

          go_enter Try.func26, Try.ntmps26
          go_wp2_with fail
          go_ret
          exact ⟨by rw [← RF.out]; rfl, by rw [← HWA.out]; exact BA.out⟩

      · have gq0 : decide ((0 : Int) < (l0_1.length : Int)) = true := decide_eq_true (by omega)
        have gq1 : decide (0 < l0_1.length) = true := decide_eq_true (by omega)
        have RF : Aside0 (false = r) := ⟨by rw [HR.out, show gdV false l0_1 l0_2 l0_3 = false by unfold gdV; simp [hp, hd, hq], Bool.false_and]⟩
        clear hp hd hq
        have bx := heap_alloc_new w (.cells #[.bool false, .slice A0_1 l0_1.length c0_1, .slice A0_2 l0_2.length c0_2, .slice A0_3 l0_3.length c0_3] 26)
        have xa := below_alloc (Below.refl w.heap.size w) (.cells #[.bool false, .slice A0_1 l0_1.length c0_1, .slice A0_2 l0_2.length c0_2, .slice A0_3 l0_3.length c0_3] 26)
        obtain ⟨wa, hwa⟩ : ∃ wa, wa = w.alloc (.cells #[.bool false, .slice A0_1 l0_1.length c0_1, .slice A0_2 l0_2.length c0_2, .slice A0_3 l0_3.length c0_3] 26) := ⟨_, rfl⟩
        have HWA := Aside0.mk hwa
        rw [← hwa] at bx xa
        have BA := Aside0.mk xa
        clear hwa xa
        have b0 : wa.cell? ⟨w.heap.size, 0, none⟩ = some (.bool false) := blk_cell bx 0
        have b1 : wa.cell? ⟨w.heap.size, 1, none⟩ = some (.slice A0_1 l0_1.length c0_1) := blk_cell bx 1
        have b2 : wa.cell? ⟨w.heap.size, 2, none⟩ = some (.slice A0_2 l0_2.length c0_2) := blk_cell bx 2
        have b3 : wa.cell? ⟨w.heap.size, 3, none⟩ = some (.slice A0_3 l0_3.length c0_3) := blk_cell bx 3
        have BC1 := Aside0.mk b1
        have BC2 := Aside0.mk b2
        have BC3 := Aside0.mk b3
        clear bx

        go_enter Try.func26, Try.ntmps26
        go_wp2_with fail
        go_ret
        exact ⟨by rw [← RF.out]; rfl, by rw [← HWA.out]; exact BA.out⟩

    · have gd0 : decide ((255 : Int) < (l0_3.length : Int)) = true := decide_eq_true (by omega)
      have gd1 : decide (255 < l0_3.length) = true := decide_eq_true (by omega)
      have RF : Aside0 (false = r) := ⟨by rw [HR.out, show gdV false l0_1 l0_2 l0_3 = false by unfold gdV; simp [hp, hd], Bool.false_and]⟩
      clear hp hd
      have bx := heap_alloc_new w (.cells #[.bool false, .slice A0_1 l0_1.length c0_1, .slice A0_2 l0_2.length c0_2, .slice A0_3 l0_3.length c0_3] 26)
      have xa := below_alloc (Below.refl w.heap.size w) (.cells #[.bool false, .slice A0_1 l0_1.length c0_1, .slice A0_2 l0_2.length c0_2, .slice A0_3 l0_3.length c0_3] 26)
      obtain ⟨wa, hwa⟩ : ∃ wa, wa = w.alloc (.cells #[.bool false, .slice A0_1 l0_1.length c0_1, .slice A0_2 l0_2.length c0_2, .slice A0_3 l0_3.length c0_3] 26) := ⟨_, rfl⟩
      have HWA := Aside0.mk hwa
      rw [← hwa] at bx xa
      have BA := Aside0.mk xa
      clear hwa xa
      have b0 : wa.cell? ⟨w.heap.size, 0, none⟩ = some (.bool false) := blk_cell bx 0
      have b1 : wa.cell? ⟨w.heap.size, 1, none⟩ = some (.slice A0_1 l0_1.length c0_1) := blk_cell bx 1
      have b2 : wa.cell? ⟨w.heap.size, 2, none⟩ = some (.slice A0_2 l0_2.length c0_2) := blk_cell bx 2
      have b3 : wa.cell? ⟨w.heap.size, 3, none⟩ = some (.slice A0_3 l0_3.length c0_3) := blk_cell bx 3
      have BC1 := Aside0.mk b1
      have BC2 := Aside0.mk b2
      have BC3 := Aside0.mk b3
      clear bx

      go_enter Try.func26, Try.ntmps26
      go_wp2_with fail
      go_ret
      exact ⟨by rw [← RF.out]; rfl, by rw [← HWA.out]; exact BA.out⟩

  · have gp0 : decide ((255 : Int) < (l0_1.length : Int)) = true := decide_eq_true (by omega)
    have gp1 : decide (255 < l0_1.length) = true := decide_eq_true (by omega)
    have RF : Aside0 (false = r) := ⟨by rw [HR.out, show gdV false l0_1 l0_2 l0_3 = false by unfold gdV; simp [hp], Bool.false_and]⟩
    clear hp
    have bx := heap_alloc_new w (.cells #[.bool false, .slice A0_1 l0_1.length c0_1, .slice A0_2 l0_2.length c0_2, .slice A0_3 l0_3.length c0_3] 26)
    have xa := below_alloc (Below.refl w.heap.size w) (.cells #[.bool false, .slice A0_1 l0_1.length c0_1, .slice A0_2 l0_2.length c0_2, .slice A0_3 l0_3.length c0_3] 26)
    obtain ⟨wa, hwa⟩ : ∃ wa, wa = w.alloc (.cells #[.bool false, .slice A0_1 l0_1.length c0_1, .slice A0_2 l0_2.length c0_2, .slice A0_3 l0_3.length c0_3] 26) := ⟨_, rfl⟩
    have HWA := Aside0.mk hwa
    rw [← hwa] at bx xa
    have BA := Aside0.mk xa
    clear hwa xa
    have b0 : wa.cell? ⟨w.heap.size, 0, none⟩ = some (.bool false) := blk_cell bx 0
    have b1 : wa.cell? ⟨w.heap.size, 1, none⟩ = some (.slice A0_1 l0_1.length c0_1) := blk_cell bx 1
    have b2 : wa.cell? ⟨w.heap.size, 2, none⟩ = some (.slice A0_2 l0_2.length c0_2) := blk_cell bx 2
    have b3 : wa.cell? ⟨w.heap.size, 3, none⟩ = some (.slice A0_3 l0_3.length c0_3) := blk_cell bx 3
    have BC1 := Aside0.mk b1
    have BC2 := Aside0.mk b2
    have BC3 := Aside0.mk b3
    clear bx

    go_enter Try.func26, Try.ntmps26
    go_wp2_with fail
    go_ret
    exact ⟨by rw [← RF.out]; rfl, by rw [← HWA.out]; exact BA.out⟩
def cisternref11_Right.f (a0_0 : Bool) (l0_1 : List (S48)) (l0_2 : List ByteArray) (l0_3 : List Int) : Option (Bool) := some (leafV a0_0 l0_1 l0_2 l0_3 || innerV a0_0 l0_1 l0_2 l0_3)
theorem cisternref11_Right.calls (a0_0 : Bool) (A0_1 : Option Addr) (c0_1 : Nat) (l0_1 : List S48) (A0_2 : Option Addr) (c0_2 : Nat) (l0_2 : List ByteArray) (A0_3 : Option Addr) (c0_3 : Nat) (l0_3 : List Int) (r : Bool) (w : World) (hr0_1 : Kd.C k48 w A0_1 l0_1.length l0_1) (hc0_1 : l0_1.length ≤ c0_1) (hr0_2 : Kd.C Kd.string w A0_2 l0_2.length l0_2) (hc0_2 : l0_2.length ≤ c0_2) (hr0_3 : Kd.C (Kd.int .i64) w A0_3 l0_3.length l0_3) (hc0_3 : l0_3.length ≤ c0_3) (h : cisternref11_Right.f a0_0 l0_1 l0_2 l0_3 = some r) :
    Calls Try.prog 26 #[.agg #[.bool a0_0, .slice A0_1 l0_1.length c0_1, .slice A0_2 l0_2.length c0_2, .slice A0_3 l0_3.length c0_3]] w fun e w' => e = .returned (.bool r) ∧ Below w.heap.size w w' := by
  have h := Option.some.inj h
  rw [← right_eq] at h
  cases a0_0
  · exact right_false A0_1 c0_1 l0_1 A0_2 c0_2 l0_2 A0_3 c0_3 l0_3 r w hr0_1 hc0_1 hr0_2 hc0_2 hr0_3 hc0_3 h.symm
  · exact right_true A0_1 c0_1 l0_1 A0_2 c0_2 l0_2 A0_3 c0_3 l0_3 r w hr0_1 hc0_1 hr0_2 hc0_2 hr0_3 hc0_3 h.symm
end
end Go.Proofs.Ytjjfeoigjhbbpaa.PA
