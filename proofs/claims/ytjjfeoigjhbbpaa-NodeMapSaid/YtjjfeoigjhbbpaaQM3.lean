/- Texts of this claim: contracts of the functions that the statement reaches, and plain laws of what they compute. -/
import Derived.Test.YtjjfeoigjhbbpaaQM2
set_option linter.unusedVariables false
set_option linter.unusedSimpArgs false
namespace Go.Proofs.Ytjjfeoigjhbbpaa.PA
section

open Go.RowKit Go.Proofs.YtjjfeoigjhbbpaaW.PrintWords Go.Proofs.YtjjfeoigjhbbpaaW.PrintLast Go.Proofs.YtjjfeoigjhbbpaaW.PrintMore
attribute [local go_sem] pr_leq pr_geq pr_gtr max2_int min2_int max_two min_two max_three min_three max_four min_four
set_option linter.unusedVariables false
set_option linter.unusedSimpArgs false
def node_Put.v (a0_0 : Bool) (l0_1 : List (S48)) (l0_2 : List ByteArray) (l0_3 : List Int) (a1_0 : ByteArray) (a1_1 : ByteArray) : Bool × List S48 × List ByteArray × List Int × Int := if leafV a0_0 l0_1 l0_2 l0_3 = true ∧ keyB a1_0 = true ∧ a1_1.size ≤ 48 then (if isP l0_1 a1_0 = true then (true, l0_1.set (atP l0_1 a1_0) ⟨a1_0, a1_1⟩, [], [], 0) else if l0_1.length = 255 then (false, [], [], [], 2) else (true, l0_1.take (atP l0_1 a1_0) ++ (⟨a1_0, a1_1⟩ : S48) :: l0_1.drop (atP l0_1 a1_0), [], [], 0)) else (false, [], [], [], 2)
def node_Put.f (a0_0 : Bool) (l0_1 : List (S48)) (l0_2 : List ByteArray) (l0_3 : List Int) (a1_0 : ByteArray) (a1_1 : ByteArray) : Option (Bool × List S48 × List ByteArray × List Int × Int) := some (node_Put.v a0_0 l0_1 l0_2 l0_3 a1_0 a1_1)
set_option maxHeartbeats 4000000 in
set_option maxRecDepth 100000 in
theorem node_Put.calls (a0_0 : Bool) (A0_1 : Option Addr) (c0_1 : Nat) (l0_1 : List S48) (A0_2 : Option Addr) (c0_2 : Nat) (l0_2 : List ByteArray) (A0_3 : Option Addr) (c0_3 : Nat) (l0_3 : List Int) (a1_0 : ByteArray) (a1_1 : ByteArray) (r1 : Bool) (r2 : List (S48)) (r3 : List ByteArray) (r4 : List Int) (r5 : Int) (w : World) (hr0_1 : Kd.C k48 w A0_1 l0_1.length l0_1) (hc0_1 : l0_1.length ≤ c0_1) (hr0_2 : Kd.C Kd.string w A0_2 l0_2.length l0_2) (hc0_2 : l0_2.length ≤ c0_2) (hr0_3 : Kd.C (Kd.int .i64) w A0_3 l0_3.length l0_3) (hc0_3 : l0_3.length ≤ c0_3) (h : node_Put.f a0_0 l0_1 l0_2 l0_3 a1_0 a1_1 = some (r1, r2, r3, r4, r5)) :
    Calls Try.prog 28 #[.agg #[.bool a0_0, .slice A0_1 l0_1.length c0_1, .slice A0_2 l0_2.length c0_2, .slice A0_3 l0_3.length c0_3], .agg #[.string a1_0, .string a1_1]] w fun e w' => ∃ v1_ v2_ v3_ : Value, e = .returned (.tuple #[.agg #[.bool r1, v1_, v2_, v3_], .int .i64 r5]) ∧ Kd.R k48 48 w' w.heap.size (fun _ => True) v1_ r2 ∧ Kd.R Kd.string 9 w' w.heap.size (fun _ => True) v2_ r3 ∧ Kd.R (Kd.int .i64) 3 w' w.heap.size (fun _ => True) v3_ r4 ∧ Below w.heap.size w w' := by
  have LF := Aside0.mk (fun W hw => node_Node_leaf.calls a0_0 A0_1 c0_1 l0_1 A0_2 c0_2 l0_2 A0_3 c0_3 l0_3 (leafV a0_0 l0_1 l0_2 l0_3) W (Kd.C_below hr0_1 hw) hc0_1 (Kd.C_below hr0_2 hw) hc0_2 (Kd.C_below hr0_3 hw) hc0_3 rfl)
  have CL := Aside0.mk (fun W hw hb => api_Pair_44.calls A0_1 c0_1 l0_1 l0_1 W (Kd.C_below hr0_1 hw) hc0_1 (by unfold api_Pair_44.f; rw [if_pos hb]))
  have KY := Aside0.mk (fun W => node_isKey.calls a1_0 (keyB a1_0) W (isKey_val a1_0))
  replace h := Option.some.inj h
  unfold node_Put.v at h
  clear hr0_1 hc0_1 hr0_2 hc0_2 hr0_3 hc0_3
  by_cases hl : leafV a0_0 l0_1 l0_2 l0_3 = true
  · have hlen : l0_1.length ≤ 255 := (leafV_true hl).2.2.2.1
    rw [hl] at LF h
    clear hl
    by_cases hk : keyB a1_0 = true
    · rw [hk] at KY h
      clear hk
      by_cases hv : a1_1.size ≤ 48
      · rw [if_pos ⟨rfl, rfl, hv⟩] at h
        have hv1 : decide ((48 : Int) < (a1_1.size : Int)) = false := decide_eq_false (by omega)
        have hv2 : ¬ ((48 : Int) < (a1_1.size : Int)) := by omega
        clear hv
        obtain ⟨k, hk⟩ : ∃ k, k = atP l0_1 a1_0 := ⟨_, rfl⟩
        obtain ⟨b, hb⟩ : ∃ b, b = isP l0_1 a1_0 := ⟨_, rfl⟩
        have hkl : k ≤ l0_1.length := by rw [hk]; exact (srch_bounds _ _ 0 _ (Nat.le_refl _) (by omega)).2
        have hbk : b = true → k < l0_1.length := fun e => by rw [hb] at e; unfold isP at e; simp at e; rw [hk]; exact e.1
        have HK := Aside0.mk hk
        have HBb := Aside0.mk hb
        rw [← hk, ← hb] at h
        clear hk hb
        cases b
        · rw [if_neg (by decide)] at h
          by_cases h255 : l0_1.length = 255
          · rw [if_pos h255] at h
            cases h
            clear hbk
            have g255 : ((l0_1.length : Int) == 255) = true := beq_iff_eq.2 (by omega)
            have H255 := Aside0.mk h255
            clear h255
            obtain ⟨wy, hwy⟩ : ∃ wy, wy = ((w.alloc (.cells #[.bool a0_0, .slice A0_1 l0_1.length c0_1, .slice A0_2 l0_2.length c0_2, .slice A0_3 l0_3.length c0_3] 31)).alloc (.cells #[.string a1_0, .string a1_1] 48)) := ⟨_, rfl⟩
            obtain ⟨wx, hwx⟩ : ∃ wx, wx = wy.alloc (.cells #[.bool false, .slice none 0 0, .slice none 0 0, .slice none 0 0] 31) := ⟨_, rfl⟩
            have ny : wy.heap.size = (w.heap.size + 2) := by rw [hwy]; simp
            have b0y := heap_alloc_new w (.cells #[.bool a0_0, .slice A0_1 l0_1.length c0_1, .slice A0_2 l0_2.length c0_2, .slice A0_3 l0_3.length c0_3] 31)
            have p0y := heap_alloc_new (w.alloc (.cells #[.bool a0_0, .slice A0_1 l0_1.length c0_1, .slice A0_2 l0_2.length c0_2, .slice A0_3 l0_3.length c0_3] 31)) (.cells #[.string a1_0, .string a1_1] 48)
            have b1y := (Lib.alloc_old (w.alloc (.cells #[.bool a0_0, .slice A0_1 l0_1.length c0_1, .slice A0_2 l0_2.length c0_2, .slice A0_3 l0_3.length c0_3] 31)) (.cells #[.string a1_0, .string a1_1] 48) w.heap.size (blk_lt b0y)).trans b0y
            rw [← hwy] at p0y b1y
            have sy : (w.alloc (.cells #[.bool a0_0, .slice A0_1 l0_1.length c0_1, .slice A0_2 l0_2.length c0_2, .slice A0_3 l0_3.length c0_3] 31)).heap.size = w.heap.size + 1 := by simp
            rw [sy] at p0y
            have bel := below_alloc (below_alloc (Below.refl w.heap.size w) (.cells #[.bool a0_0, .slice A0_1 l0_1.length c0_1, .slice A0_2 l0_2.length c0_2, .slice A0_3 l0_3.length c0_3] 31)) (.cells #[.string a1_0, .string a1_1] 48)
            rw [← hwy] at bel
            have bx := (Lib.alloc_old wy (.cells #[.bool false, .slice none 0 0, .slice none 0 0, .slice none 0 0] 31) w.heap.size (blk_lt b1y)).trans b1y
            have tx := heap_alloc_new wy (.cells #[.bool false, .slice none 0 0, .slice none 0 0, .slice none 0 0] 31)
            rw [← hwx] at bx tx
            rw [ny] at tx
            have BXX : Aside0 (Below w.heap.size w wx) := ⟨by rw [hwx]; exact below_alloc bel _⟩
            have TX := Aside0.mk tx
            have NX : Aside0 (wx.heap.size = (w.heap.size + 2) + 1) := ⟨by rw [hwx]; simp; omega⟩
            have HWX : Aside0 (wx = ((w.alloc (.cells #[.bool a0_0, .slice A0_1 l0_1.length c0_1, .slice A0_2 l0_2.length c0_2, .slice A0_3 l0_3.length c0_3] 31)).alloc (.cells #[.string a1_0, .string a1_1] 48)).alloc (.cells #[.bool false, .slice none 0 0, .slice none 0 0, .slice none 0 0] 31)) := ⟨by rw [hwx, hwy]⟩
            have b0 : wx.cell? ⟨w.heap.size, 0, none⟩ = some (.bool a0_0) := blk_cell bx 0
            have b1 : wx.cell? ⟨w.heap.size, 1, none⟩ = some (.slice A0_1 l0_1.length c0_1) := blk_cell bx 1
            have b2 : wx.cell? ⟨w.heap.size, 2, none⟩ = some (.slice A0_2 l0_2.length c0_2) := blk_cell bx 2
            have b3 : wx.cell? ⟨w.heap.size, 3, none⟩ = some (.slice A0_3 l0_3.length c0_3) := blk_cell bx 3
            have px := (Lib.alloc_old wy (.cells #[.bool false, .slice none 0 0, .slice none 0 0, .slice none 0 0] 31) (w.heap.size + 1) (blk_lt p0y)).trans p0y
            rw [← hwx] at px
            have q0 : wx.cell? ⟨w.heap.size + 1, 0, none⟩ = some (.string a1_0) := blk_cell px 0
            have q1 : wx.cell? ⟨w.heap.size + 1, 1, none⟩ = some (.string a1_1) := blk_cell px 1
            clear px p0y sy
            clear hwx hwy ny b0y b1y bel bx tx
            go_enter Try.func28, Try.ntmps28
            go_wp2_with fail
            rw [← HWX.out]
            refine (LF.out _ BXX.out).mono ?_
            rintro e w1 ⟨rfl, hB⟩
            have B1 := Aside0.mk (BXX.out.trans (hB.mono BXX.out.size))
            have t1 : w1.heap[(w.heap.size + 2)]? = some (.cells #[.bool false, .slice none 0 0, .slice none 0 0, .slice none 0 0] 31 (0, 0)) := (hB.block _ (by have := NX.out; omega)).trans TX.out
            have d0 := nd_cell hB b0
            have d1 := nd_cell hB b1
            have d2 := nd_cell hB b2
            have d3 := nd_cell hB b3
            have r0 := nd_cell hB q0
            have r1 := nd_cell hB q1
            clear b0 b1 b2 b3 q0 q1 hB

            go_wp2_with fail
            refine (KY.out _).mono ?_
            rintro e w2 ⟨rfl, hd⟩
            have hB := hd.below
            have B2 := Aside0.mk (B1.out.trans (hB.mono B1.out.size))
            have t2 : w2.heap[(w.heap.size + 2)]? = some (.cells #[.bool false, .slice none 0 0, .slice none 0 0, .slice none 0 0] 31 (0, 0)) := (hB.block _ (blk_lt t1)).trans t1
            have e0 := nd_cell hB d0
            have e1 := nd_cell hB d1
            have e2 := nd_cell hB d2
            have e3 := nd_cell hB d3
            have s0 := nd_cell hB r0
            have s1 := nd_cell hB r1
            clear d0 d1 d2 d3 r0 r1 hB hd t1

            have T2 := Aside0.mk t2
            have hz := blk_lt t2
            clear t2
            go_wp2_with fail
            refine (CL.out _ B2.out (by omega)).mono ?_
            rintro e w3 ⟨v0, rfl, hR, hB⟩
            have B3 := Aside0.mk (B2.out.trans (hB.mono B2.out.size))
            have t3 : w3.heap[(w.heap.size + 2)]? = some (.cells #[.bool false, .slice none 0 0, .slice none 0 0, .slice none 0 0] 31 (0, 0)) := (hB.block _ hz).trans T2.out
            have m0 := nd_cell hB s0
            have m1 := nd_cell hB s1
            have hZ := Aside0.mk hz
            have S3 := Aside0.mk hB.size
            obtain ⟨A, c, rfl⟩ := Kd.R_slice hR
            have R3 := Aside0.mk hR
            have hcl : l0_1.length ≤ c := (Kd.R_reads' hR).2.1
            have PA := Aside0.mk (node_pairAt.calls A c l0_1 a1_0 (k : Int) false w3 (Kd.R_reads' hR).2.2 hcl (by unfold node_pairAt.f; rw [HK.out, HBb.out]))
            clear hR hB hz s0 s1 e0 e1 e2 e3
            go_wp2_with fail
            refine PA.out.mono ?_
            rintro e w4 ⟨rfl, hB⟩
            have B4 := Aside0.mk (B3.out.trans (hB.mono B3.out.size))
            have S4 := Aside0.mk (Nat.le_trans S3.out hB.size)
            have t4 : w4.heap[(w.heap.size + 2)]? = some (.cells #[.bool false, .slice none 0 0, .slice none 0 0, .slice none 0 0] 31 (0, 0)) := (hB.block _ (blk_lt t3)).trans t3
            have n0 := nd_cell hB m0
            have n1 := nd_cell hB m1
            have R4 := Aside0.mk (Kd.R_below R3.out hB)
            clear hB m0 m1 t3 R3

            have c0 : w4.cell? ⟨(w.heap.size + 2), 0, none⟩ = some (.bool false) := blk_cell t4 0
            have c1 : w4.cell? ⟨(w.heap.size + 2), 1, none⟩ = some (.slice none 0 0) := blk_cell t4 1
            have c2 : w4.cell? ⟨(w.heap.size + 2), 2, none⟩ = some (.slice none 0 0) := blk_cell t4 2
            have c3 : w4.cell? ⟨(w.heap.size + 2), 3, none⟩ = some (.slice none 0 0) := blk_cell t4 3
            have f0 : w4.frozen? ⟨(w.heap.size + 2), 0, none⟩ = false := blk_frozen t4 0
            have f1 : w4.frozen? ⟨(w.heap.size + 2), 1, none⟩ = false := blk_frozen t4 1
            have f2 : w4.frozen? ⟨(w.heap.size + 2), 2, none⟩ = false := blk_frozen t4 2
            have f3 : w4.frozen? ⟨(w.heap.size + 2), 3, none⟩ = false := blk_frozen t4 3
            go_wp2
            have hg4 := nd_grown4 w4 (w.heap.size + 2) (.bool false) (.slice none 0 0) (.slice none 0 0) (.slice none 0 0)
            refine bodyPost_ret (results_ct rfl _ _ (w.heap.size + 2) 31 #[.bool false, .slice none 0 0, .slice none 0 0, .slice none 0 0] (0, 0) _ rfl (nd_put4 w4 (w.heap.size + 2) 31 _ _ _ _ (.bool false) (.slice none 0 0) (.slice none 0 0) (.slice none 0 0) t4) Try.underlying31 rfl (by kernel_rfl)) rfl ?_
            exact ⟨_, _, _, rfl, Kd.R_nil _ _ _ _ _, Kd.R_nil _ _ _ _ _, Kd.R_nil _ _ _ _ _, nd_grown_below hg4 B4.out B4.out.size (by omega)⟩
          · rw [if_neg h255] at h
            cases h
            clear hbk
            have g255 : ((l0_1.length : Int) == 255) = false := beq_eq_false_iff_ne.2 (by omega)
            have g255' : ¬ ((l0_1.length : Int) = 255) := by omega
            obtain ⟨wy, hwy⟩ : ∃ wy, wy = ((w.alloc (.cells #[.bool a0_0, .slice A0_1 l0_1.length c0_1, .slice A0_2 l0_2.length c0_2, .slice A0_3 l0_3.length c0_3] 31)).alloc (.cells #[.string a1_0, .string a1_1] 48)) := ⟨_, rfl⟩
            obtain ⟨wx, hwx⟩ : ∃ wx, wx = wy.alloc (.cells #[.bool false, .slice none 0 0, .slice none 0 0, .slice none 0 0] 31) := ⟨_, rfl⟩
            have ny : wy.heap.size = (w.heap.size + 2) := by rw [hwy]; simp
            have b0y := heap_alloc_new w (.cells #[.bool a0_0, .slice A0_1 l0_1.length c0_1, .slice A0_2 l0_2.length c0_2, .slice A0_3 l0_3.length c0_3] 31)
            have p0y := heap_alloc_new (w.alloc (.cells #[.bool a0_0, .slice A0_1 l0_1.length c0_1, .slice A0_2 l0_2.length c0_2, .slice A0_3 l0_3.length c0_3] 31)) (.cells #[.string a1_0, .string a1_1] 48)
            have b1y := (Lib.alloc_old (w.alloc (.cells #[.bool a0_0, .slice A0_1 l0_1.length c0_1, .slice A0_2 l0_2.length c0_2, .slice A0_3 l0_3.length c0_3] 31)) (.cells #[.string a1_0, .string a1_1] 48) w.heap.size (blk_lt b0y)).trans b0y
            rw [← hwy] at p0y b1y
            have sy : (w.alloc (.cells #[.bool a0_0, .slice A0_1 l0_1.length c0_1, .slice A0_2 l0_2.length c0_2, .slice A0_3 l0_3.length c0_3] 31)).heap.size = w.heap.size + 1 := by simp
            rw [sy] at p0y
            have bel := below_alloc (below_alloc (Below.refl w.heap.size w) (.cells #[.bool a0_0, .slice A0_1 l0_1.length c0_1, .slice A0_2 l0_2.length c0_2, .slice A0_3 l0_3.length c0_3] 31)) (.cells #[.string a1_0, .string a1_1] 48)
            rw [← hwy] at bel
            have bx := (Lib.alloc_old wy (.cells #[.bool false, .slice none 0 0, .slice none 0 0, .slice none 0 0] 31) w.heap.size (blk_lt b1y)).trans b1y
            have tx := heap_alloc_new wy (.cells #[.bool false, .slice none 0 0, .slice none 0 0, .slice none 0 0] 31)
            rw [← hwx] at bx tx
            rw [ny] at tx
            have BXX : Aside0 (Below w.heap.size w wx) := ⟨by rw [hwx]; exact below_alloc bel _⟩
            have TX := Aside0.mk tx
            have NX : Aside0 (wx.heap.size = (w.heap.size + 2) + 1) := ⟨by rw [hwx]; simp; omega⟩
            have HWX : Aside0 (wx = ((w.alloc (.cells #[.bool a0_0, .slice A0_1 l0_1.length c0_1, .slice A0_2 l0_2.length c0_2, .slice A0_3 l0_3.length c0_3] 31)).alloc (.cells #[.string a1_0, .string a1_1] 48)).alloc (.cells #[.bool false, .slice none 0 0, .slice none 0 0, .slice none 0 0] 31)) := ⟨by rw [hwx, hwy]⟩
            have b0 : wx.cell? ⟨w.heap.size, 0, none⟩ = some (.bool a0_0) := blk_cell bx 0
            have b1 : wx.cell? ⟨w.heap.size, 1, none⟩ = some (.slice A0_1 l0_1.length c0_1) := blk_cell bx 1
            have b2 : wx.cell? ⟨w.heap.size, 2, none⟩ = some (.slice A0_2 l0_2.length c0_2) := blk_cell bx 2
            have b3 : wx.cell? ⟨w.heap.size, 3, none⟩ = some (.slice A0_3 l0_3.length c0_3) := blk_cell bx 3
            have px := (Lib.alloc_old wy (.cells #[.bool false, .slice none 0 0, .slice none 0 0, .slice none 0 0] 31) (w.heap.size + 1) (blk_lt p0y)).trans p0y
            rw [← hwx] at px
            have q0 : wx.cell? ⟨w.heap.size + 1, 0, none⟩ = some (.string a1_0) := blk_cell px 0
            have q1 : wx.cell? ⟨w.heap.size + 1, 1, none⟩ = some (.string a1_1) := blk_cell px 1
            clear px p0y sy
            clear hwx hwy ny b0y b1y bel bx tx
            go_enter Try.func28, Try.ntmps28
            go_wp2_with fail
            rw [← HWX.out]
            refine (LF.out _ BXX.out).mono ?_
            rintro e w1 ⟨rfl, hB⟩
            have B1 := Aside0.mk (BXX.out.trans (hB.mono BXX.out.size))
            have t1 : w1.heap[(w.heap.size + 2)]? = some (.cells #[.bool false, .slice none 0 0, .slice none 0 0, .slice none 0 0] 31 (0, 0)) := (hB.block _ (by have := NX.out; omega)).trans TX.out
            have d0 := nd_cell hB b0
            have d1 := nd_cell hB b1
            have d2 := nd_cell hB b2
            have d3 := nd_cell hB b3
            have r0 := nd_cell hB q0
            have r1 := nd_cell hB q1
            clear b0 b1 b2 b3 q0 q1 hB

            go_wp2_with fail
            refine (KY.out _).mono ?_
            rintro e w2 ⟨rfl, hd⟩
            have hB := hd.below
            have B2 := Aside0.mk (B1.out.trans (hB.mono B1.out.size))
            have t2 : w2.heap[(w.heap.size + 2)]? = some (.cells #[.bool false, .slice none 0 0, .slice none 0 0, .slice none 0 0] 31 (0, 0)) := (hB.block _ (blk_lt t1)).trans t1
            have e0 := nd_cell hB d0
            have e1 := nd_cell hB d1
            have e2 := nd_cell hB d2
            have e3 := nd_cell hB d3
            have s0 := nd_cell hB r0
            have s1 := nd_cell hB r1
            clear d0 d1 d2 d3 r0 r1 hB hd t1

            have T2 := Aside0.mk t2
            have hz := blk_lt t2
            clear t2
            go_wp2_with fail
            refine (CL.out _ B2.out (by omega)).mono ?_
            rintro e w3 ⟨v0, rfl, hR, hB⟩
            have B3 := Aside0.mk (B2.out.trans (hB.mono B2.out.size))
            have t3 : w3.heap[(w.heap.size + 2)]? = some (.cells #[.bool false, .slice none 0 0, .slice none 0 0, .slice none 0 0] 31 (0, 0)) := (hB.block _ hz).trans T2.out
            have m0 := nd_cell hB s0
            have m1 := nd_cell hB s1
            have hZ := Aside0.mk hz
            have S3 := Aside0.mk hB.size
            obtain ⟨A, c, rfl⟩ := Kd.R_slice hR
            have R3 := Aside0.mk hR
            have hcl : l0_1.length ≤ c := (Kd.R_reads' hR).2.1
            have PA := Aside0.mk (node_pairAt.calls A c l0_1 a1_0 (k : Int) false w3 (Kd.R_reads' hR).2.2 hcl (by unfold node_pairAt.f; rw [HK.out, HBb.out]))
            clear hR hB hz s0 s1 e0 e1 e2 e3
            go_wp2_with fail
            refine PA.out.mono ?_
            rintro e w4 ⟨rfl, hB⟩
            have B4 := Aside0.mk (B3.out.trans (hB.mono B3.out.size))
            have S4 := Aside0.mk (Nat.le_trans S3.out hB.size)
            have t4 : w4.heap[(w.heap.size + 2)]? = some (.cells #[.bool false, .slice none 0 0, .slice none 0 0, .slice none 0 0] 31 (0, 0)) := (hB.block _ (blk_lt t3)).trans t3
            have n0 := nd_cell hB m0
            have n1 := nd_cell hB m1
            have R4 := Aside0.mk (Kd.R_below R3.out hB)
            clear hB m0 m1 t3 R3

            have T4 := Aside0.mk t4
            have kv := Aside0.mk (heap_alloc_new w4 (.cells #[.string a1_0, .string a1_1] 48))
            have bv := below_alloc (Below.refl w4.heap.size w4) (.cells #[.string a1_0, .string a1_1] 48)
            have INS := Aside0.mk (insert_one w2.heap.size A c l0_1 k w4.heap.size ⟨a1_0, a1_1⟩ _ (Kd.R_below R4.out bv) kv.out (fun a ha => by
              subst ha
              obtain ⟨_, h0 | ⟨g, cs, e, h1, h2, _⟩⟩ := R48_open R4.out
              · cases h0.1
              · cases e
                have := blk_lt h2
                show w4.heap.size ≠ g
                omega) (Nat.le_trans S4.out bv.size) (by omega) hkl)
            have BV := Aside0.mk bv
            clear t4 bv
            go_wp2_with fail
            refine INS.out.mono ?_
            rintro e w5 ⟨v5, rfl, hR, _, hB⟩
            obtain ⟨A5, c5, rfl⟩ := Kd.R_slice hR
            have t5 : w5.heap[(w.heap.size + 2)]? = some (.cells #[.bool false, .slice none 0 0, .slice none 0 0, .slice none 0 0] 31 (0, 0)) := (hB.block _ hZ.out).trans ((BV.out.block _ (blk_lt T4.out)).trans T4.out)
            have B5 := Aside0.mk ((B4.out.trans (BV.out.mono B4.out.size)).trans (hB.mono B2.out.size))
            have R5 := Aside0.mk hR
            clear hR hB n0 n1
            obtain ⟨n5, hn5⟩ : ∃ n, n = (l0_1.take k ++ (⟨a1_0, a1_1⟩ : S48) :: l0_1.drop k).length := ⟨_, rfl⟩
            rw [← hn5] at R5 ⊢
            clear hn5
            have c0 : w5.cell? ⟨(w.heap.size + 2), 0, none⟩ = some (.bool false) := blk_cell t5 0
            have c1 : w5.cell? ⟨(w.heap.size + 2), 1, none⟩ = some (.slice none 0 0) := blk_cell t5 1
            have c2 : w5.cell? ⟨(w.heap.size + 2), 2, none⟩ = some (.slice none 0 0) := blk_cell t5 2
            have c3 : w5.cell? ⟨(w.heap.size + 2), 3, none⟩ = some (.slice none 0 0) := blk_cell t5 3
            have f0 : w5.frozen? ⟨(w.heap.size + 2), 0, none⟩ = false := blk_frozen t5 0
            have f1 : w5.frozen? ⟨(w.heap.size + 2), 1, none⟩ = false := blk_frozen t5 1
            have f2 : w5.frozen? ⟨(w.heap.size + 2), 2, none⟩ = false := blk_frozen t5 2
            have f3 : w5.frozen? ⟨(w.heap.size + 2), 3, none⟩ = false := blk_frozen t5 3
            go_wp2
            have hg4 := nd_grown4 w5 (w.heap.size + 2) (.bool true) (.slice A5 n5 c5) (.slice none 0 0) (.slice none 0 0)
            refine bodyPost_ret (results_ct rfl _ _ (w.heap.size + 2) 31 #[.bool true, .slice A5 n5 c5, .slice none 0 0, .slice none 0 0] (0, 0) _ rfl (nd_put4 w5 (w.heap.size + 2) 31 _ _ _ _ (.bool true) (.slice A5 n5 c5) (.slice none 0 0) (.slice none 0 0) t5) Try.underlying31 rfl (by kernel_rfl)) rfl ?_
            exact ⟨_, _, _, rfl, Kd.R_lower (R_grown_far R5.out hg4 hZ.out) B2.out.size, Kd.R_nil _ _ _ _ _, Kd.R_nil _ _ _ _ _, nd_grown_below hg4 B5.out B5.out.size (by omega)⟩
        · rw [if_pos rfl] at h
          cases h
          have hk1 := hbk rfl
          clear hbk
          have p1 : (0 : Int) ≤ (k : Int) := by omega
          have q1' : (k : Int) < (l0_1.length : Int) := by omega
          obtain ⟨wy, hwy⟩ : ∃ wy, wy = ((w.alloc (.cells #[.bool a0_0, .slice A0_1 l0_1.length c0_1, .slice A0_2 l0_2.length c0_2, .slice A0_3 l0_3.length c0_3] 31)).alloc (.cells #[.string a1_0, .string a1_1] 48)) := ⟨_, rfl⟩
          obtain ⟨wx, hwx⟩ : ∃ wx, wx = wy.alloc (.cells #[.bool false, .slice none 0 0, .slice none 0 0, .slice none 0 0] 31) := ⟨_, rfl⟩
          have ny : wy.heap.size = (w.heap.size + 2) := by rw [hwy]; simp
          have b0y := heap_alloc_new w (.cells #[.bool a0_0, .slice A0_1 l0_1.length c0_1, .slice A0_2 l0_2.length c0_2, .slice A0_3 l0_3.length c0_3] 31)
          have p0y := heap_alloc_new (w.alloc (.cells #[.bool a0_0, .slice A0_1 l0_1.length c0_1, .slice A0_2 l0_2.length c0_2, .slice A0_3 l0_3.length c0_3] 31)) (.cells #[.string a1_0, .string a1_1] 48)
          have b1y := (Lib.alloc_old (w.alloc (.cells #[.bool a0_0, .slice A0_1 l0_1.length c0_1, .slice A0_2 l0_2.length c0_2, .slice A0_3 l0_3.length c0_3] 31)) (.cells #[.string a1_0, .string a1_1] 48) w.heap.size (blk_lt b0y)).trans b0y
          rw [← hwy] at p0y b1y
          have sy : (w.alloc (.cells #[.bool a0_0, .slice A0_1 l0_1.length c0_1, .slice A0_2 l0_2.length c0_2, .slice A0_3 l0_3.length c0_3] 31)).heap.size = w.heap.size + 1 := by simp
          rw [sy] at p0y
          have bel := below_alloc (below_alloc (Below.refl w.heap.size w) (.cells #[.bool a0_0, .slice A0_1 l0_1.length c0_1, .slice A0_2 l0_2.length c0_2, .slice A0_3 l0_3.length c0_3] 31)) (.cells #[.string a1_0, .string a1_1] 48)
          rw [← hwy] at bel
          have bx := (Lib.alloc_old wy (.cells #[.bool false, .slice none 0 0, .slice none 0 0, .slice none 0 0] 31) w.heap.size (blk_lt b1y)).trans b1y
          have tx := heap_alloc_new wy (.cells #[.bool false, .slice none 0 0, .slice none 0 0, .slice none 0 0] 31)
          rw [← hwx] at bx tx
          rw [ny] at tx
          have BXX : Aside0 (Below w.heap.size w wx) := ⟨by rw [hwx]; exact below_alloc bel _⟩
          have TX := Aside0.mk tx
          have NX : Aside0 (wx.heap.size = (w.heap.size + 2) + 1) := ⟨by rw [hwx]; simp; omega⟩
          have HWX : Aside0 (wx = ((w.alloc (.cells #[.bool a0_0, .slice A0_1 l0_1.length c0_1, .slice A0_2 l0_2.length c0_2, .slice A0_3 l0_3.length c0_3] 31)).alloc (.cells #[.string a1_0, .string a1_1] 48)).alloc (.cells #[.bool false, .slice none 0 0, .slice none 0 0, .slice none 0 0] 31)) := ⟨by rw [hwx, hwy]⟩
          have b0 : wx.cell? ⟨w.heap.size, 0, none⟩ = some (.bool a0_0) := blk_cell bx 0
          have b1 : wx.cell? ⟨w.heap.size, 1, none⟩ = some (.slice A0_1 l0_1.length c0_1) := blk_cell bx 1
          have b2 : wx.cell? ⟨w.heap.size, 2, none⟩ = some (.slice A0_2 l0_2.length c0_2) := blk_cell bx 2
          have b3 : wx.cell? ⟨w.heap.size, 3, none⟩ = some (.slice A0_3 l0_3.length c0_3) := blk_cell bx 3
          have px := (Lib.alloc_old wy (.cells #[.bool false, .slice none 0 0, .slice none 0 0, .slice none 0 0] 31) (w.heap.size + 1) (blk_lt p0y)).trans p0y
          rw [← hwx] at px
          have q0 : wx.cell? ⟨w.heap.size + 1, 0, none⟩ = some (.string a1_0) := blk_cell px 0
          have q1 : wx.cell? ⟨w.heap.size + 1, 1, none⟩ = some (.string a1_1) := blk_cell px 1
          clear px p0y sy
          clear hwx hwy ny b0y b1y bel bx tx
          go_enter Try.func28, Try.ntmps28
          go_wp2_with fail
          rw [← HWX.out]
          refine (LF.out _ BXX.out).mono ?_
          rintro e w1 ⟨rfl, hB⟩
          have B1 := Aside0.mk (BXX.out.trans (hB.mono BXX.out.size))
          have t1 : w1.heap[(w.heap.size + 2)]? = some (.cells #[.bool false, .slice none 0 0, .slice none 0 0, .slice none 0 0] 31 (0, 0)) := (hB.block _ (by have := NX.out; omega)).trans TX.out
          have d0 := nd_cell hB b0
          have d1 := nd_cell hB b1
          have d2 := nd_cell hB b2
          have d3 := nd_cell hB b3
          have r0 := nd_cell hB q0
          have r1 := nd_cell hB q1
          clear b0 b1 b2 b3 q0 q1 hB

          go_wp2_with fail
          refine (KY.out _).mono ?_
          rintro e w2 ⟨rfl, hd⟩
          have hB := hd.below
          have B2 := Aside0.mk (B1.out.trans (hB.mono B1.out.size))
          have t2 : w2.heap[(w.heap.size + 2)]? = some (.cells #[.bool false, .slice none 0 0, .slice none 0 0, .slice none 0 0] 31 (0, 0)) := (hB.block _ (blk_lt t1)).trans t1
          have e0 := nd_cell hB d0
          have e1 := nd_cell hB d1
          have e2 := nd_cell hB d2
          have e3 := nd_cell hB d3
          have s0 := nd_cell hB r0
          have s1 := nd_cell hB r1
          clear d0 d1 d2 d3 r0 r1 hB hd t1

          have T2 := Aside0.mk t2
          have hz := blk_lt t2
          clear t2
          go_wp2_with fail
          refine (CL.out _ B2.out (by omega)).mono ?_
          rintro e w3 ⟨v0, rfl, hR, hB⟩
          have B3 := Aside0.mk (B2.out.trans (hB.mono B2.out.size))
          have t3 : w3.heap[(w.heap.size + 2)]? = some (.cells #[.bool false, .slice none 0 0, .slice none 0 0, .slice none 0 0] 31 (0, 0)) := (hB.block _ hz).trans T2.out
          have m0 := nd_cell hB s0
          have m1 := nd_cell hB s1
          have hZ := Aside0.mk hz
          have S3 := Aside0.mk hB.size
          obtain ⟨A, c, rfl⟩ := Kd.R_slice hR
          have R3 := Aside0.mk hR
          have hcl : l0_1.length ≤ c := (Kd.R_reads' hR).2.1
          have PA := Aside0.mk (node_pairAt.calls A c l0_1 a1_0 (k : Int) true w3 (Kd.R_reads' hR).2.2 hcl (by unfold node_pairAt.f; rw [HK.out, HBb.out]))
          clear hR hB hz s0 s1 e0 e1 e2 e3
          go_wp2_with fail
          refine PA.out.mono ?_
          rintro e w4 ⟨rfl, hB⟩
          have B4 := Aside0.mk (B3.out.trans (hB.mono B3.out.size))
          have S4 := Aside0.mk (Nat.le_trans S3.out hB.size)
          have t4 : w4.heap[(w.heap.size + 2)]? = some (.cells #[.bool false, .slice none 0 0, .slice none 0 0, .slice none 0 0] 31 (0, 0)) := (hB.block _ (blk_lt t3)).trans t3
          have n0 := nd_cell hB m0
          have n1 := nd_cell hB m1
          have R4 := Aside0.mk (Kd.R_below R3.out hB)
          clear hB m0 m1 t3 R3

          obtain ⟨g, rfl, HG, x0, x1, y0, y1, HRP⟩ := R48_put (⟨a1_0, a1_1⟩ : S48) R4.out hk1
          have hgr : g ≠ (w.heap.size + 2) := by have := HG.out; have := hZ.out; omega
          have t5 : ((w4.setCell ⟨g, k * 2, none⟩ (.string a1_0)).setCell ⟨g, k * 2 + 1, none⟩ (.string a1_1)).heap[(w.heap.size + 2)]? = some (.cells #[.bool false, .slice none 0 0, .slice none 0 0, .slice none 0 0] 31 (0, 0)) := (Below.heap_setCell _ ⟨g, k * 2 + 1, none⟩ _ _ (fun e => hgr e.symm)).trans ((Below.heap_setCell _ ⟨g, k * 2, none⟩ _ _ (fun e => hgr e.symm)).trans t4)
          have B5 : Aside0 (Below w.heap.size w ((w4.setCell ⟨g, k * 2, none⟩ (.string a1_0)).setCell ⟨g, k * 2 + 1, none⟩ (.string a1_1))) := ⟨(B4.out.setCell (p := ⟨g, k * 2, none⟩) (Nat.le_trans B2.out.size HG.out) _).setCell (p := ⟨g, k * 2 + 1, none⟩) (Nat.le_trans B2.out.size HG.out) _⟩
          clear t4
          have c0 : ((w4.setCell ⟨g, k * 2, none⟩ (.string a1_0)).setCell ⟨g, k * 2 + 1, none⟩ (.string a1_1)).cell? ⟨(w.heap.size + 2), 0, none⟩ = some (.bool false) := blk_cell t5 0
          have c1 : ((w4.setCell ⟨g, k * 2, none⟩ (.string a1_0)).setCell ⟨g, k * 2 + 1, none⟩ (.string a1_1)).cell? ⟨(w.heap.size + 2), 1, none⟩ = some (.slice none 0 0) := blk_cell t5 1
          have c2 : ((w4.setCell ⟨g, k * 2, none⟩ (.string a1_0)).setCell ⟨g, k * 2 + 1, none⟩ (.string a1_1)).cell? ⟨(w.heap.size + 2), 2, none⟩ = some (.slice none 0 0) := blk_cell t5 2
          have c3 : ((w4.setCell ⟨g, k * 2, none⟩ (.string a1_0)).setCell ⟨g, k * 2 + 1, none⟩ (.string a1_1)).cell? ⟨(w.heap.size + 2), 3, none⟩ = some (.slice none 0 0) := blk_cell t5 3
          have f0 : ((w4.setCell ⟨g, k * 2, none⟩ (.string a1_0)).setCell ⟨g, k * 2 + 1, none⟩ (.string a1_1)).frozen? ⟨(w.heap.size + 2), 0, none⟩ = false := blk_frozen t5 0
          have f1 : ((w4.setCell ⟨g, k * 2, none⟩ (.string a1_0)).setCell ⟨g, k * 2 + 1, none⟩ (.string a1_1)).frozen? ⟨(w.heap.size + 2), 1, none⟩ = false := blk_frozen t5 1
          have f2 : ((w4.setCell ⟨g, k * 2, none⟩ (.string a1_0)).setCell ⟨g, k * 2 + 1, none⟩ (.string a1_1)).frozen? ⟨(w.heap.size + 2), 2, none⟩ = false := blk_frozen t5 2
          have f3 : ((w4.setCell ⟨g, k * 2, none⟩ (.string a1_0)).setCell ⟨g, k * 2 + 1, none⟩ (.string a1_1)).frozen? ⟨(w.heap.size + 2), 3, none⟩ = false := blk_frozen t5 3
          go_wp2
          have hg4 := nd_grown4 ((w4.setCell ⟨g, k * 2, none⟩ (.string a1_0)).setCell ⟨g, k * 2 + 1, none⟩ (.string a1_1)) (w.heap.size + 2) (.bool true) (.slice (some ⟨g, 0, none⟩) l0_1.length c) (.slice none 0 0) (.slice none 0 0)
          refine bodyPost_ret (results_ct rfl _ _ (w.heap.size + 2) 31 #[.bool true, .slice (some ⟨g, 0, none⟩) l0_1.length c, .slice none 0 0, .slice none 0 0] (0, 0) _ rfl (nd_put4 ((w4.setCell ⟨g, k * 2, none⟩ (.string a1_0)).setCell ⟨g, k * 2 + 1, none⟩ (.string a1_1)) (w.heap.size + 2) 31 _ _ _ _ (.bool true) (.slice (some ⟨g, 0, none⟩) l0_1.length c) (.slice none 0 0) (.slice none 0 0) t5) Try.underlying31 rfl (by kernel_rfl)) rfl ?_
          exact ⟨_, _, _, rfl, Kd.R_lower (R_grown_far HRP.out hg4 hZ.out) B2.out.size, Kd.R_nil _ _ _ _ _, Kd.R_nil _ _ _ _ _, nd_grown_below hg4 B5.out B5.out.size (by omega)⟩
      · rw [if_neg (fun h => hv h.2.2)] at h
        cases h
        have hv1 : decide ((48 : Int) < (a1_1.size : Int)) = true := decide_eq_true (by omega)
        have hv2 : (48 : Int) < (a1_1.size : Int) := by omega
        clear hv
        obtain ⟨wy, hwy⟩ : ∃ wy, wy = ((w.alloc (.cells #[.bool a0_0, .slice A0_1 l0_1.length c0_1, .slice A0_2 l0_2.length c0_2, .slice A0_3 l0_3.length c0_3] 31)).alloc (.cells #[.string a1_0, .string a1_1] 48)) := ⟨_, rfl⟩
        obtain ⟨wx, hwx⟩ : ∃ wx, wx = wy.alloc (.cells #[.bool false, .slice none 0 0, .slice none 0 0, .slice none 0 0] 31) := ⟨_, rfl⟩
        have ny : wy.heap.size = (w.heap.size + 2) := by rw [hwy]; simp
        have b0y := heap_alloc_new w (.cells #[.bool a0_0, .slice A0_1 l0_1.length c0_1, .slice A0_2 l0_2.length c0_2, .slice A0_3 l0_3.length c0_3] 31)
        have p0y := heap_alloc_new (w.alloc (.cells #[.bool a0_0, .slice A0_1 l0_1.length c0_1, .slice A0_2 l0_2.length c0_2, .slice A0_3 l0_3.length c0_3] 31)) (.cells #[.string a1_0, .string a1_1] 48)
        have b1y := (Lib.alloc_old (w.alloc (.cells #[.bool a0_0, .slice A0_1 l0_1.length c0_1, .slice A0_2 l0_2.length c0_2, .slice A0_3 l0_3.length c0_3] 31)) (.cells #[.string a1_0, .string a1_1] 48) w.heap.size (blk_lt b0y)).trans b0y
        rw [← hwy] at p0y b1y
        have sy : (w.alloc (.cells #[.bool a0_0, .slice A0_1 l0_1.length c0_1, .slice A0_2 l0_2.length c0_2, .slice A0_3 l0_3.length c0_3] 31)).heap.size = w.heap.size + 1 := by simp
        rw [sy] at p0y
        have bel := below_alloc (below_alloc (Below.refl w.heap.size w) (.cells #[.bool a0_0, .slice A0_1 l0_1.length c0_1, .slice A0_2 l0_2.length c0_2, .slice A0_3 l0_3.length c0_3] 31)) (.cells #[.string a1_0, .string a1_1] 48)
        rw [← hwy] at bel
        have bx := (Lib.alloc_old wy (.cells #[.bool false, .slice none 0 0, .slice none 0 0, .slice none 0 0] 31) w.heap.size (blk_lt b1y)).trans b1y
        have tx := heap_alloc_new wy (.cells #[.bool false, .slice none 0 0, .slice none 0 0, .slice none 0 0] 31)
        rw [← hwx] at bx tx
        rw [ny] at tx
        have BXX : Aside0 (Below w.heap.size w wx) := ⟨by rw [hwx]; exact below_alloc bel _⟩
        have TX := Aside0.mk tx
        have NX : Aside0 (wx.heap.size = (w.heap.size + 2) + 1) := ⟨by rw [hwx]; simp; omega⟩
        have HWX : Aside0 (wx = ((w.alloc (.cells #[.bool a0_0, .slice A0_1 l0_1.length c0_1, .slice A0_2 l0_2.length c0_2, .slice A0_3 l0_3.length c0_3] 31)).alloc (.cells #[.string a1_0, .string a1_1] 48)).alloc (.cells #[.bool false, .slice none 0 0, .slice none 0 0, .slice none 0 0] 31)) := ⟨by rw [hwx, hwy]⟩
        have b0 : wx.cell? ⟨w.heap.size, 0, none⟩ = some (.bool a0_0) := blk_cell bx 0
        have b1 : wx.cell? ⟨w.heap.size, 1, none⟩ = some (.slice A0_1 l0_1.length c0_1) := blk_cell bx 1
        have b2 : wx.cell? ⟨w.heap.size, 2, none⟩ = some (.slice A0_2 l0_2.length c0_2) := blk_cell bx 2
        have b3 : wx.cell? ⟨w.heap.size, 3, none⟩ = some (.slice A0_3 l0_3.length c0_3) := blk_cell bx 3
        have px := (Lib.alloc_old wy (.cells #[.bool false, .slice none 0 0, .slice none 0 0, .slice none 0 0] 31) (w.heap.size + 1) (blk_lt p0y)).trans p0y
        rw [← hwx] at px
        have q0 : wx.cell? ⟨w.heap.size + 1, 0, none⟩ = some (.string a1_0) := blk_cell px 0
        have q1 : wx.cell? ⟨w.heap.size + 1, 1, none⟩ = some (.string a1_1) := blk_cell px 1
        clear px p0y sy
        clear hwx hwy ny b0y b1y bel bx tx
        go_enter Try.func28, Try.ntmps28
        go_wp2_with fail
        rw [← HWX.out]
        refine (LF.out _ BXX.out).mono ?_
        rintro e w1 ⟨rfl, hB⟩
        have B1 := Aside0.mk (BXX.out.trans (hB.mono BXX.out.size))
        have t1 : w1.heap[(w.heap.size + 2)]? = some (.cells #[.bool false, .slice none 0 0, .slice none 0 0, .slice none 0 0] 31 (0, 0)) := (hB.block _ (by have := NX.out; omega)).trans TX.out
        have d0 := nd_cell hB b0
        have d1 := nd_cell hB b1
        have d2 := nd_cell hB b2
        have d3 := nd_cell hB b3
        have r0 := nd_cell hB q0
        have r1 := nd_cell hB q1
        clear b0 b1 b2 b3 q0 q1 hB

        go_wp2_with fail
        refine (KY.out _).mono ?_
        rintro e w2 ⟨rfl, hd⟩
        have hB := hd.below
        have B2 := Aside0.mk (B1.out.trans (hB.mono B1.out.size))
        have t2 : w2.heap[(w.heap.size + 2)]? = some (.cells #[.bool false, .slice none 0 0, .slice none 0 0, .slice none 0 0] 31 (0, 0)) := (hB.block _ (blk_lt t1)).trans t1
        have e0 := nd_cell hB d0
        have e1 := nd_cell hB d1
        have e2 := nd_cell hB d2
        have e3 := nd_cell hB d3
        have s0 := nd_cell hB r0
        have s1 := nd_cell hB r1
        clear d0 d1 d2 d3 r0 r1 hB hd t1

        have c0 : w2.cell? ⟨(w.heap.size + 2), 0, none⟩ = some (.bool false) := blk_cell t2 0
        have c1 : w2.cell? ⟨(w.heap.size + 2), 1, none⟩ = some (.slice none 0 0) := blk_cell t2 1
        have c2 : w2.cell? ⟨(w.heap.size + 2), 2, none⟩ = some (.slice none 0 0) := blk_cell t2 2
        have c3 : w2.cell? ⟨(w.heap.size + 2), 3, none⟩ = some (.slice none 0 0) := blk_cell t2 3
        have f0 : w2.frozen? ⟨(w.heap.size + 2), 0, none⟩ = false := blk_frozen t2 0
        have f1 : w2.frozen? ⟨(w.heap.size + 2), 1, none⟩ = false := blk_frozen t2 1
        have f2 : w2.frozen? ⟨(w.heap.size + 2), 2, none⟩ = false := blk_frozen t2 2
        have f3 : w2.frozen? ⟨(w.heap.size + 2), 3, none⟩ = false := blk_frozen t2 3
        go_wp2
        have hg4 := nd_grown4 w2 (w.heap.size + 2) (.bool false) (.slice none 0 0) (.slice none 0 0) (.slice none 0 0)
        refine bodyPost_ret (results_ct rfl _ _ (w.heap.size + 2) 31 #[.bool false, .slice none 0 0, .slice none 0 0, .slice none 0 0] (0, 0) _ rfl (nd_put4 w2 (w.heap.size + 2) 31 _ _ _ _ (.bool false) (.slice none 0 0) (.slice none 0 0) (.slice none 0 0) t2) Try.underlying31 rfl (by kernel_rfl)) rfl ?_
        exact ⟨_, _, _, rfl, Kd.R_nil _ _ _ _ _, Kd.R_nil _ _ _ _ _, Kd.R_nil _ _ _ _ _, nd_grown_below hg4 B2.out B2.out.size (by omega)⟩
    · rw [if_neg (fun h => hk h.2.1)] at h
      cases h
      rw [Bool.not_eq_true] at hk
      rw [hk] at KY
      clear hk
      obtain ⟨wy, hwy⟩ : ∃ wy, wy = ((w.alloc (.cells #[.bool a0_0, .slice A0_1 l0_1.length c0_1, .slice A0_2 l0_2.length c0_2, .slice A0_3 l0_3.length c0_3] 31)).alloc (.cells #[.string a1_0, .string a1_1] 48)) := ⟨_, rfl⟩
      obtain ⟨wx, hwx⟩ : ∃ wx, wx = wy.alloc (.cells #[.bool false, .slice none 0 0, .slice none 0 0, .slice none 0 0] 31) := ⟨_, rfl⟩
      have ny : wy.heap.size = (w.heap.size + 2) := by rw [hwy]; simp
      have b0y := heap_alloc_new w (.cells #[.bool a0_0, .slice A0_1 l0_1.length c0_1, .slice A0_2 l0_2.length c0_2, .slice A0_3 l0_3.length c0_3] 31)
      have p0y := heap_alloc_new (w.alloc (.cells #[.bool a0_0, .slice A0_1 l0_1.length c0_1, .slice A0_2 l0_2.length c0_2, .slice A0_3 l0_3.length c0_3] 31)) (.cells #[.string a1_0, .string a1_1] 48)
      have b1y := (Lib.alloc_old (w.alloc (.cells #[.bool a0_0, .slice A0_1 l0_1.length c0_1, .slice A0_2 l0_2.length c0_2, .slice A0_3 l0_3.length c0_3] 31)) (.cells #[.string a1_0, .string a1_1] 48) w.heap.size (blk_lt b0y)).trans b0y
      rw [← hwy] at p0y b1y
      have sy : (w.alloc (.cells #[.bool a0_0, .slice A0_1 l0_1.length c0_1, .slice A0_2 l0_2.length c0_2, .slice A0_3 l0_3.length c0_3] 31)).heap.size = w.heap.size + 1 := by simp
      rw [sy] at p0y
      have bel := below_alloc (below_alloc (Below.refl w.heap.size w) (.cells #[.bool a0_0, .slice A0_1 l0_1.length c0_1, .slice A0_2 l0_2.length c0_2, .slice A0_3 l0_3.length c0_3] 31)) (.cells #[.string a1_0, .string a1_1] 48)
      rw [← hwy] at bel
      have bx := (Lib.alloc_old wy (.cells #[.bool false, .slice none 0 0, .slice none 0 0, .slice none 0 0] 31) w.heap.size (blk_lt b1y)).trans b1y
      have tx := heap_alloc_new wy (.cells #[.bool false, .slice none 0 0, .slice none 0 0, .slice none 0 0] 31)
      rw [← hwx] at bx tx
      rw [ny] at tx
      have BXX : Aside0 (Below w.heap.size w wx) := ⟨by rw [hwx]; exact below_alloc bel _⟩
      have TX := Aside0.mk tx
      have NX : Aside0 (wx.heap.size = (w.heap.size + 2) + 1) := ⟨by rw [hwx]; simp; omega⟩
      have HWX : Aside0 (wx = ((w.alloc (.cells #[.bool a0_0, .slice A0_1 l0_1.length c0_1, .slice A0_2 l0_2.length c0_2, .slice A0_3 l0_3.length c0_3] 31)).alloc (.cells #[.string a1_0, .string a1_1] 48)).alloc (.cells #[.bool false, .slice none 0 0, .slice none 0 0, .slice none 0 0] 31)) := ⟨by rw [hwx, hwy]⟩
      have b0 : wx.cell? ⟨w.heap.size, 0, none⟩ = some (.bool a0_0) := blk_cell bx 0
      have b1 : wx.cell? ⟨w.heap.size, 1, none⟩ = some (.slice A0_1 l0_1.length c0_1) := blk_cell bx 1
      have b2 : wx.cell? ⟨w.heap.size, 2, none⟩ = some (.slice A0_2 l0_2.length c0_2) := blk_cell bx 2
      have b3 : wx.cell? ⟨w.heap.size, 3, none⟩ = some (.slice A0_3 l0_3.length c0_3) := blk_cell bx 3
      have px := (Lib.alloc_old wy (.cells #[.bool false, .slice none 0 0, .slice none 0 0, .slice none 0 0] 31) (w.heap.size + 1) (blk_lt p0y)).trans p0y
      rw [← hwx] at px
      have q0 : wx.cell? ⟨w.heap.size + 1, 0, none⟩ = some (.string a1_0) := blk_cell px 0
      have q1 : wx.cell? ⟨w.heap.size + 1, 1, none⟩ = some (.string a1_1) := blk_cell px 1
      clear px p0y sy
      clear hwx hwy ny b0y b1y bel bx tx
      go_enter Try.func28, Try.ntmps28
      go_wp2_with fail
      rw [← HWX.out]
      refine (LF.out _ BXX.out).mono ?_
      rintro e w1 ⟨rfl, hB⟩
      have B1 := Aside0.mk (BXX.out.trans (hB.mono BXX.out.size))
      have t1 : w1.heap[(w.heap.size + 2)]? = some (.cells #[.bool false, .slice none 0 0, .slice none 0 0, .slice none 0 0] 31 (0, 0)) := (hB.block _ (by have := NX.out; omega)).trans TX.out
      have d0 := nd_cell hB b0
      have d1 := nd_cell hB b1
      have d2 := nd_cell hB b2
      have d3 := nd_cell hB b3
      have r0 := nd_cell hB q0
      have r1 := nd_cell hB q1
      clear b0 b1 b2 b3 q0 q1 hB

      go_wp2_with fail
      refine (KY.out _).mono ?_
      rintro e w2 ⟨rfl, hd⟩
      have hB := hd.below
      have B2 := Aside0.mk (B1.out.trans (hB.mono B1.out.size))
      have t2 : w2.heap[(w.heap.size + 2)]? = some (.cells #[.bool false, .slice none 0 0, .slice none 0 0, .slice none 0 0] 31 (0, 0)) := (hB.block _ (blk_lt t1)).trans t1
      have e0 := nd_cell hB d0
      have e1 := nd_cell hB d1
      have e2 := nd_cell hB d2
      have e3 := nd_cell hB d3
      have s0 := nd_cell hB r0
      have s1 := nd_cell hB r1
      clear d0 d1 d2 d3 r0 r1 hB hd t1

      have c0 : w2.cell? ⟨(w.heap.size + 2), 0, none⟩ = some (.bool false) := blk_cell t2 0
      have c1 : w2.cell? ⟨(w.heap.size + 2), 1, none⟩ = some (.slice none 0 0) := blk_cell t2 1
      have c2 : w2.cell? ⟨(w.heap.size + 2), 2, none⟩ = some (.slice none 0 0) := blk_cell t2 2
      have c3 : w2.cell? ⟨(w.heap.size + 2), 3, none⟩ = some (.slice none 0 0) := blk_cell t2 3
      have f0 : w2.frozen? ⟨(w.heap.size + 2), 0, none⟩ = false := blk_frozen t2 0
      have f1 : w2.frozen? ⟨(w.heap.size + 2), 1, none⟩ = false := blk_frozen t2 1
      have f2 : w2.frozen? ⟨(w.heap.size + 2), 2, none⟩ = false := blk_frozen t2 2
      have f3 : w2.frozen? ⟨(w.heap.size + 2), 3, none⟩ = false := blk_frozen t2 3
      go_wp2
      have hg4 := nd_grown4 w2 (w.heap.size + 2) (.bool false) (.slice none 0 0) (.slice none 0 0) (.slice none 0 0)
      refine bodyPost_ret (results_ct rfl _ _ (w.heap.size + 2) 31 #[.bool false, .slice none 0 0, .slice none 0 0, .slice none 0 0] (0, 0) _ rfl (nd_put4 w2 (w.heap.size + 2) 31 _ _ _ _ (.bool false) (.slice none 0 0) (.slice none 0 0) (.slice none 0 0) t2) Try.underlying31 rfl (by kernel_rfl)) rfl ?_
      exact ⟨_, _, _, rfl, Kd.R_nil _ _ _ _ _, Kd.R_nil _ _ _ _ _, Kd.R_nil _ _ _ _ _, nd_grown_below hg4 B2.out B2.out.size (by omega)⟩
  · rw [if_neg (fun h => hl h.1)] at h
    cases h
    rw [Bool.not_eq_true] at hl
    rw [hl] at LF
    clear hl
    obtain ⟨wy, hwy⟩ : ∃ wy, wy = ((w.alloc (.cells #[.bool a0_0, .slice A0_1 l0_1.length c0_1, .slice A0_2 l0_2.length c0_2, .slice A0_3 l0_3.length c0_3] 31)).alloc (.cells #[.string a1_0, .string a1_1] 48)) := ⟨_, rfl⟩
    obtain ⟨wx, hwx⟩ : ∃ wx, wx = wy.alloc (.cells #[.bool false, .slice none 0 0, .slice none 0 0, .slice none 0 0] 31) := ⟨_, rfl⟩
    have ny : wy.heap.size = (w.heap.size + 2) := by rw [hwy]; simp
    have b0y := heap_alloc_new w (.cells #[.bool a0_0, .slice A0_1 l0_1.length c0_1, .slice A0_2 l0_2.length c0_2, .slice A0_3 l0_3.length c0_3] 31)
    have p0y := heap_alloc_new (w.alloc (.cells #[.bool a0_0, .slice A0_1 l0_1.length c0_1, .slice A0_2 l0_2.length c0_2, .slice A0_3 l0_3.length c0_3] 31)) (.cells #[.string a1_0, .string a1_1] 48)
    have b1y := (Lib.alloc_old (w.alloc (.cells #[.bool a0_0, .slice A0_1 l0_1.length c0_1, .slice A0_2 l0_2.length c0_2, .slice A0_3 l0_3.length c0_3] 31)) (.cells #[.string a1_0, .string a1_1] 48) w.heap.size (blk_lt b0y)).trans b0y
    rw [← hwy] at p0y b1y
    have sy : (w.alloc (.cells #[.bool a0_0, .slice A0_1 l0_1.length c0_1, .slice A0_2 l0_2.length c0_2, .slice A0_3 l0_3.length c0_3] 31)).heap.size = w.heap.size + 1 := by simp
    rw [sy] at p0y
    have bel := below_alloc (below_alloc (Below.refl w.heap.size w) (.cells #[.bool a0_0, .slice A0_1 l0_1.length c0_1, .slice A0_2 l0_2.length c0_2, .slice A0_3 l0_3.length c0_3] 31)) (.cells #[.string a1_0, .string a1_1] 48)
    rw [← hwy] at bel
    have bx := (Lib.alloc_old wy (.cells #[.bool false, .slice none 0 0, .slice none 0 0, .slice none 0 0] 31) w.heap.size (blk_lt b1y)).trans b1y
    have tx := heap_alloc_new wy (.cells #[.bool false, .slice none 0 0, .slice none 0 0, .slice none 0 0] 31)
    rw [← hwx] at bx tx
    rw [ny] at tx
    have BXX : Aside0 (Below w.heap.size w wx) := ⟨by rw [hwx]; exact below_alloc bel _⟩
    have TX := Aside0.mk tx
    have NX : Aside0 (wx.heap.size = (w.heap.size + 2) + 1) := ⟨by rw [hwx]; simp; omega⟩
    have HWX : Aside0 (wx = ((w.alloc (.cells #[.bool a0_0, .slice A0_1 l0_1.length c0_1, .slice A0_2 l0_2.length c0_2, .slice A0_3 l0_3.length c0_3] 31)).alloc (.cells #[.string a1_0, .string a1_1] 48)).alloc (.cells #[.bool false, .slice none 0 0, .slice none 0 0, .slice none 0 0] 31)) := ⟨by rw [hwx, hwy]⟩
    have b0 : wx.cell? ⟨w.heap.size, 0, none⟩ = some (.bool a0_0) := blk_cell bx 0
    have b1 : wx.cell? ⟨w.heap.size, 1, none⟩ = some (.slice A0_1 l0_1.length c0_1) := blk_cell bx 1
    have b2 : wx.cell? ⟨w.heap.size, 2, none⟩ = some (.slice A0_2 l0_2.length c0_2) := blk_cell bx 2
    have b3 : wx.cell? ⟨w.heap.size, 3, none⟩ = some (.slice A0_3 l0_3.length c0_3) := blk_cell bx 3
    have px := (Lib.alloc_old wy (.cells #[.bool false, .slice none 0 0, .slice none 0 0, .slice none 0 0] 31) (w.heap.size + 1) (blk_lt p0y)).trans p0y
    rw [← hwx] at px
    have q0 : wx.cell? ⟨w.heap.size + 1, 0, none⟩ = some (.string a1_0) := blk_cell px 0
    have q1 : wx.cell? ⟨w.heap.size + 1, 1, none⟩ = some (.string a1_1) := blk_cell px 1
    clear px p0y sy
    clear hwx hwy ny b0y b1y bel bx tx
    go_enter Try.func28, Try.ntmps28
    go_wp2_with fail
    rw [← HWX.out]
    refine (LF.out _ BXX.out).mono ?_
    rintro e w1 ⟨rfl, hB⟩
    have B1 := Aside0.mk (BXX.out.trans (hB.mono BXX.out.size))
    have t1 : w1.heap[(w.heap.size + 2)]? = some (.cells #[.bool false, .slice none 0 0, .slice none 0 0, .slice none 0 0] 31 (0, 0)) := (hB.block _ (by have := NX.out; omega)).trans TX.out
    have d0 := nd_cell hB b0
    have d1 := nd_cell hB b1
    have d2 := nd_cell hB b2
    have d3 := nd_cell hB b3
    have r0 := nd_cell hB q0
    have r1 := nd_cell hB q1
    clear b0 b1 b2 b3 q0 q1 hB

    have c0 : w1.cell? ⟨(w.heap.size + 2), 0, none⟩ = some (.bool false) := blk_cell t1 0
    have c1 : w1.cell? ⟨(w.heap.size + 2), 1, none⟩ = some (.slice none 0 0) := blk_cell t1 1
    have c2 : w1.cell? ⟨(w.heap.size + 2), 2, none⟩ = some (.slice none 0 0) := blk_cell t1 2
    have c3 : w1.cell? ⟨(w.heap.size + 2), 3, none⟩ = some (.slice none 0 0) := blk_cell t1 3
    have f0 : w1.frozen? ⟨(w.heap.size + 2), 0, none⟩ = false := blk_frozen t1 0
    have f1 : w1.frozen? ⟨(w.heap.size + 2), 1, none⟩ = false := blk_frozen t1 1
    have f2 : w1.frozen? ⟨(w.heap.size + 2), 2, none⟩ = false := blk_frozen t1 2
    have f3 : w1.frozen? ⟨(w.heap.size + 2), 3, none⟩ = false := blk_frozen t1 3
    go_wp2
    have hg4 := nd_grown4 w1 (w.heap.size + 2) (.bool false) (.slice none 0 0) (.slice none 0 0) (.slice none 0 0)
    refine bodyPost_ret (results_ct rfl _ _ (w.heap.size + 2) 31 #[.bool false, .slice none 0 0, .slice none 0 0, .slice none 0 0] (0, 0) _ rfl (nd_put4 w1 (w.heap.size + 2) 31 _ _ _ _ (.bool false) (.slice none 0 0) (.slice none 0 0) (.slice none 0 0) t1) Try.underlying31 rfl (by kernel_rfl)) rfl ?_
    exact ⟨_, _, _, rfl, Kd.R_nil _ _ _ _ _, Kd.R_nil _ _ _ _ _, Kd.R_nil _ _ _ _ _, nd_grown_below hg4 B1.out B1.out.size (by omega)⟩
end
end Go.Proofs.Ytjjfeoigjhbbpaa.PA
namespace Go.Proofs.Ytjjfeoigjhbbpaa.PA
section

open Go.RowKit Go.Proofs.YtjjfeoigjhbbpaaW.PrintWords Go.Proofs.YtjjfeoigjhbbpaaW.PrintLast Go.Proofs.YtjjfeoigjhbbpaaW.PrintMore
attribute [local go_sem] pr_leq pr_geq pr_gtr max2_int min2_int max_two min_two max_three min_three max_four min_four
set_option linter.unusedVariables false
set_option linter.unusedSimpArgs false
def cmp_Less_string.f (a0 : ByteArray) (a1 : ByteArray) : Option (Bool) := (cmp_isNaN_string.f a0).bind fun t352 => (if t352 = true then ((cmp_isNaN_string.f a1).bind fun t353 => (if t353 = true then (some (Op.bytesLess a0.toList a1.toList)) else (some true))) else (some (Op.bytesLess a0.toList a1.toList)))
set_option maxHeartbeats 8000000 in
set_option maxRecDepth 100000 in
theorem cmp_Less_string.calls (a0 : ByteArray) (a1 : ByteArray) (r : Bool) (w : World) (h : cmp_Less_string.f a0 a1 = some r) :
    Calls Try.prog 79 #[.string a0, .string a1] w fun e w' => e = .returned (.bool r) ∧ Drawn0 w w' := by
  have H : ((cmp_isNaN_string.f a0).bind fun t352 => (if t352 = true then ((cmp_isNaN_string.f a1).bind fun t353 => (if t353 = true then (some (Op.bytesLess a0.toList a1.toList)) else (some true))) else (some (Op.bytesLess a0.toList a1.toList)))) = some r := h
  clear h
  replace H := Option.bind_eq_some_iff.mp H
  obtain ⟨t352, A30, H⟩ := H
  replace H : (if t352 = true then ((cmp_isNaN_string.f a1).bind fun t353 => (if t353 = true then (some (Op.bytesLess a0.toList a1.toList)) else (some true))) else (some (Op.bytesLess a0.toList a1.toList))) = some r := H
  have A3 := Aside0.mk A30
  clear A30
  by_cases c4 : t352 = true
  · subst c4
    have H1 : ((cmp_isNaN_string.f a1).bind fun t353 => (if t353 = true then (some (Op.bytesLess a0.toList a1.toList)) else (some true))) = some r := by rw [if_pos rfl] at H; exact H
    clear H
    have H := H1
    clear H1
    replace H := Option.bind_eq_some_iff.mp H
    obtain ⟨t353, A50, H⟩ := H
    replace H : (if t353 = true then (some (Op.bytesLess a0.toList a1.toList)) else (some true)) = some r := H
    have A5 := Aside0.mk A50
    clear A50
    by_cases c6 : t353 = true
    · subst c6
      have H1 : (some (Op.bytesLess a0.toList a1.toList)) = some r := by rw [if_pos rfl] at H; exact H
      clear H
      have H := H1
      clear H1
      obtain rfl := Option.some.inj H
      go_enter Try.func79, Try.ntmps79
      go_wp2_with (first | ((with_reducible refine gate_callee (f := 86) rfl ?_); refine goesL_ (some 6) rfl rfl Try.func86 (by kernel_rfl) rfl #[.string a0] rfl (by (try simp only [List.map_toArray, List.map_cons, List.map_nil]); first | done | rfl | (simp only [List.length_drop, List.length_take]; rfl)) ?_; (with_reducible refine (cmp_isNaN_string.calls a0 true _ A3.out).mono ?_); rintro e w' ⟨rfl, ⟨nd, rfl⟩⟩; refine ⟨_, rfl, ?_⟩) | (go_at_call 86; (with_reducible refine (cmp_isNaN_string.calls a1 true _ A5.out).mono ?_); rintro e w' ⟨rfl, ⟨nd, rfl⟩⟩))
      go_ret
      exact ⟨by first | rfl | (simp; done) | (simp [*]; done), by repeat (first | exact Drawn0.refl _ | apply Drawn0.step)⟩
    · replace c6 := Bool.eq_false_iff.mpr c6
      subst c6
      have H1 : (some true) = some r := by rw [if_neg (show ¬ (false = true) by decide)] at H; exact H
      clear H
      have H := H1
      clear H1
      obtain rfl := Option.some.inj H
      go_enter Try.func79, Try.ntmps79
      go_wp2_with (first | ((with_reducible refine gate_callee (f := 86) rfl ?_); refine goesL_ (some 6) rfl rfl Try.func86 (by kernel_rfl) rfl #[.string a0] rfl (by (try simp only [List.map_toArray, List.map_cons, List.map_nil]); first | done | rfl | (simp only [List.length_drop, List.length_take]; rfl)) ?_; (with_reducible refine (cmp_isNaN_string.calls a0 true _ A3.out).mono ?_); rintro e w' ⟨rfl, ⟨nd, rfl⟩⟩; refine ⟨_, rfl, ?_⟩) | (go_at_call 86; (with_reducible refine (cmp_isNaN_string.calls a1 false _ A5.out).mono ?_); rintro e w' ⟨rfl, ⟨nd, rfl⟩⟩))
      go_ret
      exact ⟨by first | rfl | (simp; done) | (simp [*]; done), by repeat (first | exact Drawn0.refl _ | apply Drawn0.step)⟩
  · replace c4 := Bool.eq_false_iff.mpr c4
    subst c4
    have H1 : (some (Op.bytesLess a0.toList a1.toList)) = some r := by rw [if_neg (show ¬ (false = true) by decide)] at H; exact H
    clear H
    have H := H1
    clear H1
    obtain rfl := Option.some.inj H
    go_enter Try.func79, Try.ntmps79
    go_wp2_with (first | ((with_reducible refine gate_callee (f := 86) rfl ?_); refine goesL_ (some 6) rfl rfl Try.func86 (by kernel_rfl) rfl #[.string a0] rfl (by (try simp only [List.map_toArray, List.map_cons, List.map_nil]); first | done | rfl | (simp only [List.length_drop, List.length_take]; rfl)) ?_; (with_reducible refine (cmp_isNaN_string.calls a0 false _ A3.out).mono ?_); rintro e w' ⟨rfl, ⟨nd, rfl⟩⟩; refine ⟨_, rfl, ?_⟩))
    go_ret
    exact ⟨by first | rfl | (simp; done) | (simp [*]; done), by repeat (first | exact Drawn0.refl _ | apply Drawn0.step)⟩
def slices_isNaN_string.f (a0 : ByteArray) : Option (Bool) := some (a0.toList != a0.toList)
set_option maxHeartbeats 8000000 in
set_option maxRecDepth 100000 in
theorem slices_isNaN_string.calls (a0 : ByteArray) (r : Bool) (w : World) (h : slices_isNaN_string.f a0 = some r) :
    Calls Try.prog 80 #[.string a0] w fun e w' => e = .returned (.bool r) ∧ Drawn0 w w' := by
  have H : (some (a0.toList != a0.toList)) = some r := h
  clear h
  obtain rfl := Option.some.inj H
  go_enter Try.func80, Try.ntmps80
  go_wp2
  go_ret
  exact ⟨by first | rfl | (simp; done) | (simp [*]; done), by repeat (first | exact Drawn0.refl _ | apply Drawn0.step)⟩
end
end Go.Proofs.Ytjjfeoigjhbbpaa.PA
namespace Go.Proofs.Ytjjfeoigjhbbpaa.PA
section

open Go.RowKit Go.Proofs.YtjjfeoigjhbbpaaW.PrintWords Go.Proofs.YtjjfeoigjhbbpaaW.PrintLast Go.Proofs.YtjjfeoigjhbbpaaW.PrintMore
attribute [local go_sem] pr_leq pr_geq pr_gtr max2_int min2_int max_two min_two max_three min_three max_four min_four
set_option linter.unusedVariables false
set_option linter.unusedSimpArgs false
def slices_BinarySearch_string_string.l0 : Nat → List ByteArray → ByteArray → Int → Int → Int → Option (Int × Bool)
  | 0, _, _, _, _, _ => none
  | k + 1, x0, x1, x6, x7, x8 => if x7 < x8 then (if 0 ≤ (wrap64 ((IntKind.u64.wrap (wrap64 (x7 + x8))) / 2)) then (if (wrap64 ((IntKind.u64.wrap (wrap64 (x7 + x8))) / 2)) < (x0.length : Int) then ((cmp_Less_string.f (rdOf ByteArray.empty x0 (wrap64 ((IntKind.u64.wrap (wrap64 (x7 + x8))) / 2))) x1).bind fun t355 => (if t355 = true then (slices_BinarySearch_string_string.l0 k x0 x1 x6 (wrap64 ((wrap64 ((IntKind.u64.wrap (wrap64 (x7 + x8))) / 2)) + 1)) x8) else (slices_BinarySearch_string_string.l0 k x0 x1 x6 x7 (wrap64 ((IntKind.u64.wrap (wrap64 (x7 + x8))) / 2))))) else (none)) else (none)) else (if x7 < x6 then (if 0 ≤ x7 then (if x7 < (x0.length : Int) then (if (rdOf ByteArray.empty x0 x7).toList = x1.toList then (some (x7, true)) else ((slices_isNaN_string.f (rdOf ByteArray.empty x0 x7)).bind fun t358 => (if t358 = true then ((slices_isNaN_string.f x1).bind fun t359 => (some (x7, t359))) else (some (x7, false))))) else (none)) else (none)) else (some (x7, false)))
def slices_BinarySearch_string_string.f (k : Nat) (l0 : List ByteArray) (a1 : ByteArray) : Option (Int × Bool) := slices_BinarySearch_string_string.l0 k l0 a1 (l0.length : Int) 0 (l0.length : Int)
set_option maxHeartbeats 8000000 in
set_option maxRecDepth 100000 in
theorem slices_BinarySearch_string_string.calls (k : Nat) (A0 : Option Addr) (c0 : Nat) (l0 : List ByteArray) (a1 : ByteArray) (r1 : Int) (r2 : Bool) (w : World) (hr0 : Kd.C Kd.string w A0 l0.length l0) (hc0 : l0.length ≤ c0) (h : slices_BinarySearch_string_string.f k l0 a1 = some (r1, r2)) :
    Calls Try.prog 55 #[.slice A0 l0.length c0, .string a1] w fun e w' => e = .returned (.tuple #[.int .i64 r1, .bool r2]) ∧ Drawn0 w w' := by
  have HR0 := Aside0.mk hr0
  have HC0 := Aside0.mk hc0
  clear hr0 hc0
  have H : (slices_BinarySearch_string_string.l0 k l0 a1 (l0.length : Int) 0 (l0.length : Int)) = some (r1, r2) := h
  clear h
  have H' := Aside0.mk H
  clear H
  go_enter Try.func55, Try.ntmps55
  go_wp2
  go_loopg [7, 8] k (fun kq v7 v8 w' => ∃ (x7_1 : Int) (x8_1 : Int), v7 = .int .i64 x7_1 ∧ v8 = .int .i64 x8_1 ∧ Aside0 (slices_BinarySearch_string_string.l0 kq l0 a1 (l0.length : Int) x7_1 x8_1 = some (r1, r2)) ∧ Aside0 (kq ≤ k) ∧ Drawn0 w w')
  case atStart => exact ⟨(0), ((l0.length : Int)), (by first | rfl | (simp; done) | (simp [*]; done)), (by first | rfl | (simp; done) | (simp [*]; done)), H', ⟨Nat.le_refl _⟩, by repeat (first | exact Drawn0.refl _ | apply Drawn0.step)⟩
  case round =>
    clear H'
    try clear p2
    obtain ⟨x7_1, x8_1, rfl, rfl, HA, HK1, ⟨m1, rfl⟩⟩ := hrel
    cases gk with
    | zero => exact absurd HA.out (by simp [slices_BinarySearch_string_string.l0])
    | succ k1 =>
      have H := HA.out
      clear HA
      simp only [slices_BinarySearch_string_string.l0] at H
      by_cases c3 : x7_1 < x8_1
      · rw [if_pos c3] at H
        have c3b0 : decide (x7_1 < x8_1) = true := decide_eq_true c3
        clear c3
        obtain ⟨ji4, hji4⟩ : ∃ j_ : Int, (wrap64 ((IntKind.u64.wrap (wrap64 (x7_1 + x8_1))) / 2)) = j_ := ⟨_, rfl⟩
        replace H : (if 0 ≤ (ji4) then (if (ji4) < (l0.length : Int) then ((cmp_Less_string.f (rdOf ByteArray.empty l0 (ji4)) a1).bind fun t355 => (if t355 = true then (slices_BinarySearch_string_string.l0 k1 l0 a1 (l0.length : Int) (wrap64 ((ji4) + 1)) x8_1) else (slices_BinarySearch_string_string.l0 k1 l0 a1 (l0.length : Int) x7_1 ji4))) else (none)) else (none)) = some (r1, r2) := by first | (rw [hji4] at H; exact H) | (simp only [hji4] at H ⊢; exact H)
        have hji4w : (IntKind.i64.wrap ((IntKind.u64.wrap (wrap64 (x7_1 + x8_1))) / 2)) = ji4 := (i64_w _).trans hji4
        by_cases c5 : 0 ≤ (ji4)
        · rw [if_pos c5] at H
          have c5b0 : decide (0 ≤ (ji4)) = true := decide_eq_true c5
          clear c5
          by_cases c6 : (ji4) < (l0.length : Int)
          · rw [if_pos c6] at H
            have c6b0 : decide ((ji4) < (l0.length : Int)) = true := decide_eq_true c6
            clear c6
            replace H := Option.bind_eq_some_iff.mp H
            obtain ⟨t355, A70, H⟩ := H
            replace H : (if t355 = true then (slices_BinarySearch_string_string.l0 k1 l0 a1 (l0.length : Int) (wrap64 ((ji4) + 1)) x8_1) else (slices_BinarySearch_string_string.l0 k1 l0 a1 (l0.length : Int) x7_1 ji4)) = some (r1, r2) := H
            have A7 := Aside0.mk A70
            clear A70
            by_cases c8 : t355 = true
            · subst c8
              have H1 : (slices_BinarySearch_string_string.l0 k1 l0 a1 (l0.length : Int) (wrap64 ((ji4) + 1)) x8_1) = some (r1, r2) := by rw [if_pos rfl] at H; exact H
              clear H
              have H := H1
              clear H1
              have H' := Aside0.mk H
              clear H
              have p354 : 0 ≤ ((ji4) : Int) := of_decide_eq_true (by first | (with_reducible assumption) | assumption)
              have q354 : (ji4) < (l0.length : Int) := of_decide_eq_true (by first | (with_reducible assumption) | assumption)
              obtain ⟨ad354, e354, hx354_0⟩ := Kd.at_string HR0.out (ji4) p354 q354
              cases e354
              replace p354 := eq_true p354
              replace q354 := eq_true q354
              go_wp2_with (first | ((with_reducible refine gate_callee (f := 79) rfl ?_); refine goesL_ (some 27) rfl rfl Try.func79 (by kernel_rfl) rfl #[.string (rdOf ByteArray.empty l0 (ji4)), .string a1] rfl (by (try simp only [List.map_toArray, List.map_cons, List.map_nil]); first | done | (simp only [hji4]; rfl) | rfl | (simp only [List.length_drop, List.length_take]; rfl)) ?_; (with_reducible refine (cmp_Less_string.calls (rdOf ByteArray.empty l0 (ji4)) a1 true _ A7.out).mono ?_); rintro e w' ⟨rfl, ⟨nd, rfl⟩⟩; refine ⟨_, rfl, ?_⟩))
              go_roundg k1
              case measure => have := HK1.out; omega
              case rel => exact ⟨(wrap64 ((ji4) + 1)), (x8_1), (by first | rfl | (simp; done) | (simp only [← hji4] <;> (first | rfl | simp)) | (simp [*]; done)), (by first | rfl | (simp; done) | (simp [*]; done)), H', ⟨by have := HK1.out; omega⟩, by repeat (first | exact Drawn0.refl _ | apply Drawn0.step)⟩
            · replace c8 := Bool.eq_false_iff.mpr c8
              subst c8
              have H1 : (slices_BinarySearch_string_string.l0 k1 l0 a1 (l0.length : Int) x7_1 ji4) = some (r1, r2) := by rw [if_neg (show ¬ (false = true) by decide)] at H; exact H
              clear H
              have H := H1
              clear H1
              have H' := Aside0.mk H
              clear H
              have p354 : 0 ≤ ((ji4) : Int) := of_decide_eq_true (by first | (with_reducible assumption) | assumption)
              have q354 : (ji4) < (l0.length : Int) := of_decide_eq_true (by first | (with_reducible assumption) | assumption)
              obtain ⟨ad354, e354, hx354_0⟩ := Kd.at_string HR0.out (ji4) p354 q354
              cases e354
              replace p354 := eq_true p354
              replace q354 := eq_true q354
              go_wp2_with (first | ((with_reducible refine gate_callee (f := 79) rfl ?_); refine goesL_ (some 27) rfl rfl Try.func79 (by kernel_rfl) rfl #[.string (rdOf ByteArray.empty l0 (ji4)), .string a1] rfl (by (try simp only [List.map_toArray, List.map_cons, List.map_nil]); first | done | (simp only [hji4]; rfl) | rfl | (simp only [List.length_drop, List.length_take]; rfl)) ?_; (with_reducible refine (cmp_Less_string.calls (rdOf ByteArray.empty l0 (ji4)) a1 false _ A7.out).mono ?_); rintro e w' ⟨rfl, ⟨nd, rfl⟩⟩; refine ⟨_, rfl, ?_⟩))
              go_roundg k1
              case measure => have := HK1.out; omega
              case rel => exact ⟨(x7_1), (ji4), (by first | rfl | (simp; done) | (simp [*]; done)), (by first | rfl | (simp; done) | (simp only [← hji4] <;> (first | rfl | simp)) | (simp [*]; done)), H', ⟨by have := HK1.out; omega⟩, by repeat (first | exact Drawn0.refl _ | apply Drawn0.step)⟩
          · rw [if_neg c6] at H
            exact absurd H (by simp)
        · rw [if_neg c5] at H
          exact absurd H (by simp)
      · rw [if_neg c3] at H
        have c3b0 : decide (x7_1 < x8_1) = false := decide_eq_false c3
        clear c3
        by_cases c9 : x7_1 < (l0.length : Int)
        · rw [if_pos c9] at H
          have c9b0 : decide (x7_1 < (l0.length : Int)) = true := decide_eq_true c9
          clear c9
          by_cases c10 : 0 ≤ x7_1
          · rw [if_pos c10] at H
            have c10b0 : decide (0 ≤ x7_1) = true := decide_eq_true c10
            clear c10
            by_cases c11 : x7_1 < (l0.length : Int)
            · rw [if_pos c11] at H
              have c11b0 : decide (x7_1 < (l0.length : Int)) = true := decide_eq_true c11
              clear c11
              by_cases c12 : (rdOf ByteArray.empty l0 x7_1).toList = a1.toList
              · rw [if_pos c12] at H
                have c12b0 : ((rdOf ByteArray.empty l0 x7_1).toList == a1.toList) = true := beq_iff_eq.mpr c12
                have c12b1 : ((rdOf ByteArray.empty l0 x7_1).toList != a1.toList) = false := bne_eq_false_iff_eq.mpr c12
                clear c12
                simp only [Option.some.injEq, Prod.mk.injEq] at H
                obtain ⟨rfl, rfl⟩ := H
                have p356 : 0 ≤ (x7_1 : Int) := of_decide_eq_true (by first | (with_reducible assumption) | assumption)
                have q356 : x7_1 < (l0.length : Int) := of_decide_eq_true (by first | (with_reducible assumption) | assumption)
                obtain ⟨ad356, e356, hx356_0⟩ := Kd.at_string HR0.out x7_1 p356 q356
                cases e356
                replace p356 := eq_true p356
                replace q356 := eq_true q356
                go_wp2
                go_ret2
                exact ⟨by first | rfl | (simp; done) | (simp [*]; done), by repeat (first | exact Drawn0.refl _ | apply Drawn0.step)⟩
              · rw [if_neg c12] at H
                have c12b0 : ((rdOf ByteArray.empty l0 x7_1).toList == a1.toList) = false := beq_eq_false_iff_ne.mpr c12
                have c12b1 : ((rdOf ByteArray.empty l0 x7_1).toList != a1.toList) = true := bne_iff_ne.mpr c12
                replace H := Option.bind_eq_some_iff.mp H
                obtain ⟨t358, A130, H⟩ := H
                replace H : (if t358 = true then ((slices_isNaN_string.f a1).bind fun t359 => (some (x7_1, t359))) else (some (x7_1, false))) = some (r1, r2) := H
                have A13 := Aside0.mk A130
                clear A130
                by_cases c14 : t358 = true
                · subst c14
                  have H1 : ((slices_isNaN_string.f a1).bind fun t359 => (some (x7_1, t359))) = some (r1, r2) := by rw [if_pos rfl] at H; exact H
                  clear H
                  have H := H1
                  clear H1
                  replace H := Option.bind_eq_some_iff.mp H
                  obtain ⟨t359, A150, H⟩ := H
                  replace H : (some (x7_1, t359)) = some (r1, r2) := H
                  have A15 := Aside0.mk A150
                  clear A150
                  simp only [Option.some.injEq, Prod.mk.injEq] at H
                  obtain ⟨rfl, rfl⟩ := H
                  have p356 : 0 ≤ (x7_1 : Int) := of_decide_eq_true (by first | (with_reducible assumption) | assumption)
                  have q356 : x7_1 < (l0.length : Int) := of_decide_eq_true (by first | (with_reducible assumption) | assumption)
                  obtain ⟨ad356, e356, hx356_0⟩ := Kd.at_string HR0.out x7_1 p356 q356
                  cases e356
                  replace p356 := eq_true p356
                  replace q356 := eq_true q356
                  have p357 : 0 ≤ (x7_1 : Int) := of_decide_eq_true (by first | (with_reducible assumption) | assumption)
                  have q357 : x7_1 < (l0.length : Int) := of_decide_eq_true (by first | (with_reducible assumption) | assumption)
                  obtain ⟨ad357, e357, hx357_0⟩ := Kd.at_string HR0.out x7_1 p357 q357
                  obtain rfl : ad356 = ad357 := (by injection e357)
                  replace p357 := eq_true p357
                  replace q357 := eq_true q357
                  go_wp2_with (first | (go_at_call 80; (with_reducible refine (slices_isNaN_string.calls (rdOf ByteArray.empty l0 x7_1) true _ A13.out).mono ?_); rintro e w' ⟨rfl, ⟨nd, rfl⟩⟩) | (go_at_call 80; (with_reducible refine (slices_isNaN_string.calls a1 t359 _ A15.out).mono ?_); rintro e w' ⟨rfl, ⟨nd, rfl⟩⟩))
                  go_ret2
                  exact ⟨by first | rfl | (simp; done) | (simp [*]; done), by repeat (first | exact Drawn0.refl _ | apply Drawn0.step)⟩
                · replace c14 := Bool.eq_false_iff.mpr c14
                  subst c14
                  have H1 : (some (x7_1, false)) = some (r1, r2) := by rw [if_neg (show ¬ (false = true) by decide)] at H; exact H
                  clear H
                  have H := H1
                  clear H1
                  simp only [Option.some.injEq, Prod.mk.injEq] at H
                  obtain ⟨rfl, rfl⟩ := H
                  have p356 : 0 ≤ (x7_1 : Int) := of_decide_eq_true (by first | (with_reducible assumption) | assumption)
                  have q356 : x7_1 < (l0.length : Int) := of_decide_eq_true (by first | (with_reducible assumption) | assumption)
                  obtain ⟨ad356, e356, hx356_0⟩ := Kd.at_string HR0.out x7_1 p356 q356
                  cases e356
                  replace p356 := eq_true p356
                  replace q356 := eq_true q356
                  have p357 : 0 ≤ (x7_1 : Int) := of_decide_eq_true (by first | (with_reducible assumption) | assumption)
                  have q357 : x7_1 < (l0.length : Int) := of_decide_eq_true (by first | (with_reducible assumption) | assumption)
                  obtain ⟨ad357, e357, hx357_0⟩ := Kd.at_string HR0.out x7_1 p357 q357
                  obtain rfl : ad356 = ad357 := (by injection e357)
                  replace p357 := eq_true p357
                  replace q357 := eq_true q357
                  go_wp2_with (first | (go_at_call 80; (with_reducible refine (slices_isNaN_string.calls (rdOf ByteArray.empty l0 x7_1) false _ A13.out).mono ?_); rintro e w' ⟨rfl, ⟨nd, rfl⟩⟩))
                  go_ret2
                  exact ⟨by first | rfl | (simp; done) | (simp [*]; done), by repeat (first | exact Drawn0.refl _ | apply Drawn0.step)⟩
            · rw [if_neg c11] at H
              exact absurd H (by simp)
          · rw [if_neg c10] at H
            exact absurd H (by simp)
        · rw [if_neg c9] at H
          have c9b0 : decide (x7_1 < (l0.length : Int)) = false := decide_eq_false c9
          clear c9
          simp only [Option.some.injEq, Prod.mk.injEq] at H
          obtain ⟨rfl, rfl⟩ := H
          go_wp2
          go_ret2
          exact ⟨by first | rfl | (simp; done) | (simp [*]; done), by repeat (first | exact Drawn0.refl _ | apply Drawn0.step)⟩
end
end Go.Proofs.Ytjjfeoigjhbbpaa.PA
namespace Go.Proofs.Ytjjfeoigjhbbpaa.PA
section

open Go.RowKit Go.Proofs.YtjjfeoigjhbbpaaW.PrintWords Go.Proofs.YtjjfeoigjhbbpaaW.PrintLast Go.Proofs.YtjjfeoigjhbbpaaW.PrintMore
attribute [local go_sem] pr_leq pr_geq pr_gtr max2_int min2_int max_two min_two max_three min_three max_four min_four
set_option linter.unusedVariables false
set_option linter.unusedSimpArgs false
def node_Find.f (k : Nat) (a0_0 : Bool) (l0_1 : List (S48)) (l0_2 : List ByteArray) (l0_3 : List Int) (a1 : ByteArray) : Option (Int × Int) := (node_Check.f a0_0 l0_1 l0_2 l0_3).bind fun t361 => (if t361 = 0 then (if a0_0 = true then ((node_pairAt.f l0_1 a1).bind fun bt362 => (some (bt362.1, 0))) else ((slices_BinarySearch_string_string.f k l0_2 a1).bind fun bt364 => (if bt364.2 = true then (some (wrap64 (bt364.1 + 1), 0)) else (some (bt364.1, 0))))) else (some (0, 2)))
set_option maxHeartbeats 8000000 in
set_option maxRecDepth 100000 in
theorem node_Find.calls (k : Nat) (a0_0 : Bool) (A0_1 : Option Addr) (c0_1 : Nat) (l0_1 : List (S48)) (A0_2 : Option Addr) (c0_2 : Nat) (l0_2 : List ByteArray) (A0_3 : Option Addr) (c0_3 : Nat) (l0_3 : List Int) (a1 : ByteArray) (r1 : Int) (r2 : Int) (w : World) (hr0_1 : Kd.C k48 w A0_1 l0_1.length l0_1) (hc0_1 : l0_1.length ≤ c0_1) (hr0_2 : Kd.C Kd.string w A0_2 l0_2.length l0_2) (hc0_2 : l0_2.length ≤ c0_2) (hr0_3 : Kd.C (Kd.int .i64) w A0_3 l0_3.length l0_3) (hc0_3 : l0_3.length ≤ c0_3) (h : node_Find.f k a0_0 l0_1 l0_2 l0_3 a1 = some (r1, r2)) :
    Calls Try.prog 30 #[.agg #[.bool a0_0, .slice A0_1 l0_1.length c0_1, .slice A0_2 l0_2.length c0_2, .slice A0_3 l0_3.length c0_3], .string a1] w fun e w' => e = .returned (.tuple #[.int .i64 r1, .int .i64 r2]) ∧ Below w.heap.size w w' := by
  have hu31 := Try.underlying31
  have HR0_1 := Aside0.mk hr0_1
  have HC0_1 := Aside0.mk hc0_1
  clear hr0_1 hc0_1
  have HR0_2 := Aside0.mk hr0_2
  have HC0_2 := Aside0.mk hc0_2
  clear hr0_2 hc0_2
  have HR0_3 := Aside0.mk hr0_3
  have HC0_3 := Aside0.mk hc0_3
  clear hr0_3 hc0_3
  have HB := Aside0.mk (Below.refl w.heap.size w)
  have H : ((node_Check.f a0_0 l0_1 l0_2 l0_3).bind fun t361 => (if t361 = 0 then (if a0_0 = true then ((node_pairAt.f l0_1 a1).bind fun bt362 => (some (bt362.1, 0))) else ((slices_BinarySearch_string_string.f k l0_2 a1).bind fun bt364 => (if bt364.2 = true then (some (wrap64 (bt364.1 + 1), 0)) else (some (bt364.1, 0))))) else (some (0, 2)))) = some (r1, r2) := h
  clear h
  replace H := Option.bind_eq_some_iff.mp H
  obtain ⟨t361, A30, H⟩ := H
  replace H : (if t361 = 0 then (if a0_0 = true then ((node_pairAt.f l0_1 a1).bind fun bt362 => (some (bt362.1, 0))) else ((slices_BinarySearch_string_string.f k l0_2 a1).bind fun bt364 => (if bt364.2 = true then (some (wrap64 (bt364.1 + 1), 0)) else (some (bt364.1, 0))))) else (some (0, 2))) = some (r1, r2) := H
  have A3 := Aside0.mk A30
  clear A30
  by_cases c4 : t361 = 0
  · rw [if_pos c4] at H
    have c4b0 : (t361 == 0) = true := beq_iff_eq.mpr c4
    have c4b1 : (t361 != 0) = false := bne_eq_false_iff_eq.mpr c4
    clear c4
    by_cases c5 : a0_0 = true
    · subst c5
      have H1 : ((node_pairAt.f l0_1 a1).bind fun bt362 => (some (bt362.1, 0))) = some (r1, r2) := by rw [if_pos rfl] at H; exact H
      clear H
      have H := H1
      clear H1
      replace H := Option.bind_eq_some_iff.mp H
      obtain ⟨⟨t362, t363⟩, A60, H⟩ := H
      replace H : (some (t362, 0)) = some (r1, r2) := H
      have A6 := Aside0.mk A60
      clear A60
      simp only [Option.some.injEq, Prod.mk.injEq] at H
      obtain ⟨rfl, rfl⟩ := H
      go_enter Try.func30, Try.ntmps30
      go_wp2_with (first | ((with_reducible refine gate_dst (N := 2) rfl ?_); refine box_event ?hg (N := 2) ?hd (cs := #[.bool true, .slice A0_1 l0_1.length c0_1, .slice A0_2 l0_2.length c0_2, .slice A0_3 l0_3.length c0_3]) (t := 31) ?hr ?_; (case hd => rfl); (case hg => rfl); (case hr => first | (go_simp; done) | (go_simp; rfl)); intro gb360 hg w7 hbox hb; have n0_ := Aside0.mk (below_step (by repeat (first | (with_reducible first | exact HB.out | apply below_alloc | apply pw_below_drewN | apply below_drew1) | exact HB.out)) hb); have n1_ := Aside0.mk (hbox); have n2_ := Aside0.mk ((by rw [hg]; exact (below_size (by repeat (first | (with_reducible first | exact HB.out | apply below_alloc | apply pw_below_drewN | apply below_drew1) | exact HB.out))) : w.heap.size ≤ gb360)); have n3_ := Aside0.mk ((by rw [hg]; exact (below_size (by repeat (first | (with_reducible first | exact HB.out | apply below_alloc | apply pw_below_drewN | apply below_drew1) | exact HB.out))) : w.heap.size ≤ gb360)); clear HB; have HB := n0_; have BK360 := n1_; have GW360 := n2_; have GE360 := n3_; clear n0_ n1_ n2_ n3_; clear hb hbox hg; have hcz8_0 : w7.cell? ⟨gb360, 0, none⟩ = some (.bool true) := (blk_cell BK360.out 0).trans rfl; have hcz8_1 : w7.cell? ⟨gb360, 1, none⟩ = some (.slice A0_1 l0_1.length c0_1) := (blk_cell BK360.out 1).trans rfl; have hcz8_2 : w7.cell? ⟨gb360, 2, none⟩ = some (.slice A0_2 l0_2.length c0_2) := (blk_cell BK360.out 2).trans rfl; have hcz8_3 : w7.cell? ⟨gb360, 3, none⟩ = some (.slice A0_3 l0_3.length c0_3) := (blk_cell BK360.out 3).trans rfl; have hfz8_0 := blk_frozen BK360.out 0; have hfz8_1 := blk_frozen BK360.out 1; have hfz8_2 := blk_frozen BK360.out 2; have hfz8_3 := blk_frozen BK360.out 3) | ((with_reducible refine gate_callee (f := 15) rfl ?_); refine goesL_ (some 11) rfl rfl Try.func15 (by kernel_rfl) rfl #[.agg #[.bool true, .slice A0_1 l0_1.length c0_1, .slice A0_2 l0_2.length c0_2, .slice A0_3 l0_3.length c0_3]] rfl (by (try simp only [List.map_toArray, List.map_cons, List.map_nil]); first | done | rfl | (simp only [List.length_drop, List.length_take]; rfl)) ?_; (with_reducible refine (node_Check.calls true _ _ l0_1 _ _ l0_2 _ _ l0_3 t361 _ ?side1 ?side2 ?side3 ?side4 ?side5 ?side6 A3.out).mono ?_); (case side1 => repeat (first | exact (Kd.C_below HR0_1.out HB.out) | (with_reducible refine Kd.C_alloc ?_ _) | (with_reducible refine Kd.C_drewN ?_ _) | (with_reducible refine Kd.C_drew ?_))); (case side2 => exact HC0_1.out); (case side3 => repeat (first | exact (Kd.C_below HR0_2.out HB.out) | (with_reducible refine Kd.C_alloc ?_ _) | (with_reducible refine Kd.C_drewN ?_ _) | (with_reducible refine Kd.C_drew ?_))); (case side4 => exact HC0_2.out); (case side5 => repeat (first | exact (Kd.C_below HR0_3.out HB.out) | (with_reducible refine Kd.C_alloc ?_ _) | (with_reducible refine Kd.C_drewN ?_ _) | (with_reducible refine Kd.C_drew ?_))); (case side6 => exact HC0_3.out); rintro e w9 ⟨rfl, hb⟩; refine ⟨_, rfl, ?_⟩; have n0_ := Aside0.mk (blk_below (g := gb360) (o := .cells #[.bool true, .slice A0_1 l0_1.length c0_1, .slice A0_2 l0_2.length c0_2, .slice A0_3 l0_3.length c0_3] 31 (0, 0)) (by (with_reducible repeat (first | refine blk_drewN ?_ _ | refine blk_drew ?_ | refine blk_alloc ?_ _)); exact BK360.out) hb); have n1_ := Aside0.mk (below_step (by repeat (first | (with_reducible first | exact HB.out | apply below_alloc | apply pw_below_drewN | apply below_drew1 | refine below_set ?_ GE360.out) | exact HB.out)) hb); clear BK360; clear HB; have BK360 := n0_; have HB := n1_; clear n0_ n1_; (try clear hb); (try clear hb2); (try clear hk); (try clear hi); have hcz10_0 : w9.cell? ⟨gb360, 0, none⟩ = some (.bool true) := (blk_cell BK360.out 0).trans rfl; have hcz10_1 : w9.cell? ⟨gb360, 1, none⟩ = some (.slice A0_1 l0_1.length c0_1) := (blk_cell BK360.out 1).trans rfl; have hcz10_2 : w9.cell? ⟨gb360, 2, none⟩ = some (.slice A0_2 l0_2.length c0_2) := (blk_cell BK360.out 2).trans rfl; have hcz10_3 : w9.cell? ⟨gb360, 3, none⟩ = some (.slice A0_3 l0_3.length c0_3) := (blk_cell BK360.out 3).trans rfl; have hfz10_0 := blk_frozen BK360.out 0; have hfz10_1 := blk_frozen BK360.out 1; have hfz10_2 := blk_frozen BK360.out 2; have hfz10_3 := blk_frozen BK360.out 3) | ((with_reducible refine gate_callee (f := 53) rfl ?_); refine goesL_ (some 19) rfl rfl Try.func53 (by kernel_rfl) rfl #[.slice A0_1 l0_1.length c0_1, .string a1] rfl (by (try simp only [List.map_toArray, List.map_cons, List.map_nil]); first | done | rfl | (simp only [List.length_drop, List.length_take]; rfl)) ?_; (with_reducible refine (node_pairAt.calls _ _ l0_1 a1 t362 t363 _ ?side1 ?side2 A6.out).mono ?_); (case side1 => repeat (first | exact (Kd.C_below HR0_1.out HB.out) | (with_reducible refine Kd.C_alloc ?_ _) | (with_reducible refine Kd.C_drewN ?_ _) | (with_reducible refine Kd.C_drew ?_))); (case side2 => exact HC0_1.out); rintro e w11 ⟨rfl, hb⟩; refine ⟨_, rfl, ?_⟩; have n0_ := Aside0.mk (blk_below (g := gb360) (o := .cells #[.bool true, .slice A0_1 l0_1.length c0_1, .slice A0_2 l0_2.length c0_2, .slice A0_3 l0_3.length c0_3] 31 (0, 0)) (by (with_reducible repeat (first | refine blk_drewN ?_ _ | refine blk_drew ?_ | refine blk_alloc ?_ _)); exact BK360.out) hb); have n1_ := Aside0.mk (below_step (by repeat (first | (with_reducible first | exact HB.out | apply below_alloc | apply pw_below_drewN | apply below_drew1 | refine below_set ?_ GE360.out) | exact HB.out)) hb); clear BK360; clear HB; have BK360 := n0_; have HB := n1_; clear n0_ n1_; (try clear hb); (try clear hb2); (try clear hk); (try clear hi)))
      go_ret2
      exact ⟨by first | rfl | (simp [errW_none, errW_some] <;> rfl) | (simp [*, errW_none, errW_some] <;> rfl), by repeat (first | (with_reducible first | exact HB.out | apply below_alloc | apply pw_below_drewN | apply below_drew1 | refine below_set ?_ GE360.out) | exact HB.out)⟩
    · replace c5 := Bool.eq_false_iff.mpr c5
      subst c5
      have H1 : ((slices_BinarySearch_string_string.f k l0_2 a1).bind fun bt364 => (if bt364.2 = true then (some (wrap64 (bt364.1 + 1), 0)) else (some (bt364.1, 0)))) = some (r1, r2) := by rw [if_neg (show ¬ (false = true) by decide)] at H; exact H
      clear H
      have H := H1
      clear H1
      replace H := Option.bind_eq_some_iff.mp H
      obtain ⟨⟨t364, t365⟩, A120, H⟩ := H
      replace H : (if t365 = true then (some (wrap64 (t364 + 1), 0)) else (some (t364, 0))) = some (r1, r2) := H
      have A12 := Aside0.mk A120
      clear A120
      by_cases c13 : t365 = true
      · subst c13
        have H1 : (some (wrap64 (t364 + 1), 0)) = some (r1, r2) := by rw [if_pos rfl] at H; exact H
        clear H
        have H := H1
        clear H1
        simp only [Option.some.injEq, Prod.mk.injEq] at H
        obtain ⟨rfl, rfl⟩ := H
        go_enter Try.func30, Try.ntmps30
        go_wp2_with (first | ((with_reducible refine gate_dst (N := 2) rfl ?_); refine box_event ?hg (N := 2) ?hd (cs := #[.bool false, .slice A0_1 l0_1.length c0_1, .slice A0_2 l0_2.length c0_2, .slice A0_3 l0_3.length c0_3]) (t := 31) ?hr ?_; (case hd => rfl); (case hg => rfl); (case hr => first | (go_simp; done) | (go_simp; rfl)); intro gb360 hg w14 hbox hb; have n0_ := Aside0.mk (below_step (by repeat (first | (with_reducible first | exact HB.out | apply below_alloc | apply pw_below_drewN | apply below_drew1) | exact HB.out)) hb); have n1_ := Aside0.mk (hbox); have n2_ := Aside0.mk ((by rw [hg]; exact (below_size (by repeat (first | (with_reducible first | exact HB.out | apply below_alloc | apply pw_below_drewN | apply below_drew1) | exact HB.out))) : w.heap.size ≤ gb360)); have n3_ := Aside0.mk ((by rw [hg]; exact (below_size (by repeat (first | (with_reducible first | exact HB.out | apply below_alloc | apply pw_below_drewN | apply below_drew1) | exact HB.out))) : w.heap.size ≤ gb360)); clear HB; have HB := n0_; have BK360 := n1_; have GW360 := n2_; have GE360 := n3_; clear n0_ n1_ n2_ n3_; clear hb hbox hg; have hcz15_0 : w14.cell? ⟨gb360, 0, none⟩ = some (.bool false) := (blk_cell BK360.out 0).trans rfl; have hcz15_1 : w14.cell? ⟨gb360, 1, none⟩ = some (.slice A0_1 l0_1.length c0_1) := (blk_cell BK360.out 1).trans rfl; have hcz15_2 : w14.cell? ⟨gb360, 2, none⟩ = some (.slice A0_2 l0_2.length c0_2) := (blk_cell BK360.out 2).trans rfl; have hcz15_3 : w14.cell? ⟨gb360, 3, none⟩ = some (.slice A0_3 l0_3.length c0_3) := (blk_cell BK360.out 3).trans rfl; have hfz15_0 := blk_frozen BK360.out 0; have hfz15_1 := blk_frozen BK360.out 1; have hfz15_2 := blk_frozen BK360.out 2; have hfz15_3 := blk_frozen BK360.out 3) | ((with_reducible refine gate_callee (f := 15) rfl ?_); refine goesL_ (some 11) rfl rfl Try.func15 (by kernel_rfl) rfl #[.agg #[.bool false, .slice A0_1 l0_1.length c0_1, .slice A0_2 l0_2.length c0_2, .slice A0_3 l0_3.length c0_3]] rfl (by (try simp only [List.map_toArray, List.map_cons, List.map_nil]); first | done | rfl | (simp only [List.length_drop, List.length_take]; rfl)) ?_; (with_reducible refine (node_Check.calls false _ _ l0_1 _ _ l0_2 _ _ l0_3 t361 _ ?side1 ?side2 ?side3 ?side4 ?side5 ?side6 A3.out).mono ?_); (case side1 => repeat (first | exact (Kd.C_below HR0_1.out HB.out) | (with_reducible refine Kd.C_alloc ?_ _) | (with_reducible refine Kd.C_drewN ?_ _) | (with_reducible refine Kd.C_drew ?_))); (case side2 => exact HC0_1.out); (case side3 => repeat (first | exact (Kd.C_below HR0_2.out HB.out) | (with_reducible refine Kd.C_alloc ?_ _) | (with_reducible refine Kd.C_drewN ?_ _) | (with_reducible refine Kd.C_drew ?_))); (case side4 => exact HC0_2.out); (case side5 => repeat (first | exact (Kd.C_below HR0_3.out HB.out) | (with_reducible refine Kd.C_alloc ?_ _) | (with_reducible refine Kd.C_drewN ?_ _) | (with_reducible refine Kd.C_drew ?_))); (case side6 => exact HC0_3.out); rintro e w16 ⟨rfl, hb⟩; refine ⟨_, rfl, ?_⟩; have n0_ := Aside0.mk (blk_below (g := gb360) (o := .cells #[.bool false, .slice A0_1 l0_1.length c0_1, .slice A0_2 l0_2.length c0_2, .slice A0_3 l0_3.length c0_3] 31 (0, 0)) (by (with_reducible repeat (first | refine blk_drewN ?_ _ | refine blk_drew ?_ | refine blk_alloc ?_ _)); exact BK360.out) hb); have n1_ := Aside0.mk (below_step (by repeat (first | (with_reducible first | exact HB.out | apply below_alloc | apply pw_below_drewN | apply below_drew1 | refine below_set ?_ GE360.out) | exact HB.out)) hb); clear BK360; clear HB; have BK360 := n0_; have HB := n1_; clear n0_ n1_; (try clear hb); (try clear hb2); (try clear hk); (try clear hi); have hcz17_0 : w16.cell? ⟨gb360, 0, none⟩ = some (.bool false) := (blk_cell BK360.out 0).trans rfl; have hcz17_1 : w16.cell? ⟨gb360, 1, none⟩ = some (.slice A0_1 l0_1.length c0_1) := (blk_cell BK360.out 1).trans rfl; have hcz17_2 : w16.cell? ⟨gb360, 2, none⟩ = some (.slice A0_2 l0_2.length c0_2) := (blk_cell BK360.out 2).trans rfl; have hcz17_3 : w16.cell? ⟨gb360, 3, none⟩ = some (.slice A0_3 l0_3.length c0_3) := (blk_cell BK360.out 3).trans rfl; have hfz17_0 := blk_frozen BK360.out 0; have hfz17_1 := blk_frozen BK360.out 1; have hfz17_2 := blk_frozen BK360.out 2; have hfz17_3 := blk_frozen BK360.out 3) | ((with_reducible refine gate_callee (f := 55) rfl ?_); refine goesL_ (some 27) rfl rfl Try.func55 (by kernel_rfl) rfl #[.slice A0_2 l0_2.length c0_2, .string a1] rfl (by (try simp only [List.map_toArray, List.map_cons, List.map_nil]); first | done | rfl | (simp only [List.length_drop, List.length_take]; rfl)) ?_; (with_reducible refine (slices_BinarySearch_string_string.calls k _ _ l0_2 a1 t364 true _ ?side1 ?side2 A12.out).mono ?_); (case side1 => repeat (first | exact (Kd.C_below HR0_2.out HB.out) | (with_reducible refine Kd.C_alloc ?_ _) | (with_reducible refine Kd.C_drewN ?_ _) | (with_reducible refine Kd.C_drew ?_))); (case side2 => exact HC0_2.out); rintro e w' ⟨rfl, ⟨nd, rfl⟩⟩; refine ⟨_, rfl, ?_⟩))
        go_ret2
        exact ⟨by first | rfl | (simp [errW_none, errW_some] <;> rfl) | (simp [*, errW_none, errW_some] <;> rfl), by repeat (first | (with_reducible first | exact HB.out | apply below_alloc | apply pw_below_drewN | apply below_drew1 | refine below_set ?_ GE360.out) | exact HB.out)⟩
      · replace c13 := Bool.eq_false_iff.mpr c13
        subst c13
        have H1 : (some (t364, 0)) = some (r1, r2) := by rw [if_neg (show ¬ (false = true) by decide)] at H; exact H
        clear H
        have H := H1
        clear H1
        simp only [Option.some.injEq, Prod.mk.injEq] at H
        obtain ⟨rfl, rfl⟩ := H
        go_enter Try.func30, Try.ntmps30
        go_wp2_with (first | ((with_reducible refine gate_dst (N := 2) rfl ?_); refine box_event ?hg (N := 2) ?hd (cs := #[.bool false, .slice A0_1 l0_1.length c0_1, .slice A0_2 l0_2.length c0_2, .slice A0_3 l0_3.length c0_3]) (t := 31) ?hr ?_; (case hd => rfl); (case hg => rfl); (case hr => first | (go_simp; done) | (go_simp; rfl)); intro gb360 hg w18 hbox hb; have n0_ := Aside0.mk (below_step (by repeat (first | (with_reducible first | exact HB.out | apply below_alloc | apply pw_below_drewN | apply below_drew1) | exact HB.out)) hb); have n1_ := Aside0.mk (hbox); have n2_ := Aside0.mk ((by rw [hg]; exact (below_size (by repeat (first | (with_reducible first | exact HB.out | apply below_alloc | apply pw_below_drewN | apply below_drew1) | exact HB.out))) : w.heap.size ≤ gb360)); have n3_ := Aside0.mk ((by rw [hg]; exact (below_size (by repeat (first | (with_reducible first | exact HB.out | apply below_alloc | apply pw_below_drewN | apply below_drew1) | exact HB.out))) : w.heap.size ≤ gb360)); clear HB; have HB := n0_; have BK360 := n1_; have GW360 := n2_; have GE360 := n3_; clear n0_ n1_ n2_ n3_; clear hb hbox hg; have hcz19_0 : w18.cell? ⟨gb360, 0, none⟩ = some (.bool false) := (blk_cell BK360.out 0).trans rfl; have hcz19_1 : w18.cell? ⟨gb360, 1, none⟩ = some (.slice A0_1 l0_1.length c0_1) := (blk_cell BK360.out 1).trans rfl; have hcz19_2 : w18.cell? ⟨gb360, 2, none⟩ = some (.slice A0_2 l0_2.length c0_2) := (blk_cell BK360.out 2).trans rfl; have hcz19_3 : w18.cell? ⟨gb360, 3, none⟩ = some (.slice A0_3 l0_3.length c0_3) := (blk_cell BK360.out 3).trans rfl; have hfz19_0 := blk_frozen BK360.out 0; have hfz19_1 := blk_frozen BK360.out 1; have hfz19_2 := blk_frozen BK360.out 2; have hfz19_3 := blk_frozen BK360.out 3) | ((with_reducible refine gate_callee (f := 15) rfl ?_); refine goesL_ (some 11) rfl rfl Try.func15 (by kernel_rfl) rfl #[.agg #[.bool false, .slice A0_1 l0_1.length c0_1, .slice A0_2 l0_2.length c0_2, .slice A0_3 l0_3.length c0_3]] rfl (by (try simp only [List.map_toArray, List.map_cons, List.map_nil]); first | done | rfl | (simp only [List.length_drop, List.length_take]; rfl)) ?_; (with_reducible refine (node_Check.calls false _ _ l0_1 _ _ l0_2 _ _ l0_3 t361 _ ?side1 ?side2 ?side3 ?side4 ?side5 ?side6 A3.out).mono ?_); (case side1 => repeat (first | exact (Kd.C_below HR0_1.out HB.out) | (with_reducible refine Kd.C_alloc ?_ _) | (with_reducible refine Kd.C_drewN ?_ _) | (with_reducible refine Kd.C_drew ?_))); (case side2 => exact HC0_1.out); (case side3 => repeat (first | exact (Kd.C_below HR0_2.out HB.out) | (with_reducible refine Kd.C_alloc ?_ _) | (with_reducible refine Kd.C_drewN ?_ _) | (with_reducible refine Kd.C_drew ?_))); (case side4 => exact HC0_2.out); (case side5 => repeat (first | exact (Kd.C_below HR0_3.out HB.out) | (with_reducible refine Kd.C_alloc ?_ _) | (with_reducible refine Kd.C_drewN ?_ _) | (with_reducible refine Kd.C_drew ?_))); (case side6 => exact HC0_3.out); rintro e w20 ⟨rfl, hb⟩; refine ⟨_, rfl, ?_⟩; have n0_ := Aside0.mk (blk_below (g := gb360) (o := .cells #[.bool false, .slice A0_1 l0_1.length c0_1, .slice A0_2 l0_2.length c0_2, .slice A0_3 l0_3.length c0_3] 31 (0, 0)) (by (with_reducible repeat (first | refine blk_drewN ?_ _ | refine blk_drew ?_ | refine blk_alloc ?_ _)); exact BK360.out) hb); have n1_ := Aside0.mk (below_step (by repeat (first | (with_reducible first | exact HB.out | apply below_alloc | apply pw_below_drewN | apply below_drew1 | refine below_set ?_ GE360.out) | exact HB.out)) hb); clear BK360; clear HB; have BK360 := n0_; have HB := n1_; clear n0_ n1_; (try clear hb); (try clear hb2); (try clear hk); (try clear hi); have hcz21_0 : w20.cell? ⟨gb360, 0, none⟩ = some (.bool false) := (blk_cell BK360.out 0).trans rfl; have hcz21_1 : w20.cell? ⟨gb360, 1, none⟩ = some (.slice A0_1 l0_1.length c0_1) := (blk_cell BK360.out 1).trans rfl; have hcz21_2 : w20.cell? ⟨gb360, 2, none⟩ = some (.slice A0_2 l0_2.length c0_2) := (blk_cell BK360.out 2).trans rfl; have hcz21_3 : w20.cell? ⟨gb360, 3, none⟩ = some (.slice A0_3 l0_3.length c0_3) := (blk_cell BK360.out 3).trans rfl; have hfz21_0 := blk_frozen BK360.out 0; have hfz21_1 := blk_frozen BK360.out 1; have hfz21_2 := blk_frozen BK360.out 2; have hfz21_3 := blk_frozen BK360.out 3) | ((with_reducible refine gate_callee (f := 55) rfl ?_); refine goesL_ (some 27) rfl rfl Try.func55 (by kernel_rfl) rfl #[.slice A0_2 l0_2.length c0_2, .string a1] rfl (by (try simp only [List.map_toArray, List.map_cons, List.map_nil]); first | done | rfl | (simp only [List.length_drop, List.length_take]; rfl)) ?_; (with_reducible refine (slices_BinarySearch_string_string.calls k _ _ l0_2 a1 t364 false _ ?side1 ?side2 A12.out).mono ?_); (case side1 => repeat (first | exact (Kd.C_below HR0_2.out HB.out) | (with_reducible refine Kd.C_alloc ?_ _) | (with_reducible refine Kd.C_drewN ?_ _) | (with_reducible refine Kd.C_drew ?_))); (case side2 => exact HC0_2.out); rintro e w' ⟨rfl, ⟨nd, rfl⟩⟩; refine ⟨_, rfl, ?_⟩))
        go_ret2
        exact ⟨by first | rfl | (simp [errW_none, errW_some] <;> rfl) | (simp [*, errW_none, errW_some] <;> rfl), by repeat (first | (with_reducible first | exact HB.out | apply below_alloc | apply pw_below_drewN | apply below_drew1 | refine below_set ?_ GE360.out) | exact HB.out)⟩
  · rw [if_neg c4] at H
    have c4b0 : (t361 == 0) = false := beq_eq_false_iff_ne.mpr c4
    have c4b1 : (t361 != 0) = true := bne_iff_ne.mpr c4
    simp only [Option.some.injEq, Prod.mk.injEq] at H
    obtain ⟨rfl, rfl⟩ := H
    go_enter Try.func30, Try.ntmps30
    go_wp2_with (first | ((with_reducible refine gate_dst (N := 2) rfl ?_); refine box_event ?hg (N := 2) ?hd (cs := #[.bool a0_0, .slice A0_1 l0_1.length c0_1, .slice A0_2 l0_2.length c0_2, .slice A0_3 l0_3.length c0_3]) (t := 31) ?hr ?_; (case hd => rfl); (case hg => rfl); (case hr => first | (go_simp; done) | (go_simp; rfl)); intro gb360 hg w22 hbox hb; have n0_ := Aside0.mk (below_step (by repeat (first | (with_reducible first | exact HB.out | apply below_alloc | apply pw_below_drewN | apply below_drew1) | exact HB.out)) hb); have n1_ := Aside0.mk (hbox); have n2_ := Aside0.mk ((by rw [hg]; exact (below_size (by repeat (first | (with_reducible first | exact HB.out | apply below_alloc | apply pw_below_drewN | apply below_drew1) | exact HB.out))) : w.heap.size ≤ gb360)); have n3_ := Aside0.mk ((by rw [hg]; exact (below_size (by repeat (first | (with_reducible first | exact HB.out | apply below_alloc | apply pw_below_drewN | apply below_drew1) | exact HB.out))) : w.heap.size ≤ gb360)); clear HB; have HB := n0_; have BK360 := n1_; have GW360 := n2_; have GE360 := n3_; clear n0_ n1_ n2_ n3_; clear hb hbox hg; have hcz23_0 : w22.cell? ⟨gb360, 0, none⟩ = some (.bool a0_0) := (blk_cell BK360.out 0).trans rfl; have hcz23_1 : w22.cell? ⟨gb360, 1, none⟩ = some (.slice A0_1 l0_1.length c0_1) := (blk_cell BK360.out 1).trans rfl; have hcz23_2 : w22.cell? ⟨gb360, 2, none⟩ = some (.slice A0_2 l0_2.length c0_2) := (blk_cell BK360.out 2).trans rfl; have hcz23_3 : w22.cell? ⟨gb360, 3, none⟩ = some (.slice A0_3 l0_3.length c0_3) := (blk_cell BK360.out 3).trans rfl; have hfz23_0 := blk_frozen BK360.out 0; have hfz23_1 := blk_frozen BK360.out 1; have hfz23_2 := blk_frozen BK360.out 2; have hfz23_3 := blk_frozen BK360.out 3) | ((with_reducible refine gate_callee (f := 15) rfl ?_); refine goesL_ (some 11) rfl rfl Try.func15 (by kernel_rfl) rfl #[.agg #[.bool a0_0, .slice A0_1 l0_1.length c0_1, .slice A0_2 l0_2.length c0_2, .slice A0_3 l0_3.length c0_3]] rfl (by (try simp only [List.map_toArray, List.map_cons, List.map_nil]); first | done | rfl | (simp only [List.length_drop, List.length_take]; rfl)) ?_; (with_reducible refine (node_Check.calls a0_0 _ _ l0_1 _ _ l0_2 _ _ l0_3 t361 _ ?side1 ?side2 ?side3 ?side4 ?side5 ?side6 A3.out).mono ?_); (case side1 => repeat (first | exact (Kd.C_below HR0_1.out HB.out) | (with_reducible refine Kd.C_alloc ?_ _) | (with_reducible refine Kd.C_drewN ?_ _) | (with_reducible refine Kd.C_drew ?_))); (case side2 => exact HC0_1.out); (case side3 => repeat (first | exact (Kd.C_below HR0_2.out HB.out) | (with_reducible refine Kd.C_alloc ?_ _) | (with_reducible refine Kd.C_drewN ?_ _) | (with_reducible refine Kd.C_drew ?_))); (case side4 => exact HC0_2.out); (case side5 => repeat (first | exact (Kd.C_below HR0_3.out HB.out) | (with_reducible refine Kd.C_alloc ?_ _) | (with_reducible refine Kd.C_drewN ?_ _) | (with_reducible refine Kd.C_drew ?_))); (case side6 => exact HC0_3.out); rintro e w24 ⟨rfl, hb⟩; refine ⟨_, rfl, ?_⟩; have n0_ := Aside0.mk (blk_below (g := gb360) (o := .cells #[.bool a0_0, .slice A0_1 l0_1.length c0_1, .slice A0_2 l0_2.length c0_2, .slice A0_3 l0_3.length c0_3] 31 (0, 0)) (by (with_reducible repeat (first | refine blk_drewN ?_ _ | refine blk_drew ?_ | refine blk_alloc ?_ _)); exact BK360.out) hb); have n1_ := Aside0.mk (below_step (by repeat (first | (with_reducible first | exact HB.out | apply below_alloc | apply pw_below_drewN | apply below_drew1 | refine below_set ?_ GE360.out) | exact HB.out)) hb); clear BK360; clear HB; have BK360 := n0_; have HB := n1_; clear n0_ n1_; (try clear hb); (try clear hb2); (try clear hk); (try clear hi)))
    go_ret2
    exact ⟨by first | rfl | (simp [errW_none, errW_some] <;> rfl) | (simp [*, errW_none, errW_some] <;> rfl), by repeat (first | (with_reducible first | exact HB.out | apply below_alloc | apply pw_below_drewN | apply below_drew1 | refine below_set ?_ GE360.out) | exact HB.out)⟩
end
end Go.Proofs.Ytjjfeoigjhbbpaa.PA
namespace Go.Proofs.Ytjjfeoigjhbbpaa.PA
section

open Go.RowKit Go.Proofs.YtjjfeoigjhbbpaaW.PrintWords Go.Proofs.YtjjfeoigjhbbpaaW.PrintLast Go.Proofs.YtjjfeoigjhbbpaaW.PrintMore
attribute [local go_sem] pr_leq pr_geq pr_gtr max2_int min2_int max_two min_two max_three min_three max_four min_four
set_option linter.unusedVariables false
set_option linter.unusedSimpArgs false
theorem leaf_mk {P : List S48} (h1 : P.length ≤ 255) (h2 : P.any badP = false) (h3 : Srt P) : leafV true P [] [] = true := by
  unfold leafV
  rw [h2, (srt_iff P).2 h3]
  simp [h1]
theorem leaf_parts {a : Bool} {P : List S48} {K : List ByteArray} {D : List Int} (h : leafV a P K D = true) : a = true ∧ K = [] ∧ D = [] ∧ P.length ≤ 255 ∧ P.any badP = false ∧ Srt P := by
  obtain ⟨h1, h2, h3, h4, h5, h6⟩ := leafV_true h
  exact ⟨h1, h2, h3, h4, h5, (srt_iff P).1 h6⟩
def insP (P : List S48) (p : S48) : List S48 := if isP P p.f0 = true then P.set (atP P p.f0) p else P.take (atP P p.f0) ++ p :: P.drop (atP P p.f0)
theorem bad_mk {k v : ByteArray} (h1 : keyB k = true) (h2 : v.size ≤ 48) : badP ⟨k, v⟩ = false := by
  unfold badP
  rw [h1, decide_eq_false (by show ¬ (48 : Int) < (v.size : Int); omega)]
  rfl
theorem put_val (a : Bool) (P : List S48) (K : List ByteArray) (D : List Int) (k v : ByteArray) :
    (node_Put.v a P K D k v = (false, [], [], [], 2)) ∨ (leafV a P K D = true ∧ keyB k = true ∧ v.size ≤ 48 ∧ node_Put.v a P K D k v = (true, insP P ⟨k, v⟩, [], [], 0) ∧ leafV true (insP P ⟨k, v⟩) [] [] = true) := by
  unfold node_Put.v
  by_cases h : leafV a P K D = true ∧ keyB k = true ∧ v.size ≤ 48
  · obtain ⟨_, _, _, h1, h2, h3⟩ := leaf_parts h.1
    have hb := bad_mk h.2.1 h.2.2
    rw [if_pos h]
    by_cases hi : isP P k = true
    · refine Or.inr ⟨h.1, h.2.1, h.2.2, ?_, ?_⟩
      · rw [if_pos hi]
        unfold insP
        rw [if_pos hi]
      · unfold insP
        rw [if_pos hi]
        refine leaf_mk (by rw [List.length_set]; exact h1) ?_ ?_
        · rw [List.any_eq_false] at h2 ⊢
          intro x hx
          rcases List.mem_or_eq_of_mem_set hx with hx | rfl
          · exact h2 x hx
          · rw [hb]; decide
        · rw [← srt_iff, set_keys h3 _ hi, srt_iff]
          exact h3
    · rw [if_neg hi]
      rw [Bool.not_eq_true] at hi
      by_cases h255 : P.length = 255
      · rw [if_pos h255]
        exact Or.inl rfl
      · rw [if_neg h255]
        refine Or.inr ⟨h.1, h.2.1, h.2.2, ?_, ?_⟩
        · unfold insP
          rw [if_neg (by rw [hi]; decide)]
        · unfold insP
          rw [if_neg (by rw [hi]; decide)]
          have hat := (at_spec h3 k).1
          refine leaf_mk ?_ ?_ (srt_ins h3 ⟨k, v⟩ hi)
          · rw [List.length_append, List.length_cons, List.length_take, List.length_drop]
            show min (atP P k) P.length + (P.length - atP P k + 1) ≤ 255
            omega
          · rw [List.any_eq_false] at h2 ⊢
            intro x hx
            rcases List.mem_append.1 hx with hx | hx
            · exact h2 x (List.mem_of_mem_take hx)
            · rcases List.mem_cons.1 hx with rfl | hx
              · rw [hb]; decide
              · exact h2 x (List.mem_of_mem_drop hx)
  · rw [if_neg h]
    exact Or.inl rfl
theorem find_leaf {P : List S48} (h : leafV true P [] [] = true) (k : Nat) (key : ByteArray) : node_Find.f k true P [] [] key = some ((atP P key : Int), 0) := by
  unfold node_Find.f
  rw [check_val, h]
  rfl
end
end Go.Proofs.Ytjjfeoigjhbbpaa.PA
namespace Go.Proofs.Ytjjfeoigjhbbpaa.PA
section

open Go.RowKit Go.Proofs.YtjjfeoigjhbbpaaW.PrintWords Go.Proofs.YtjjfeoigjhbbpaaW.PrintLast Go.Proofs.YtjjfeoigjhbbpaaW.PrintMore
attribute [local go_sem] pr_leq pr_geq pr_gtr max2_int min2_int max_two min_two max_three min_three max_four min_four
set_option linter.unusedVariables false
set_option linter.unusedSimpArgs false
section
open Go.ChangeShapes Go.WideShapes Go.Deep
variable {H : Type} {enc : TypeId × Value → H} {P : Program} {w : World} {base : Nat} {spare : Nat → Bool} {held : Bool}
theorem ra_addr (a : Addr) (m i : Nat) : (a.add m).add i = a.add (m + i) := Go.Deep.add_add a m i
theorem open_rows {α : Type} [Inhabited α] (k : Kd α) (Wf : α → Prop) {t e : TypeId} {fuel : Nat} {A : Option Addr} {len cap : Nat} {x : DataW H × List MemPlace} (ht : P.underlying t = some (.slice e)) (hce : P.cellsOf e = k.sz)
    (He : ∀ n cs y, DataW.trod enc P w base spare held n e cs = some y → ∃ v, k.K w v cs ∧ Wf v)
    (h : DataW.trod enc P w base spare held fuel t [.slice A len cap] = some x) : ∃ l : List α, l.length = len ∧ k.C w A len l ∧ len ≤ cap ∧ ∀ v ∈ l, Wf v := by
  rcases open_slice ht h with ⟨hcs, _⟩ | ⟨a, l, c, m, n, D, Pl, hcs, _, hl, hm, hmm, _, hx⟩
  · simp at hcs
    obtain ⟨rfl, rfl, rfl⟩ := hcs
    exact ⟨[], rfl, ⟨rfl, by omega, fun h0 => absurd h0 (by omega)⟩, Nat.le_refl _, by simp⟩
  · simp at hcs
    obtain ⟨rfl, rfl, rfl⟩ := hcs
    have hlm : len ≤ m := by rw [hmm]; split <;> omega
    obtain ⟨f, hf⟩ := choose_lt (α := α) (n := len) (p := fun i v => ∃ cs, w.cells? base (a.add (i * k.sz)) k.sz = some cs ∧ k.K w v cs ∧ Wf v) (fun i hi => by
      obtain ⟨cs', h1, h2⟩ := hx i (by omega)
      rw [hce] at h1
      obtain ⟨v, h3, h4⟩ := He _ _ _ h2
      exact ⟨v, cs', h1, h3, h4⟩)
    refine ⟨(List.range len).map f, by simp, ⟨by simp, by simp only [maxLen] at hm; omega, fun _ => ⟨a, rfl, fun j p hj => ?_⟩⟩, hl, fun v hv => ?_⟩
    · have hjl : j < len := by
        rcases Nat.lt_or_ge j len with h' | h'
        · exact h'
        · rw [List.getElem?_eq_none (by simpa using h')] at hj; cases hj
      simp [hjl] at hj
      subst hj
      obtain ⟨cs, h1, h2, _⟩ := hf j hjl
      obtain ⟨_, h3, h4⟩ := World.cells?_some h1
      refine ⟨cs, h3, h2, fun i u hu => ?_⟩
      have hi : i < k.sz := by rw [← h3]; exact (List.getElem?_eq_some_iff.1 hu).1
      rw [← ra_addr, h4 i hi, hu]
    · simp only [List.mem_map, List.mem_range] at hv
      obtain ⟨j, hj, rfl⟩ := hv
      exact (hf j hj).choose_spec.2.2
end
section
open Go.ChangeShapes Go.WideShapes Go.Deep
variable {H : Type} {enc : TypeId × Value → H} {P : Program} {w : World} {base : Nat} {spare : Nat → Bool} {held : Bool}
theorem struct_rows_sized {ts : List TypeId} {ds : List (DataW H)} {ps : List MemPlace} {d : DataW H} {j i off : Nat} {t ft e : TypeId} {fs : Array Field} {f : Field} {cs : List Value} {v : Value} {A : Option Addr} {len cap : Nat}
    (hsz : (DataW.weightsEach P ts ds).all (· ≤ reachBytes) = true) (htj : ts[j]? = some t) (hdj : ds[j]? = some d) (ht : P.underlying t = some (.struct fs)) (hf : fs[i]? = some f) (hft : f.type = ft) (ho : f.offset = off) (hfe : P.underlying ft = some (.slice e)) (hco : P.cellsOf ft = 1) {B : Nat} (hB : P.bytesOf e = B)
    (h : DataW.Trod enc P w base spare held t v d ps) (hv : v.cells.toList = cs) (hc : cs[off]? = some (.slice A len cap)) : len * B ≤ 140737488351232 := by
  subst hv; subst hft; subst ho
  obtain ⟨fuel, hx⟩ := h
  obtain ⟨xs, n, _, he, _, hl, hh⟩ := DataW.trod_struct ht hx
  have hi := hh i f hf
  have hlt : i < xs.length := by rw [hl]; exact (Array.getElem?_eq_some_iff.1 hf).1
  rw [List.getElem?_eq_getElem hlt, hco] at hi
  have h1 : (v.cells.toList.drop f.offset).take 1 = [.slice A len cap] := by
    obtain ⟨hlo, hco'⟩ := List.getElem?_eq_some_iff.1 hc
    rw [List.drop_eq_getElem_cons hlo, hco']
    rfl
  rw [h1] at hi
  rcases open_slice hfe hi with ⟨hcs, _⟩ | ⟨a, l, c, m, n, D, Pl, hcs, _, hl', hm, hmm, hx', _⟩
  · simp at hcs
    obtain ⟨rfl, rfl, rfl⟩ := hcs
    simp
  · simp at hcs
    obtain ⟨rfl, rfl, rfl⟩ := hcs
    have hd : d = .agg (xs.map (·.1)) := by injection he
    have hmem : (len + (m - len)) * P.bytesOf e ∈ DataW.weightsEach P ts ds := by
      refine DataW.weights_mem_each htj hdj _ ?_
      rw [hd]
      simp only [DataW.weights, ht]
      refine DataW.weights_mem_each (j := i) (t := f.type) (d := xs[i].1) ?_ ?_ _ ?_
      · rw [List.getElem?_map, Array.getElem?_toList, hf]
        rfl
      · rw [List.getElem?_map, List.getElem?_eq_getElem hlt]
        rfl
      · rw [hx']
        simp [DataW.weights, hfe]
    have z := List.all_eq_true.1 hsz _ hmem
    rw [hB] at z
    have z' : (len + (m - len)) * B ≤ reachBytes := by simpa using z
    have h3 : len ≤ len + (m - len) := by omega
    exact Nat.le_trans (Nat.mul_le_mul_right _ h3) z'
end
end
end Go.Proofs.Ytjjfeoigjhbbpaa.PA
namespace Go.Proofs.Ytjjfeoigjhbbpaa.PA
section

open Go.RowKit Go.Proofs.YtjjfeoigjhbbpaaW.PrintWords Go.Proofs.YtjjfeoigjhbbpaaW.PrintLast Go.Proofs.YtjjfeoigjhbbpaaW.PrintMore
attribute [local go_sem] pr_leq pr_geq pr_gtr max2_int min2_int max_two min_two max_three min_three max_four min_four
set_option linter.unusedVariables false
set_option linter.unusedSimpArgs false
def cisternlaw11_known.f  : Option (Bool) := (node_Encode.f true (([(⟨(⟨#[97]⟩ : ByteArray), (⟨#[49]⟩ : ByteArray)⟩ : S48)] : List (S48))) ([] : List ByteArray) ([] : List Int)).bind fun bt113 => (if bt113.2 = 0 then (some (bt113.1.toList == ([1, 1, 1, 97, 1, 49] : List UInt8))) else (some false))
set_option maxHeartbeats 8000000 in
set_option maxRecDepth 100000 in
theorem cisternlaw11_known.calls  (r : Bool) (w : World) (h : cisternlaw11_known.f  = some r) :
    Calls Try.prog 12 #[] w fun e w' => e = .returned (.bool r) ∧ Below w.heap.size w w' := by
  have hu48 := Try.underlying48
  have hu31 := Try.underlying31
  have HB := Aside0.mk (Below.refl w.heap.size w)
  have H : ((node_Encode.f true (([(⟨(⟨#[97]⟩ : ByteArray), (⟨#[49]⟩ : ByteArray)⟩ : S48)] : List (S48))) ([] : List ByteArray) ([] : List Int)).bind fun bt113 => (if bt113.2 = 0 then (some (bt113.1.toList == ([1, 1, 1, 97, 1, 49] : List UInt8))) else (some false))) = some r := h
  clear h
  obtain ⟨y110, hy110⟩ : ∃ y_ : List (S48), y_ = (([(⟨(⟨#[97]⟩ : ByteArray), (⟨#[49]⟩ : ByteArray)⟩ : S48)] : List (S48))) := ⟨_, rfl⟩
  replace H : ((node_Encode.f true y110 ([] : List ByteArray) ([] : List Int)).bind fun bt113 => (if bt113.2 = 0 then (some (bt113.1.toList == ([1, 1, 1, 97, 1, 49] : List UInt8))) else (some false))) = some r := by first | (rw [hy110]; with_reducible exact H) | (have H2_ := (Option.bind_some _ _).symm.trans H; rw [hy110]; with_reducible exact H2_) | (have H2_ := (Option.bind_some _ _).symm.trans H; with_reducible exact H2_) | with_reducible exact H | (rw [hy110]; exact H) | exact H
  have Ny110 := Aside0.mk hy110
  clear hy110
  replace H := Option.bind_eq_some_iff.mp H
  obtain ⟨⟨t113, t114⟩, A10, H⟩ := H
  replace H : (if t114 = 0 then (some (t113.toList == ([1, 1, 1, 97, 1, 49] : List UInt8))) else (some false)) = some r := H
  have A1 := Aside0.mk A10
  clear A10
  by_cases c2 : t114 = 0
  · rw [if_pos c2] at H
    have c2b0 : (t114 == 0) = true := beq_iff_eq.mpr c2
    have c2b1 : (t114 != 0) = false := bne_eq_false_iff_eq.mpr c2
    clear c2
    obtain rfl := Option.some.inj H
    go_enter Try.func12, Try.ntmps12
    go_wp2_with (first | ((with_reducible refine gate_dst (N := 5) rfl ?_); refine Kd.R_lit k48 _ 48 ?hg (N := 5) ?hd (xs := ([(⟨(⟨#[97]⟩ : ByteArray), (⟨#[49]⟩ : ByteArray)⟩ : S48)] : List (S48))) (inner := [.string (⟨#[97]⟩ : ByteArray), .string (⟨#[49]⟩ : ByteArray)]) (ok := fun _ => True) (okp := fun _ => True) ?hr ?hp (fun _ hk => hk) trivial (Below.refl _ _) (Nat.le_refl _) (by simp) ?_; (case hd => rfl); (case hg => rfl); (case hr => first | (go_simp; done) | (go_simp; rfl)); (case hp => exact (Reps.c2 (show Kd.M k48 _ _ _ (⟨(⟨#[97]⟩ : ByteArray), (⟨#[49]⟩ : ByteArray)⟩ : S48) [.string (⟨#[97]⟩ : ByteArray), .string (⟨#[49]⟩ : ByteArray)] from (k48_mkM _ _ _ (⟨(⟨#[97]⟩ : ByteArray), (⟨#[49]⟩ : ByteArray)⟩ : S48) )) (Reps.none _ _))); intro v111 w3 ho4 hb hg_ hnew_; clear hg_ hnew_; (first | rw [← Ny110.out] at ho4 | (simp only [Int.reduceToNat] at ho4; rw [← Ny110.out] at ho4)); have n0_ := Aside0.mk (Kd.R_lower ho4 (below_size (by repeat (first | (with_reducible first | exact HB.out | apply below_alloc | apply pw_below_drewN | apply below_drew1) | exact HB.out)))); have n1_ := Aside0.mk (below_step (by repeat (first | (with_reducible first | exact HB.out | apply below_alloc | apply pw_below_drewN | apply below_drew1) | exact HB.out)) hb); clear HB; have HO112 := n0_; have HB := n1_; clear n0_ n1_; clear hb ho4; obtain ⟨Ao5, co5, eo5⟩ := Kd.R_slice HO112.out; subst eo5) | ((with_reducible refine gate_callee (f := 13) rfl ?_); refine goesL_ (some 7) rfl rfl Try.func13 (by kernel_rfl) rfl #[.agg #[.bool true, .slice Ao5 y110.length co5, .slice none 0 0, .slice none 0 0]] rfl (by (try simp only [List.map_toArray, List.map_cons, List.map_nil]); first | done | rfl | (simp only [List.length_drop, List.length_take]; rfl)) ?_; (refine (node_Encode.calls true _ _ y110 _ _ ([] : List ByteArray) _ _ ([] : List Int) t113 t114 _ ?side1 ?side2 ?side3 ?side4 ?side5 ?side6 A1.out).mono ?_); (case side1 => repeat (first | exact (Kd.R_reads' HO112.out).2.2 | (with_reducible refine Kd.C_alloc ?_ _) | (with_reducible refine Kd.C_drewN ?_ _) | (with_reducible refine Kd.C_drew ?_))); (case side2 => exact (Kd.R_reads' HO112.out).2.1); (case side3 => exact Kd.C_nil _ _); (case side4 => exact Nat.le_refl _); (case side5 => exact Kd.C_nil _ _); (case side6 => exact Nat.le_refl _); rintro e w6 ⟨rfl, hb⟩; refine ⟨_, rfl, ?_⟩; have n0_ := Aside0.mk (Kd.R_below (by (with_reducible repeat (first | apply Kd.R_alloc | apply Kd.R_drewN | apply Kd.R_drew)); exact HO112.out) hb); have n1_ := Aside0.mk (below_step (by repeat (first | (with_reducible first | exact HB.out | apply below_alloc | apply pw_below_drewN | apply below_drew1) | exact HB.out)) hb); clear HO112; clear HB; have HO112 := n0_; have HB := n1_; clear n0_ n1_; (try clear hb); (try clear hb2); (try clear hk); (try clear hi)))
    go_ret
    exact ⟨by first | rfl | (simp [errW_none, errW_some] <;> rfl) | (simp [*, errW_none, errW_some] <;> rfl), by repeat (first | (with_reducible first | exact HB.out | apply below_alloc | apply pw_below_drewN | apply below_drew1) | exact HB.out)⟩
  · rw [if_neg c2] at H
    have c2b0 : (t114 == 0) = false := beq_eq_false_iff_ne.mpr c2
    have c2b1 : (t114 != 0) = true := bne_iff_ne.mpr c2
    obtain rfl := Option.some.inj H
    go_enter Try.func12, Try.ntmps12
    go_wp2_with (first | ((with_reducible refine gate_dst (N := 5) rfl ?_); refine Kd.R_lit k48 _ 48 ?hg (N := 5) ?hd (xs := ([(⟨(⟨#[97]⟩ : ByteArray), (⟨#[49]⟩ : ByteArray)⟩ : S48)] : List (S48))) (inner := [.string (⟨#[97]⟩ : ByteArray), .string (⟨#[49]⟩ : ByteArray)]) (ok := fun _ => True) (okp := fun _ => True) ?hr ?hp (fun _ hk => hk) trivial (Below.refl _ _) (Nat.le_refl _) (by simp) ?_; (case hd => rfl); (case hg => rfl); (case hr => first | (go_simp; done) | (go_simp; rfl)); (case hp => exact (Reps.c2 (show Kd.M k48 _ _ _ (⟨(⟨#[97]⟩ : ByteArray), (⟨#[49]⟩ : ByteArray)⟩ : S48) [.string (⟨#[97]⟩ : ByteArray), .string (⟨#[49]⟩ : ByteArray)] from (k48_mkM _ _ _ (⟨(⟨#[97]⟩ : ByteArray), (⟨#[49]⟩ : ByteArray)⟩ : S48) )) (Reps.none _ _))); intro v111 w7 ho8 hb hg_ hnew_; clear hg_ hnew_; (first | rw [← Ny110.out] at ho8 | (simp only [Int.reduceToNat] at ho8; rw [← Ny110.out] at ho8)); have n0_ := Aside0.mk (Kd.R_lower ho8 (below_size (by repeat (first | (with_reducible first | exact HB.out | apply below_alloc | apply pw_below_drewN | apply below_drew1) | exact HB.out)))); have n1_ := Aside0.mk (below_step (by repeat (first | (with_reducible first | exact HB.out | apply below_alloc | apply pw_below_drewN | apply below_drew1) | exact HB.out)) hb); clear HB; have HO112 := n0_; have HB := n1_; clear n0_ n1_; clear hb ho8; obtain ⟨Ao9, co9, eo9⟩ := Kd.R_slice HO112.out; subst eo9) | ((with_reducible refine gate_callee (f := 13) rfl ?_); refine goesL_ (some 7) rfl rfl Try.func13 (by kernel_rfl) rfl #[.agg #[.bool true, .slice Ao9 y110.length co9, .slice none 0 0, .slice none 0 0]] rfl (by (try simp only [List.map_toArray, List.map_cons, List.map_nil]); first | done | rfl | (simp only [List.length_drop, List.length_take]; rfl)) ?_; (refine (node_Encode.calls true _ _ y110 _ _ ([] : List ByteArray) _ _ ([] : List Int) t113 t114 _ ?side1 ?side2 ?side3 ?side4 ?side5 ?side6 A1.out).mono ?_); (case side1 => repeat (first | exact (Kd.R_reads' HO112.out).2.2 | (with_reducible refine Kd.C_alloc ?_ _) | (with_reducible refine Kd.C_drewN ?_ _) | (with_reducible refine Kd.C_drew ?_))); (case side2 => exact (Kd.R_reads' HO112.out).2.1); (case side3 => exact Kd.C_nil _ _); (case side4 => exact Nat.le_refl _); (case side5 => exact Kd.C_nil _ _); (case side6 => exact Nat.le_refl _); rintro e w10 ⟨rfl, hb⟩; refine ⟨_, rfl, ?_⟩; have n0_ := Aside0.mk (Kd.R_below (by (with_reducible repeat (first | apply Kd.R_alloc | apply Kd.R_drewN | apply Kd.R_drew)); exact HO112.out) hb); have n1_ := Aside0.mk (below_step (by repeat (first | (with_reducible first | exact HB.out | apply below_alloc | apply pw_below_drewN | apply below_drew1) | exact HB.out)) hb); clear HO112; clear HB; have HO112 := n0_; have HB := n1_; clear n0_ n1_; (try clear hb); (try clear hb2); (try clear hk); (try clear hi)))
    go_ret
    exact ⟨by first | rfl | (simp [errW_none, errW_some] <;> rfl) | (simp [*, errW_none, errW_some] <;> rfl), by repeat (first | (with_reducible first | exact HB.out | apply below_alloc | apply pw_below_drewN | apply below_drew1) | exact HB.out)⟩
end
end Go.Proofs.Ytjjfeoigjhbbpaa.PA
namespace Go.Proofs.Ytjjfeoigjhbbpaa.PA
section

open Go.RowKit Go.Proofs.YtjjfeoigjhbbpaaW.PrintWords Go.Proofs.YtjjfeoigjhbbpaaW.PrintLast Go.Proofs.YtjjfeoigjhbbpaaW.PrintMore
attribute [local go_sem] pr_leq pr_geq pr_gtr max2_int min2_int max_two min_two max_three min_three max_four min_four
set_option linter.unusedVariables false
set_option linter.unusedSimpArgs false
theorem of_val (a : Bool) (P : List S48) (K : List ByteArray) (D : List Int) (h1 : P.length * 32 ≤ 140737488351232) (h2 : K.length * 16 ≤ 140737488351232) (h3 : D.length * 8 ≤ 140737488351232) : cisternlaw11_of.f a P K D = some (a, P, K, D) := by
  unfold cisternlaw11_of.f
  rw [if_pos ⟨by omega, by omega, by omega⟩]
theorem known_enc : node_Encode.f true [(⟨⟨#[97]⟩, ⟨#[49]⟩⟩ : S48)] [] [] = some (⟨#[1, 1, 1, 97, 1, 49]⟩, 0) := by
  have e0 : keyB ⟨#[97]⟩ = true := by
    unfold keyB
    rw [nd_toList]
    rfl
  have e1 : leafV true [(⟨⟨#[97]⟩, ⟨#[49]⟩⟩ : S48)] [] [] = true := by
    unfold leafV badP
    simp only [List.any_cons, List.any_nil, e0]
    rfl
  unfold node_Encode.f
  rw [e1]
  rfl
theorem known_val : cisternlaw11_known.f = some true := by
  unfold cisternlaw11_known.f
  rw [known_enc, Option.bind_some, if_pos rfl, nd_toList]
  rfl
end
end Go.Proofs.Ytjjfeoigjhbbpaa.PA
namespace Go.Proofs.Ytjjfeoigjhbbpaa.PA
section

open Go.RowKit Go.Proofs.YtjjfeoigjhbbpaaW.PrintWords Go.Proofs.YtjjfeoigjhbbpaaW.PrintLast Go.Proofs.YtjjfeoigjhbbpaaW.PrintMore
attribute [local go_sem] pr_leq pr_geq pr_gtr max2_int min2_int max_two min_two max_three min_three max_four min_four
set_option linter.unusedVariables false
set_option linter.unusedSimpArgs false
theorem eqA48 (d : Nat) (w : World) (x0 y0 : ByteArray) (x1 y1 : ByteArray) :
    (Op.equalIn (d + 2) 48 (.agg #[.string x0, .string x1]) (.agg #[.string y0, .string y1])).run Try.prog w = .ok (x0.toList == y0.toList && (x1.toList == y1.toList)) w := by
  refine eqA_of Try.underlying48 (by kernel_rfl) ?_
  refine eqf_cons (by rfl) (by go_simp; rfl) (by go_simp; rfl) (by go_simp) ?_
  exact eqf_last (by rfl) (by go_simp; rfl) (by go_simp; rfl) (by go_simp)
end
end Go.Proofs.Ytjjfeoigjhbbpaa.PA
