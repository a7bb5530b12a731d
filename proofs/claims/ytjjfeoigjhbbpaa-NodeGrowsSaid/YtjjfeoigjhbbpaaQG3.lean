/- Texts of this claim: contracts of the functions that the statement reaches, and plain laws of what they compute. -/
import Derived.Test.YtjjfeoigjhbbpaaQG2
set_option linter.unusedVariables false
set_option linter.unusedSimpArgs false
namespace Go.Proofs.Ytjjfeoigjhbbpaa.PA
section

open Go.RowKit Go.Proofs.YtjjfeoigjhbbpaaW.PrintWords Go.Proofs.YtjjfeoigjhbbpaaW.PrintLast Go.Proofs.YtjjfeoigjhbbpaaW.PrintMore
attribute [local go_sem] pr_leq pr_geq pr_gtr max2_int min2_int max_two min_two max_three min_three max_four min_four
set_option linter.unusedVariables false
set_option linter.unusedSimpArgs false
mutual
def cisternlaw11_NodeGrows.l0 : Nat → List ByteArray → List ByteArray → Int → Bool → List (S48) → List ByteArray → List Int → Option (Bool)
  | 0, _, _, _, _, _, _, _ => none
  | k + 1, x0, x1, x6, x368000, x368001, x368002, x368003 => if x6 < (x0.length : Int) then (cisternlaw11_NodeGrows.j1 k x0 x1 x6 (decide (x6 < 60)) x368000 x368001 x368002 x368003) else (cisternlaw11_NodeGrows.j1 k x0 x1 x6 false x368000 x368001 x368002 x368003)
def cisternlaw11_NodeGrows.j1 : Nat → List ByteArray → List ByteArray → Int → Bool → Bool → List (S48) → List ByteArray → List Int → Option (Bool)
  | 0, _, _, _, _, _, _, _, _ => none
  | k + 1, x0, x1, x6, x23, x368000, x368001, x368002, x368003 => if x23 = true then (if x6 < (x1.length : Int) then (if 0 ≤ x6 then (cisternlaw11_NodeGrows.j2 k x0 x1 x6 (rdOf ByteArray.empty x1 x6) x368000 x368001 x368002 x368003) else (none)) else (cisternlaw11_NodeGrows.j2 k x0 x1 x6 (⟨#[]⟩ : ByteArray) x368000 x368001 x368002 x368003)) else (some true)
def cisternlaw11_NodeGrows.j2 : Nat → List ByteArray → List ByteArray → Int → ByteArray → Bool → List (S48) → List ByteArray → List Int → Option (Bool)
  | 0, _, _, _, _, _, _, _, _ => none
  | k + 1, x0, x1, x6, x7, x368000, x368001, x368002, x368003 => if 0 ≤ x6 then (if x6 < (x0.length : Int) then ((node_Put.f x368000 x368001 x368002 x368003 (rdOf ByteArray.empty x0 x6) x7).bind fun bt370 => ((cisternref11_Key.f (rdOf ByteArray.empty x0 x6)).bind fun t383 => (if t383 = true then (cisternlaw11_NodeGrows.j3 k x0 x1 x6 bt370.2.2.2.2 (decide ((x7.size : Int) > 48)) x368000 x368001 x368002 x368003 bt370.1 bt370.2.1 bt370.2.2.1 bt370.2.2.2.1) else (cisternlaw11_NodeGrows.j3 k x0 x1 x6 bt370.2.2.2.2 true x368000 x368001 x368002 x368003 bt370.1 bt370.2.1 bt370.2.2.1 bt370.2.2.2.1)))) else (none)) else (none)
def cisternlaw11_NodeGrows.j3 : Nat → List ByteArray → List ByteArray → Int → Int → Bool → Bool → List (S48) → List ByteArray → List Int → Bool → List (S48) → List ByteArray → List Int → Option (Bool)
  | 0, _, _, _, _, _, _, _, _, _, _, _, _, _ => none
  | k + 1, x0, x1, x6, x9, x55, x368000, x368001, x368002, x368003, x382000, x382001, x382002, x382003 => if x55 = true then (if x9 = 2 then (cisternlaw11_NodeGrows.l0 k x0 x1 (wrap64 (x6 + 1)) x368000 x368001 x368002 x368003) else (some false)) else (if x9 = 0 then ((node_Check.f x382000 x382001 x382002 x382003).bind fun t384 => (cisternlaw11_NodeGrows.j4 k x0 x1 x6 (t384 != 0) x382000 x382001 x382002 x382003)) else (cisternlaw11_NodeGrows.j4 k x0 x1 x6 true x382000 x382001 x382002 x382003))
def cisternlaw11_NodeGrows.j4 : Nat → List ByteArray → List ByteArray → Int → Bool → Bool → List (S48) → List ByteArray → List Int → Option (Bool)
  | 0, _, _, _, _, _, _, _, _ => none
  | k + 1, x0, x1, x6, x64, x382000, x382001, x382002, x382003 => if x64 = true then (some false) else (cisternlaw11_NodeGrows.l1 k x0 x1 x6 0 x382000 x382001 x382002 x382003)
def cisternlaw11_NodeGrows.l1 : Nat → List ByteArray → List ByteArray → Int → Int → Bool → List (S48) → List ByteArray → List Int → Option (Bool)
  | 0, _, _, _, _, _, _, _, _ => none
  | k + 1, x0, x1, x6, x10, x368000, x368001, x368002, x368003 => if x10 < (x368001.length : Int) then (if 0 ≤ x10 then ((node_Find.f k x368000 x368001 x368002 x368003 ((rd_T48 x368001 x10).f0)).bind fun bt386 => (if bt386.2 = 0 then (if bt386.1 = x10 then (cisternlaw11_NodeGrows.l1 k x0 x1 x6 (wrap64 (x10 + 1)) x368000 x368001 x368002 x368003) else (some false)) else (some false))) else (none)) else (cisternlaw11_NodeGrows.l0 k x0 x1 (wrap64 (x6 + 1)) x368000 x368001 x368002 x368003)
end
def cisternlaw11_NodeGrows.f (k : Nat) (l0 : List ByteArray) (l1 : List ByteArray) : Option (Bool) := (cisternlaw11_known.f).bind fun t366 => (if t366 = true then (cisternlaw11_NodeGrows.l0 k l0 l1 0 true ([] : List (S48)) ([] : List ByteArray) ([] : List Int)) else (some false))
def cisternlaw11_NodeGrows.T10 : Bool × List (List Nat × List Nat) := (true, [([], []), ([], []), ([], []), ([1, 2], [1, 2]), ([3], [3]), ([], []), ([4, 5], [4, 5]), ([0, 6], [0, 6]), ([7], [7]), ([8], [8]), ([8], [8]), ([], []), ([11, 9, 7, 0, 1, 2, 3, 4, 5, 6, 7, 8, 9, 11], [9, 11]), ([10, 12, 0, 1, 2, 3, 4, 5, 6, 7, 8, 9, 10, 11, 12], [10])])
def cisternlaw11_NodeGrows.B10 : List Nat := [0, 0, 0, 6, 14, 0, 62, 127, 255, 511, 511, 0, 3071, 8191]
theorem cisternlaw11_NodeGrows.tab10 : rtab .any (opsOf Try.f8 10) = cisternlaw11_NodeGrows.T10 := by kernel_rfl
theorem cisternlaw11_NodeGrows.bits10 : waitsOk cisternlaw11_NodeGrows.T10.2 cisternlaw11_NodeGrows.B10 = true := by kernel_rfl
def cisternlaw11_NodeGrows.T20 : Bool × List (List Nat × List Nat) := (true, [([], []), ([], []), ([1], [1]), ([], []), ([2, 3], [2, 3]), ([4], [4]), ([5], [5]), ([0, 6], [0, 6]), ([7], [7]), ([8], [8]), ([8], [8]), ([9, 7, 0, 1, 2, 3, 4, 5, 6, 7, 8, 9], [9]), ([10, 11, 0, 1, 2, 3, 4, 5, 6, 7, 8, 9, 10, 11], [10])])
def cisternlaw11_NodeGrows.B20 : List Nat := [0, 0, 2, 0, 14, 30, 62, 127, 255, 511, 511, 1023, 4095]
theorem cisternlaw11_NodeGrows.tab20 : rtab .any (opsOf Try.f8 20) = cisternlaw11_NodeGrows.T20 := by kernel_rfl
theorem cisternlaw11_NodeGrows.bits20 : waitsOk cisternlaw11_NodeGrows.T20.2 cisternlaw11_NodeGrows.B20 = true := by kernel_rfl
set_option maxHeartbeats 8000000 in
set_option maxRecDepth 100000 in
theorem cisternlaw11_NodeGrows.calls (k : Nat) (A0 : Option Addr) (c0 : Nat) (l0 : List ByteArray) (A1 : Option Addr) (c1 : Nat) (l1 : List ByteArray) (r : Bool) (w : World) (hr0 : Kd.C Kd.string w A0 l0.length l0) (hc0 : l0.length ≤ c0) (hr1 : Kd.C Kd.string w A1 l1.length l1) (hc1 : l1.length ≤ c1) (h : cisternlaw11_NodeGrows.f k l0 l1 = some r) :
    Calls Try.prog 8 #[.slice A0 l0.length c0, .slice A1 l1.length c1] w fun e w' => e = .returned (.bool r) ∧ Below w.heap.size w w' := by
  have hu31 := Try.underlying31
  have hu48 := Try.underlying48
  have HR0 := Aside0.mk hr0
  have HC0 := Aside0.mk hc0
  clear hr0 hc0
  have HR1 := Aside0.mk hr1
  have HC1 := Aside0.mk hc1
  clear hr1 hc1
  have HB := Aside0.mk (Below.refl w.heap.size w)
  have H : ((cisternlaw11_known.f).bind fun t366 => (if t366 = true then (cisternlaw11_NodeGrows.l0 k l0 l1 0 true ([] : List (S48)) ([] : List ByteArray) ([] : List Int)) else (some false))) = some r := h
  clear h
  replace H := Option.bind_eq_some_iff.mp H
  obtain ⟨t366, A30, H⟩ := H
  replace H : (if t366 = true then (cisternlaw11_NodeGrows.l0 k l0 l1 0 true ([] : List (S48)) ([] : List ByteArray) ([] : List Int)) else (some false)) = some r := H
  have A3 := Aside0.mk A30
  clear A30
  by_cases c4 : t366 = true
  · subst c4
    have H1 : (cisternlaw11_NodeGrows.l0 k l0 l1 0 true ([] : List (S48)) ([] : List ByteArray) ([] : List Int)) = some r := by rw [if_pos rfl] at H; exact H
    clear H
    have H := H1
    clear H1
    have H' := Aside0.mk H
    clear H
    go_enter Try.func8, Try.ntmps8
    go_wp2_with (first | ((with_reducible refine gate_callee (f := 12) rfl ?_); refine goesL_ (some 13) rfl rfl Try.func12 (by kernel_rfl) rfl #[] rfl (by (try simp only [List.map_toArray, List.map_cons, List.map_nil]); first | done | rfl | (simp only [List.length_drop, List.length_take]; rfl)) ?_; (with_reducible refine (cisternlaw11_known.calls  true _ A3.out).mono ?_); rintro e w5 ⟨rfl, hb⟩; refine ⟨_, rfl, ?_⟩; have n0_ := Aside0.mk (below_step (by repeat (first | (with_reducible first | exact HB.out | apply below_alloc | apply pw_below_drewN | apply below_drew1) | exact HB.out)) hb); clear HB; have HB := n0_; clear n0_; (try clear hb); (try clear hb2); (try clear hk); (try clear hi)) | ((with_reducible refine gate_dst (N := 5) rfl ?_); (try (refine gate_guard (by rfl) ?_; dsimp only)); refine box_event ?hg (N := 5) ?hd (cs := #[.bool false, .slice none 0 0, .slice none 0 0, .slice none 0 0]) (t := 31) ?hr ?_; (case hd => rfl); (case hg => rfl); (case hr => first | (go_simp; done) | (go_simp; rfl)); intro gb367 hg w6 hbox hb; have n0_ := Aside0.mk (below_step (by repeat (first | (with_reducible first | exact HB.out | apply below_alloc | apply pw_below_drewN | apply below_drew1) | exact HB.out)) hb); have n1_ := Aside0.mk (hbox); have n2_ := Aside0.mk ((by rw [hg]; exact (below_size (by repeat (first | (with_reducible first | exact HB.out | apply below_alloc | apply pw_below_drewN | apply below_drew1) | exact HB.out))) : w.heap.size ≤ gb367)); have n3_ := Aside0.mk ((by rw [hg]; exact (below_size (by repeat (first | (with_reducible first | exact HB.out | apply below_alloc | apply pw_below_drewN | apply below_drew1) | exact HB.out))) : w.heap.size ≤ gb367)); clear HB; have HB := n0_; have BK367 := n1_; have GW367 := n2_; have GE367 := n3_; clear n0_ n1_ n2_ n3_; clear hb hbox hg; have hcz7_0 : w6.cell? ⟨gb367, 0, none⟩ = some (.bool false) := (blk_cell BK367.out 0).trans rfl; have hcz7_1 : w6.cell? ⟨gb367, 1, none⟩ = some (.slice none 0 0) := (blk_cell BK367.out 1).trans rfl; have hcz7_2 : w6.cell? ⟨gb367, 2, none⟩ = some (.slice none 0 0) := (blk_cell BK367.out 2).trans rfl; have hcz7_3 : w6.cell? ⟨gb367, 3, none⟩ = some (.slice none 0 0) := (blk_cell BK367.out 3).trans rfl; have hfz7_0 := blk_frozen BK367.out 0; have hfz7_1 := blk_frozen BK367.out 1; have hfz7_2 := blk_frozen BK367.out 2; have hfz7_3 := blk_frozen BK367.out 3))
    go_loopg [6] k (fun kq v6 w' => ∃ (x6_1 : Int) (x368000_1 : Bool) (x368001_1 : List (S48)) (x368002_1 : List ByteArray) (x368003_1 : List Int) (u368001 : Value) (u368002 : Value) (u368003 : Value), v6 = .int .i64 x6_1 ∧ Aside0 (cisternlaw11_NodeGrows.l0 kq l0 l1 x6_1 x368000_1 x368001_1 x368002_1 x368003_1 = some r) ∧ Aside0 (kq ≤ k) ∧ Aside0 (Kd.R k48 48 w' w.heap.size (fun _ => True) u368001 x368001_1) ∧ Aside0 (Kd.R Kd.string 9 w' w.heap.size (fun _ => True) u368002 x368002_1) ∧ Aside0 (Kd.R (Kd.int .i64) 3 w' w.heap.size (fun _ => True) u368003 x368003_1) ∧ Aside0 (w'.heap[gb367]? = some (.cells #[.bool x368000_1, u368001, u368002, u368003] 31 (0, 0))) ∧ Aside0 (Below w.heap.size w w'))
    case atStart => exact ⟨(0), (true), (([] : List (S48))), (([] : List ByteArray)), (([] : List Int)), (.slice none 0 0), (.slice none 0 0), (.slice none 0 0), (by first | rfl | (simp; done) | (simp [*]; done)), H', ⟨Nat.le_refl _⟩, ⟨by first | exact Kd.R_nil _ _ _ _ _ | exact Kd.N_nil _ _ _ _ _ | exact Kd.V_nil _ _ _ _ _ | exact Kd.Q_nil _ _ _ _ _ | exact Kd.S_nil _ _ _ _ _⟩, ⟨by first | exact Kd.R_nil _ _ _ _ _ | exact Kd.N_nil _ _ _ _ _ | exact Kd.V_nil _ _ _ _ _ | exact Kd.Q_nil _ _ _ _ _ | exact Kd.S_nil _ _ _ _ _⟩, ⟨by first | exact Kd.R_nil _ _ _ _ _ | exact Kd.N_nil _ _ _ _ _ | exact Kd.V_nil _ _ _ _ _ | exact Kd.Q_nil _ _ _ _ _ | exact Kd.S_nil _ _ _ _ _⟩, ⟨by (with_reducible repeat (first | refine blk_drewN ?_ _ | refine blk_drew ?_ | refine blk_alloc ?_ _)); refine blk_put (cs := #[.bool true, .slice none 0 0, .slice none 0 0, .slice none 0 0]) ?_ 3 _ rfl; (with_reducible repeat (first | refine blk_drewN ?_ _ | refine blk_drew ?_ | refine blk_alloc ?_ _)); refine blk_put (cs := #[.bool true, .slice none 0 0, .slice none 0 0, .slice none 0 0]) ?_ 2 _ rfl; (with_reducible repeat (first | refine blk_drewN ?_ _ | refine blk_drew ?_ | refine blk_alloc ?_ _)); refine blk_put (cs := #[.bool true, .slice none 0 0, .slice none 0 0, .slice none 0 0]) ?_ 1 _ rfl; (with_reducible repeat (first | refine blk_drewN ?_ _ | refine blk_drew ?_ | refine blk_alloc ?_ _)); refine blk_put (cs := #[.bool false, .slice none 0 0, .slice none 0 0, .slice none 0 0]) ?_ 0 _ rfl; (with_reducible repeat (first | refine blk_drewN ?_ _ | refine blk_drew ?_ | refine blk_alloc ?_ _)); exact BK367.out⟩, ⟨by repeat (first | (with_reducible first | exact HB.out | apply below_alloc | apply pw_below_drewN | apply below_drew1 | refine below_set ?_ GE367.out) | exact HB.out)⟩⟩
    case round =>
      clear H'
      try clear c1
      try clear p2
      try clear c4
      try clear hcz7_0
      try clear hcz7_1
      try clear hcz7_2
      try clear hcz7_3
      try clear hfz7_0
      try clear hfz7_1
      try clear hfz7_2
      try clear hfz7_3
      obtain ⟨x6_1, x368000_1, x368001_1, x368002_1, x368003_1, u368001, u368002, u368003, rfl, HA, HK1, HO_368001, HO_368002, HO_368003, BK367, HB⟩ := hrel
      cases gk with
      | zero => exact absurd HA.out (by simp [cisternlaw11_NodeGrows.l0])
      | succ k1 =>
        have H := HA.out
        clear HA
        simp only [cisternlaw11_NodeGrows.l0] at H
        have HC8 := Aside0.mk H
        clear H
        go_upto_region 5 with (fail)
        go_cut [23] (fun v23 wc => ∃ (kq : Nat) (x23_7 : Bool), v23 = .bool x23_7 ∧ Aside0 (cisternlaw11_NodeGrows.j1 kq l0 l1 x6_1 x23_7 x368000_1 x368001_1 x368002_1 x368003_1 = some r) ∧ Aside0 (kq ≤ k1) ∧ Aside0 (Kd.R k48 48 wc w.heap.size (fun _ => True) u368001 x368001_1) ∧ Aside0 (Kd.R Kd.string 9 wc w.heap.size (fun _ => True) u368002 x368002_1) ∧ Aside0 (Kd.R (Kd.int .i64) 3 wc w.heap.size (fun _ => True) u368003 x368003_1) ∧ Aside0 (wc.heap[gb367]? = some (.cells #[.bool x368000_1, u368001, u368002, u368003] 31 (0, 0))) ∧ Aside0 (Below w.heap.size w wc))
        case first =>
          have H := HC8.out
          clear HC8
          by_cases c9 : x6_1 < (l0.length : Int)
          · rw [if_pos c9] at H
            have c9b0 : decide (x6_1 < (l0.length : Int)) = true := decide_eq_true c9
            clear c9
            (first | rw [c9b0] | (simp only [i64_w, i32_w]; rw [c9b0]) | skip)
            have H' := Aside0.mk H
            clear H
            go_wp2
            go_meet
            case rel => exact ⟨_, (decide (x6_1 < 60)), (by first | rfl | (simp; done) | (simp [*]; done)), H', ⟨by have := HK1.out; first | omega | exact Nat.le_refl _⟩, ⟨by (with_reducible repeat (first | apply Kd.R_alloc | apply Kd.R_drewN | apply Kd.R_drew)); exact HO_368001.out⟩, ⟨by (with_reducible repeat (first | apply Kd.R_alloc | apply Kd.R_drewN | apply Kd.R_drew)); exact HO_368002.out⟩, ⟨by (with_reducible repeat (first | apply Kd.R_alloc | apply Kd.R_drewN | apply Kd.R_drew)); exact HO_368003.out⟩, ⟨by (with_reducible repeat (first | refine blk_drewN ?_ _ | refine blk_drew ?_ | refine blk_alloc ?_ _)); exact BK367.out⟩, ⟨by repeat (first | (with_reducible first | exact HB.out | apply below_alloc | apply pw_below_drewN | apply below_drew1 | refine below_set ?_ GE367.out) | exact HB.out)⟩⟩
          · rw [if_neg c9] at H
            have c9b0 : decide (x6_1 < (l0.length : Int)) = false := decide_eq_false c9
            clear c9
            (first | rw [c9b0] | (simp only [i64_w, i32_w]; rw [c9b0]) | skip)
            have H' := Aside0.mk H
            clear H
            go_wp2
            go_meet
            case rel => exact ⟨_, (false), (by first | rfl | (simp; done) | (simp [*]; done)), H', ⟨by have := HK1.out; first | omega | exact Nat.le_refl _⟩, ⟨by (with_reducible repeat (first | apply Kd.R_alloc | apply Kd.R_drewN | apply Kd.R_drew)); exact HO_368001.out⟩, ⟨by (with_reducible repeat (first | apply Kd.R_alloc | apply Kd.R_drewN | apply Kd.R_drew)); exact HO_368002.out⟩, ⟨by (with_reducible repeat (first | apply Kd.R_alloc | apply Kd.R_drewN | apply Kd.R_drew)); exact HO_368003.out⟩, ⟨by (with_reducible repeat (first | refine blk_drewN ?_ _ | refine blk_drew ?_ | refine blk_alloc ?_ _)); exact BK367.out⟩, ⟨by repeat (first | (with_reducible first | exact HB.out | apply below_alloc | apply pw_below_drewN | apply below_drew1 | refine below_set ?_ GE367.out) | exact HB.out)⟩⟩
        case rest =>
          clear HC8
          try clear c1
          try clear p2
          try clear c4
          try clear c8
          try clear c9
          try clear c9b0
          try clear hcz7_0
          try clear hcz7_1
          try clear hcz7_2
          try clear hcz7_3
          try clear hfz7_0
          try clear hfz7_1
          try clear hfz7_2
          try clear hfz7_3
          try clear p2
          obtain ⟨kq, x23_7, rfl, HA, HJ7, HO_368001, HO_368002, HO_368003, BK367, HB⟩ := hcut
          cases kq with
          | zero => exact absurd HA.out (by simp [cisternlaw11_NodeGrows.j1])
          | succ kj7 =>
            have H := HA.out
            clear HA
            simp only [cisternlaw11_NodeGrows.j1] at H
            by_cases c10 : x23_7 = true
            · subst c10
              have H1 : (if x6_1 < (l1.length : Int) then (if 0 ≤ x6_1 then (cisternlaw11_NodeGrows.j2 kj7 l0 l1 x6_1 (rdOf ByteArray.empty l1 x6_1) x368000_1 x368001_1 x368002_1 x368003_1) else (none)) else (cisternlaw11_NodeGrows.j2 kj7 l0 l1 x6_1 (⟨#[]⟩ : ByteArray) x368000_1 x368001_1 x368002_1 x368003_1)) = some r := by rw [if_pos rfl] at H; exact H
              clear H
              have H := H1
              clear H1
              have HC11 := Aside0.mk H
              clear H
              go_upto_if 29 with (fail)
              go_cut [7] (fun v7 wc => ∃ (kq : Nat) (x7_10 : ByteArray), v7 = .string x7_10 ∧ Aside0 (cisternlaw11_NodeGrows.j2 kq l0 l1 x6_1 x7_10 x368000_1 x368001_1 x368002_1 x368003_1 = some r) ∧ Aside0 (kq ≤ kj7) ∧ Aside0 (Kd.R k48 48 wc w.heap.size (fun _ => True) u368001 x368001_1) ∧ Aside0 (Kd.R Kd.string 9 wc w.heap.size (fun _ => True) u368002 x368002_1) ∧ Aside0 (Kd.R (Kd.int .i64) 3 wc w.heap.size (fun _ => True) u368003 x368003_1) ∧ Aside0 (wc.heap[gb367]? = some (.cells #[.bool x368000_1, u368001, u368002, u368003] 31 (0, 0))) ∧ Aside0 (Below w.heap.size w wc))
              case first =>
                have H := HC11.out
                clear HC11
                by_cases c12 : x6_1 < (l1.length : Int)
                · rw [if_pos c12] at H
                  have c12b0 : decide (x6_1 < (l1.length : Int)) = true := decide_eq_true c12
                  clear c12
                  (first | rw [c12b0] | (simp only [i64_w, i32_w]; rw [c12b0]) | skip)
                  by_cases c13 : 0 ≤ x6_1
                  · rw [if_pos c13] at H
                    have c13b0 : decide (0 ≤ x6_1) = true := decide_eq_true c13
                    clear c13
                    have H' := Aside0.mk H
                    clear H
                    have p368 : 0 ≤ (x6_1 : Int) := of_decide_eq_true (by first | (with_reducible assumption) | assumption)
                    have q368 : x6_1 < (l1.length : Int) := of_decide_eq_true (by first | (with_reducible assumption) | assumption)
                    obtain ⟨ad368, e368, hx368_0⟩ := Kd.at_string HR1.out x6_1 p368 q368
                    cases e368
                    replace hx368_0 := (HB.out.cell (World.block_lt_of_cell? w _ hx368_0)).trans hx368_0
                    replace p368 := eq_true p368
                    replace q368 := eq_true q368
                    go_wp2
                    go_meet
                    case rel => exact ⟨_, (rdOf ByteArray.empty l1 x6_1), (by first | rfl | (simp; done) | (simp [*]; done)), H', ⟨by have := HK1.out; have := HJ7.out; first | omega | exact Nat.le_refl _⟩, ⟨by (with_reducible repeat (first | apply Kd.R_alloc | apply Kd.R_drewN | apply Kd.R_drew)); exact HO_368001.out⟩, ⟨by (with_reducible repeat (first | apply Kd.R_alloc | apply Kd.R_drewN | apply Kd.R_drew)); exact HO_368002.out⟩, ⟨by (with_reducible repeat (first | apply Kd.R_alloc | apply Kd.R_drewN | apply Kd.R_drew)); exact HO_368003.out⟩, ⟨by (with_reducible repeat (first | refine blk_drewN ?_ _ | refine blk_drew ?_ | refine blk_alloc ?_ _)); exact BK367.out⟩, ⟨by repeat (first | (with_reducible first | exact HB.out | apply below_alloc | apply pw_below_drewN | apply below_drew1 | refine below_set ?_ GE367.out) | exact HB.out)⟩⟩
                  · rw [if_neg c13] at H
                    exact absurd H (by simp)
                · rw [if_neg c12] at H
                  have c12b0 : decide (x6_1 < (l1.length : Int)) = false := decide_eq_false c12
                  clear c12
                  (first | rw [c12b0] | (simp only [i64_w, i32_w]; rw [c12b0]) | skip)
                  have H' := Aside0.mk H
                  clear H
                  go_wp2
                  go_meet
                  case rel => exact ⟨_, ((⟨#[]⟩ : ByteArray)), (by first | rfl | (simp; done) | (simp [*]; done)), H', ⟨by have := HK1.out; have := HJ7.out; first | omega | exact Nat.le_refl _⟩, ⟨by (with_reducible repeat (first | apply Kd.R_alloc | apply Kd.R_drewN | apply Kd.R_drew)); exact HO_368001.out⟩, ⟨by (with_reducible repeat (first | apply Kd.R_alloc | apply Kd.R_drewN | apply Kd.R_drew)); exact HO_368002.out⟩, ⟨by (with_reducible repeat (first | apply Kd.R_alloc | apply Kd.R_drewN | apply Kd.R_drew)); exact HO_368003.out⟩, ⟨by (with_reducible repeat (first | refine blk_drewN ?_ _ | refine blk_drew ?_ | refine blk_alloc ?_ _)); exact BK367.out⟩, ⟨by repeat (first | (with_reducible first | exact HB.out | apply below_alloc | apply pw_below_drewN | apply below_drew1 | refine below_set ?_ GE367.out) | exact HB.out)⟩⟩
              case rest =>
                clear HC11
                try clear c1
                try clear p2
                try clear p3
                try clear q3
                try clear hx3
                try clear c4
                try clear c8
                try clear c9
                try clear c9b0
                try clear c10
                try clear c12
                try clear c12b0
                try clear c13
                try clear c13b0
                try clear hcz7_0
                try clear hcz7_1
                try clear hcz7_2
                try clear hcz7_3
                try clear hfz7_0
                try clear hfz7_1
                try clear hfz7_2
                try clear hfz7_3
                try clear hx368_0
                try clear p2
                try clear p368
                try clear q368
                obtain ⟨kq, x7_10, rfl, HA, HJ10, HO_368001, HO_368002, HO_368003, BK367, HB⟩ := hcut
                cases kq with
                | zero => exact absurd HA.out (by simp [cisternlaw11_NodeGrows.j2])
                | succ kj10 =>
                  have H := HA.out
                  clear HA
                  simp only [cisternlaw11_NodeGrows.j2] at H
                  by_cases c14 : 0 ≤ x6_1
                  · rw [if_pos c14] at H
                    have c14b0 : decide (0 ≤ x6_1) = true := decide_eq_true c14
                    clear c14
                    by_cases c15 : x6_1 < (l0.length : Int)
                    · rw [if_pos c15] at H
                      have c15b0 : decide (x6_1 < (l0.length : Int)) = true := decide_eq_true c15
                      clear c15
                      replace H := Option.bind_eq_some_iff.mp H
                      obtain ⟨⟨t370, t371, t374, t377, t380⟩, A160, H⟩ := H
                      replace H : ((cisternref11_Key.f (rdOf ByteArray.empty l0 x6_1)).bind fun t383 => (if t383 = true then (cisternlaw11_NodeGrows.j3 kj10 l0 l1 x6_1 t380 (decide ((x7_10.size : Int) > 48)) x368000_1 x368001_1 x368002_1 x368003_1 t370 t371 t374 t377) else (cisternlaw11_NodeGrows.j3 kj10 l0 l1 x6_1 t380 true x368000_1 x368001_1 x368002_1 x368003_1 t370 t371 t374 t377))) = some r := H
                      have A16 := Aside0.mk A160
                      clear A160
                      have HC17 := Aside0.mk H
                      clear H
                      obtain ⟨Ao18, co18, eo18⟩ := Kd.R_slice HO_368001.out
                      subst eo18
                      obtain ⟨Ao19, co19, eo19⟩ := Kd.R_slice HO_368002.out
                      subst eo19
                      obtain ⟨Ao20, co20, eo20⟩ := Kd.R_slice HO_368003.out
                      subst eo20
                      try go_wp2
                      have n0_ := Aside0.mk (Kd.R_drew HO_368001.out)
                      have n1_ := Aside0.mk (Kd.R_drew HO_368002.out)
                      have n2_ := Aside0.mk (Kd.R_drew HO_368003.out)
                      have n3_ := Aside0.mk (blk_drew BK367.out)
                      have n4_ := Aside0.mk (below_drew1 HB.out)
                      clear HO_368001
                      clear HO_368002
                      clear HO_368003
                      clear BK367
                      clear HB
                      have HO_368001 := n0_
                      have HO_368002 := n1_
                      have HO_368003 := n2_
                      have BK367 := n3_
                      have HB := n4_
                      clear n0_ n1_ n2_ n3_ n4_
                      have p369 : 0 ≤ (x6_1 : Int) := of_decide_eq_true (by first | (with_reducible assumption) | assumption)
                      have q369 : x6_1 < (l0.length : Int) := of_decide_eq_true (by first | (with_reducible assumption) | assumption)
                      obtain ⟨ad369, e369, hx369_0⟩ := Kd.at_string HR0.out x6_1 p369 q369
                      have hw369_0 := hx369_0
                      cases e369
                      replace hx369_0 := (HB.out.cell (World.block_lt_of_cell? w _ hx369_0)).trans hx369_0
                      replace p369 := eq_true p369
                      replace q369 := eq_true q369
                      refine start_ (n := 14) (S := fun w' => w'.cell? ⟨gb367, 0, none⟩ = some (.bool x368000_1) ∧ w'.cell? ⟨gb367, 1, none⟩ = some (.slice Ao18 x368001_1.length co18) ∧ w'.cell? ⟨gb367, 2, none⟩ = some (.slice Ao19 x368002_1.length co19) ∧ w'.cell? ⟨gb367, 3, none⟩ = some (.slice Ao20 x368003_1.length co20) ∧ w'.cell? (ad369.add (x6_1).toNat) = some (.string (rdOf ByteArray.empty l0 x6_1))) (ds := []) #[false, false, false, false, false, false, false, false, false, false, false, false, false, false] (by kernel_rfl) rfl rfl ⟨(blk_cell BK367.out 0).trans rfl, (blk_cell BK367.out 1).trans rfl, (blk_cell BK367.out 2).trans rfl, (blk_cell BK367.out 3).trans rfl, ((HB.out.cell (World.block_lt_of_cell? w _ hw369_0)).trans hw369_0)⟩ (fun hHeld => ?_); refine with_tabW cisternlaw11_NodeGrows.tab10 cisternlaw11_NodeGrows.bits10 (fun HT_ HW_ => ?_)
                      generalize wc.drew = w21 at HO_368001 HO_368002 HO_368003 BK367 HB hx369_0 hHeld ⊢
                      refine pure_ (i := 1) (N := some 36) (v := ?_) (a' := ?_) #[false, true, false, false, false, false, false, false, false, false, false, false, false, false] rfl rfl (any_of HT_.out (by kernel_rfl)) (fun _ _ _ h => h) (Or.inl ⟨by rfl, ?_⟩) ?_ ?_
                      rotate_left
                      · intro w'
                        go_simp
                        with_reducible rfl
                      rotate_left
                      · simp only [Act.put, List.setIfInBounds_toArray, List.set_cons_zero, List.set_cons_succ, i64_w, i32_w]
                        rfl
                      refine pure_ (i := 2) (N := some 37) (v := ?_) (a' := ?_) #[false, true, true, false, false, false, false, false, false, false, false, false, false, false] rfl rfl (any_of HT_.out (by kernel_rfl)) (fun _ _ _ h => h) (Or.inl ⟨by rfl, ?_⟩) ?_ ?_
                      rotate_left
                      · intro w'
                        go_simp
                        with_reducible rfl
                      rotate_left
                      · simp only [Act.put, List.setIfInBounds_toArray, List.set_cons_zero, List.set_cons_succ, i64_w, i32_w]
                        rfl
                      refine pure_ (i := 3) (N := some 38) (v := ?_) (a' := ?_) #[false, true, true, true, false, false, false, false, false, false, false, false, false, false] rfl rfl (any_of HT_.out (by kernel_rfl)) (fun _ _ _ h => h) (Or.inl ⟨by rfl, ?_⟩) ?_ ?_
                      rotate_left
                      · intro w'
                        go_simp
                        with_reducible rfl
                      rotate_left
                      · simp only [Act.put, List.setIfInBounds_toArray, List.set_cons_zero, List.set_cons_succ, i64_w, i32_w]
                        rfl
                      refine pure_ (i := 5) (N := some 40) (v := ?_) (a' := ?_) #[false, true, true, true, false, true, false, false, false, false, false, false, false, false] rfl rfl (any_of HT_.out (by kernel_rfl)) (fun _ _ _ h => h) (Or.inl ⟨by rfl, ?_⟩) ?_ ?_
                      rotate_left
                      · intro w'
                        go_simp
                        with_reducible rfl
                      rotate_left
                      · simp only [Act.put, List.setIfInBounds_toArray, List.set_cons_zero, List.set_cons_succ, i64_w, i32_w]
                        rfl
                      refine take_ (i := 0) (N := some 35) (v := ?_) (a' := ?_) #[true, true, true, true, false, true, false, false, false, false, false, false, false, false] rfl rfl (take_ofW HT_.out HW_.out (by kernel_rfl)) (fun _ _ _ h => h) (Or.inl ⟨by rfl, ?_⟩) hHeld ?_ ?_
                      rotate_left
                      · rintro w' ⟨s0, s1, s2, s3, s4⟩
                        go_simp
                        with_reducible rfl
                      rotate_left
                      · simp only [Act.put, List.setIfInBounds_toArray, List.set_cons_zero, List.set_cons_succ, i64_w, i32_w]
                        rfl
                      refine take_ (i := 4) (N := some 39) (v := ?_) (a' := ?_) #[true, true, true, true, true, true, false, false, false, false, false, false, false, false] rfl rfl (take_ofW HT_.out HW_.out (by kernel_rfl)) (fun _ _ _ h => h) (Or.inl ⟨by rfl, ?_⟩) hHeld ?_ ?_
                      rotate_left
                      · rintro w' ⟨s0, s1, s2, s3, s4⟩
                        go_simp
                        with_reducible rfl
                      rotate_left
                      · simp only [Act.put, List.setIfInBounds_toArray, List.set_cons_zero, List.set_cons_succ, i64_w, i32_w]
                        rfl
                      refine pure_ (i := 6) (N := some 41) (v := ?_) (a' := ?_) #[true, true, true, true, true, true, true, false, false, false, false, false, false, false] rfl rfl (any_of HT_.out (by kernel_rfl)) (fun _ _ _ h => h) (Or.inl ⟨by rfl, ?_⟩) ?_ ?_
                      rotate_left
                      · intro w'
                        go_simp
                        with_reducible rfl
                      rotate_left
                      · simp only [Act.put, List.setIfInBounds_toArray, List.set_cons_zero, List.set_cons_succ, i64_w, i32_w]
                        rfl
                      refine join_ (σ := Value × Value × Value × Nat) 2 #[true, true, true, true, true, true, true, true, true, true, true, true, false, false] (fun s_ => [(42, .tuple #[.agg #[.bool t370, s_.1, s_.2.1, s_.2.2.1], .int .i64 t380]), (8, .pointer (some ⟨s_.2.2.2, 0, none⟩)), (34, .tuple #[.agg #[.bool t370, s_.1, s_.2.1, s_.2.2.1], .int .i64 t380]), (43, .agg #[.bool t370, s_.1, s_.2.1, s_.2.2.1]), (44, .int .i64 t380)]) (fun s_ w' => (w'.cell? ⟨gb367, 0, none⟩ = some (.bool x368000_1) ∧ w'.cell? ⟨gb367, 1, none⟩ = some (.slice Ao18 x368001_1.length co18) ∧ w'.cell? ⟨gb367, 2, none⟩ = some (.slice Ao19 x368002_1.length co19) ∧ w'.cell? ⟨gb367, 3, none⟩ = some (.slice Ao20 x368003_1.length co20) ∧ w'.cell? (ad369.add (x6_1).toNat) = some (.string (rdOf ByteArray.empty l0 x6_1))) ∧ (Kd.R k48 48 w' w.heap.size (fun k_ => some k_ ≠ (.slice Ao18 x368001_1.length co18 : Value).ownBlock) s_.1 t371) ∧ (Kd.R Kd.string 9 w' w.heap.size (fun k_ => some k_ ≠ (.slice Ao19 x368002_1.length co19 : Value).ownBlock) s_.2.1 t374) ∧ (Kd.R (Kd.int .i64) 3 w' w.heap.size (fun k_ => some k_ ≠ (.slice Ao20 x368003_1.length co20 : Value).ownBlock) s_.2.2.1 t377) ∧ (Kd.R k48 48 w' w.heap.size (fun k_ => some k_ ≠ (s_.1 : Value).ownBlock) (.slice Ao18 x368001_1.length co18) x368001_1) ∧ (Kd.R Kd.string 9 w' w.heap.size (fun k_ => some k_ ≠ (s_.2.1 : Value).ownBlock) (.slice Ao19 x368002_1.length co19) x368002_1) ∧ (Kd.R (Kd.int .i64) 3 w' w.heap.size (fun k_ => some k_ ≠ (s_.2.2.1 : Value).ownBlock) (.slice Ao20 x368003_1.length co20) x368003_1) ∧ (w'.heap[gb367]? = some (.cells #[.bool x368000_1, .slice Ao18 x368001_1.length co18, .slice Ao19 x368002_1.length co19, .slice Ao20 x368003_1.length co20] 31 (0, 0))) ∧ (w'.heap[s_.2.2.2]? = some (.cells #[.bool false, .slice none 0 0, .slice none 0 0, .slice none 0 0] 31 (0, 0))) ∧ (w.heap.size ≤ s_.2.2.2) ∧ (w.heap.size ≤ s_.2.2.2) ∧ (gb367 ≠ s_.2.2.2) ∧ (s_.2.2.2 ≠ gb367) ∧ (Below w.heap.size w w')) ?_ ?_
                      rotate_left
                      · intro hCont
                        refine two_ (i := 7) (j := 11) (Ni := some 42) (Nj := some 8) #[true, true, true, true, true, true, true, true, false, false, false, false, false, false] #[true, true, true, true, true, true, true, false, false, false, false, true, false, false] rfl rfl rfl rfl (two_of HT_.out (by kernel_rfl)) (by decide) (by decide) (fun K hK => ?_) (fun K hK => ?_)
                        · skip
                          refine goes_ Try.func28 (by kernel_rfl) rfl #[.agg #[.bool x368000_1, .slice Ao18 x368001_1.length co18, .slice Ao19 x368002_1.length co19, .slice Ao20 x368003_1.length co20], .agg #[.string (rdOf ByteArray.empty l0 x6_1), .string x7_10]] (by rfl) rfl rfl (by (try simp only [List.map_toArray, List.map_cons, List.map_nil]); first | done | rfl | (simp only [List.length_drop, List.length_take]; rfl)) ?_
                          with_reducible refine (node_Put.calls x368000_1 _ _ x368001_1 _ _ x368002_1 _ _ x368003_1 (rdOf ByteArray.empty l0 x6_1) x7_10 t370 t371 t374 t377 t380 _ ?side1 ?side2 ?side3 ?side4 ?side5 ?side6 A16.out).mono ?_
                          (case side1 => repeat (first | exact (Kd.R_reads' HO_368001.out).2.2 | (with_reducible refine Kd.C_alloc ?_ _) | (with_reducible refine Kd.C_drewN ?_ _) | (with_reducible refine Kd.C_drew ?_)))
                          (case side2 => exact (Kd.R_reads' HO_368001.out).2.1)
                          (case side3 => repeat (first | exact (Kd.R_reads' HO_368002.out).2.2 | (with_reducible refine Kd.C_alloc ?_ _) | (with_reducible refine Kd.C_drewN ?_ _) | (with_reducible refine Kd.C_drew ?_)))
                          (case side4 => exact (Kd.R_reads' HO_368002.out).2.1)
                          (case side5 => repeat (first | exact (Kd.R_reads' HO_368003.out).2.2 | (with_reducible refine Kd.C_alloc ?_ _) | (with_reducible refine Kd.C_drewN ?_ _) | (with_reducible refine Kd.C_drew ?_)))
                          (case side6 => exact (Kd.R_reads' HO_368003.out).2.1)
                          rintro e w22 ⟨v372, v375, v378, rfl, ho0, ho1, ho2, hb⟩
                          refine ⟨_, rfl, ?_⟩
                          have n0_ := Aside0.mk (Kd.R_elder' (by (with_reducible repeat (first | apply Kd.R_alloc | apply Kd.R_drewN | apply Kd.R_drew)); exact HO_368001.out) (Kd.R_base ho0) hb)
                          have n1_ := Aside0.mk (Kd.R_elder' (by (with_reducible repeat (first | apply Kd.R_alloc | apply Kd.R_drewN | apply Kd.R_drew)); exact HO_368002.out) (Kd.R_base ho1) hb)
                          have n2_ := Aside0.mk (Kd.R_elder' (by (with_reducible repeat (first | apply Kd.R_alloc | apply Kd.R_drewN | apply Kd.R_drew)); exact HO_368003.out) (Kd.R_base ho2) hb)
                          have n3_ := Aside0.mk (Kd.R_lower (Kd.R_new' ho0 (Kd.R_lt (by (with_reducible repeat (first | apply Kd.R_alloc | apply Kd.R_drewN | apply Kd.R_drew)); exact HO_368001.out))) (below_size (by repeat (first | (with_reducible first | exact HB.out | apply below_alloc | apply pw_below_drewN | apply below_drew1 | refine below_set ?_ GE367.out) | exact HB.out))))
                          have n4_ := Aside0.mk (Kd.R_lower (Kd.R_new' ho1 (Kd.R_lt (by (with_reducible repeat (first | apply Kd.R_alloc | apply Kd.R_drewN | apply Kd.R_drew)); exact HO_368002.out))) (below_size (by repeat (first | (with_reducible first | exact HB.out | apply below_alloc | apply pw_below_drewN | apply below_drew1 | refine below_set ?_ GE367.out) | exact HB.out))))
                          have n5_ := Aside0.mk (Kd.R_lower (Kd.R_new' ho2 (Kd.R_lt (by (with_reducible repeat (first | apply Kd.R_alloc | apply Kd.R_drewN | apply Kd.R_drew)); exact HO_368003.out))) (below_size (by repeat (first | (with_reducible first | exact HB.out | apply below_alloc | apply pw_below_drewN | apply below_drew1 | refine below_set ?_ GE367.out) | exact HB.out))))
                          have n6_ := Aside0.mk (blk_below (g := gb367) (o := .cells #[.bool x368000_1, .slice Ao18 x368001_1.length co18, .slice Ao19 x368002_1.length co19, .slice Ao20 x368003_1.length co20] 31 (0, 0)) (by (with_reducible repeat (first | refine blk_drewN ?_ _ | refine blk_drew ?_ | refine blk_alloc ?_ _)); exact BK367.out) hb)
                          have n7_ := Aside0.mk (below_step (by repeat (first | (with_reducible first | exact HB.out | apply below_alloc | apply pw_below_drewN | apply below_drew1 | refine below_set ?_ GE367.out) | exact HB.out)) hb)
                          clear HO_368001
                          clear HO_368002
                          clear HO_368003
                          clear BK367
                          clear HB
                          have HO_368001 := n0_
                          have HO_368002 := n1_
                          have HO_368003 := n2_
                          have HO373 := n3_
                          have HO376 := n4_
                          have HO379 := n5_
                          have BK367 := n6_
                          have HB := n7_
                          clear n0_ n1_ n2_ n3_ n4_ n5_ n6_ n7_
                          (try clear hb)
                          (try clear hb2)
                          (try clear hk)
                          (try clear hi)
                          (try clear ho0)
                          (try clear ho1)
                          (try clear ho2)
                          refine hK.out _ _ ⟨(blk_cell BK367.out 0).trans rfl, (blk_cell BK367.out 1).trans rfl, (blk_cell BK367.out 2).trans rfl, (blk_cell BK367.out 3).trans rfl, ((HB.out.cell (World.block_lt_of_cell? w _ hw369_0)).trans hw369_0)⟩ (fun hHeld => ?_)
                          clear hK K
                          refine norm_ (a' := ?_) ?_ ?_
                          rotate_left
                          · show Act.put _ (some 42) _ = _
                            simp only [Act.put, List.setIfInBounds_toArray, List.set_cons_zero, List.set_cons_succ, i64_w, i32_w]
                            rfl
                          refine pure_ (i := 8) (N := some 34) (v := ?_) (a' := ?_) #[true, true, true, true, true, true, true, true, true, false, false, false, false, false] rfl rfl (any_of HT_.out (by kernel_rfl)) (fun _ _ _ h => h) (Or.inl ⟨by rfl, ?_⟩) ?_ ?_
                          rotate_left
                          · intro w'
                            go_simp
                            with_reducible rfl
                          rotate_left
                          · simp only [Act.put, List.setIfInBounds_toArray, List.set_cons_zero, List.set_cons_succ, i64_w, i32_w]
                            rfl
                          refine pure_ (i := 9) (N := some 43) (v := ?_) (a' := ?_) #[true, true, true, true, true, true, true, true, true, true, false, false, false, false] rfl rfl (any_of HT_.out (by kernel_rfl)) (fun _ _ _ h => h) (Or.inl ⟨by rfl, ?_⟩) ?_ ?_
                          rotate_left
                          · intro w'
                            go_simp
                            with_reducible rfl
                          rotate_left
                          · simp only [Act.put, List.setIfInBounds_toArray, List.set_cons_zero, List.set_cons_succ, i64_w, i32_w]
                            rfl
                          refine pure_ (i := 10) (N := some 44) (v := ?_) (a' := ?_) #[true, true, true, true, true, true, true, true, true, true, true, false, false, false] rfl rfl (any_of HT_.out (by kernel_rfl)) (fun _ _ _ h => h) (Or.inl ⟨by rfl, ?_⟩) ?_ ?_
                          rotate_left
                          · intro w'
                            go_simp
                            with_reducible rfl
                          rotate_left
                          · simp only [Act.put, List.setIfInBounds_toArray, List.set_cons_zero, List.set_cons_succ, i64_w, i32_w]
                            rfl
                          refine one_ (i := 11) (N := some 8) #[true, true, true, true, true, true, true, true, true, true, true, true, false, false] rfl rfl (one_of HT_.out (by kernel_rfl)) (by decide) (fun K hK => ?_)
                          refine box_step ?hg (N := 8) ?hd (cs := #[.bool false, .slice none 0 0, .slice none 0 0, .slice none 0 0]) (t := 31) ?hr ?_; (case hd => rfl); (case hg => rfl); (case hr => first | (go_simp; done) | (go_simp; rfl))
                          intro gb381 hg w23 hbox hb
                          have n0_ := Aside0.mk (Kd.R_below (by (with_reducible repeat (first | apply Kd.R_alloc | apply Kd.R_drewN | apply Kd.R_drew)); exact HO_368001.out) hb)
                          have n1_ := Aside0.mk (Kd.R_below (by (with_reducible repeat (first | apply Kd.R_alloc | apply Kd.R_drewN | apply Kd.R_drew)); exact HO_368002.out) hb)
                          have n2_ := Aside0.mk (Kd.R_below (by (with_reducible repeat (first | apply Kd.R_alloc | apply Kd.R_drewN | apply Kd.R_drew)); exact HO_368003.out) hb)
                          have n3_ := Aside0.mk (Kd.R_below (by (with_reducible repeat (first | apply Kd.R_alloc | apply Kd.R_drewN | apply Kd.R_drew)); exact HO373.out) hb)
                          have n4_ := Aside0.mk (Kd.R_below (by (with_reducible repeat (first | apply Kd.R_alloc | apply Kd.R_drewN | apply Kd.R_drew)); exact HO376.out) hb)
                          have n5_ := Aside0.mk (Kd.R_below (by (with_reducible repeat (first | apply Kd.R_alloc | apply Kd.R_drewN | apply Kd.R_drew)); exact HO379.out) hb)
                          have n6_ := Aside0.mk (blk_below (g := gb367) (o := .cells #[.bool x368000_1, .slice Ao18 x368001_1.length co18, .slice Ao19 x368002_1.length co19, .slice Ao20 x368003_1.length co20] 31 (0, 0)) (by (with_reducible repeat (first | refine blk_drewN ?_ _ | refine blk_drew ?_ | refine blk_alloc ?_ _)); exact BK367.out) hb)
                          have n7_ := Aside0.mk (below_step (by repeat (first | (with_reducible first | exact HB.out | apply below_alloc | apply pw_below_drewN | apply below_drew1 | refine below_set ?_ GE367.out) | exact HB.out)) hb)
                          have n8_ := Aside0.mk (hbox)
                          have n9_ := Aside0.mk ((by rw [hg]; exact (below_size (by repeat (first | (with_reducible first | exact HB.out | apply below_alloc | apply pw_below_drewN | apply below_drew1 | refine below_set ?_ GE367.out) | exact HB.out))) : w.heap.size ≤ gb381))
                          have n10_ := Aside0.mk ((by rw [hg]; exact (below_size (by repeat (first | (with_reducible first | exact HB.out | apply below_alloc | apply pw_below_drewN | apply below_drew1 | refine below_set ?_ GE367.out) | exact HB.out))) : w.heap.size ≤ gb381))
                          have n11_ := Aside0.mk ((by rw [hg]; exact Nat.ne_of_lt (blk_lt (g := gb367) (o := .cells #[.bool x368000_1, .slice Ao18 x368001_1.length co18, .slice Ao19 x368002_1.length co19, .slice Ao20 x368003_1.length co20] 31 (0, 0)) (by (with_reducible repeat (first | refine blk_drewN ?_ _ | refine blk_drew ?_ | refine blk_alloc ?_ _)); exact BK367.out)) : gb367 ≠ gb381))
                          have n12_ := Aside0.mk ((by rw [hg]; exact Nat.ne_of_gt (blk_lt (g := gb367) (o := .cells #[.bool x368000_1, .slice Ao18 x368001_1.length co18, .slice Ao19 x368002_1.length co19, .slice Ao20 x368003_1.length co20] 31 (0, 0)) (by (with_reducible repeat (first | refine blk_drewN ?_ _ | refine blk_drew ?_ | refine blk_alloc ?_ _)); exact BK367.out)) : gb381 ≠ gb367))
                          clear HO_368001
                          clear HO_368002
                          clear HO_368003
                          clear HO373
                          clear HO376
                          clear HO379
                          clear BK367
                          clear HB
                          have HO_368001 := n0_
                          have HO_368002 := n1_
                          have HO_368003 := n2_
                          have HO373 := n3_
                          have HO376 := n4_
                          have HO379 := n5_
                          have BK367 := n6_
                          have HB := n7_
                          have BK381 := n8_
                          have GW381 := n9_
                          have GE381 := n10_
                          have NB367_381 := n11_
                          have NB381_367 := n12_
                          clear n0_ n1_ n2_ n3_ n4_ n5_ n6_ n7_ n8_ n9_ n10_ n11_ n12_
                          clear hb hbox hg
                          refine hK.out _ _ ⟨(blk_cell BK367.out 0).trans rfl, (blk_cell BK367.out 1).trans rfl, (blk_cell BK367.out 2).trans rfl, (blk_cell BK367.out 3).trans rfl, ((HB.out.cell (World.block_lt_of_cell? w _ hw369_0)).trans hw369_0)⟩ (fun hHeld => ?_)
                          clear hK K
                          refine norm_ (a' := ?_) ?_ ?_
                          rotate_left
                          · show Act.put _ (some 8) _ = _
                            simp only [Act.put, List.setIfInBounds_toArray, List.set_cons_zero, List.set_cons_succ, i64_w, i32_w]
                            rfl
                          exact norm_ (by simp only [putAll, Act.put, List.setIfInBounds_toArray, List.set_cons_zero, List.set_cons_succ]) (hCont (v372, v375, v378, gb381) _ ⟨hHeld, (by (with_reducible repeat (first | apply Kd.R_alloc | apply Kd.R_drewN | apply Kd.R_drew)); exact Kd.R_mono HO373.out (fun _ hk => hk.2)), (by (with_reducible repeat (first | apply Kd.R_alloc | apply Kd.R_drewN | apply Kd.R_drew)); exact Kd.R_mono HO376.out (fun _ hk => hk.2)), (by (with_reducible repeat (first | apply Kd.R_alloc | apply Kd.R_drewN | apply Kd.R_drew)); exact Kd.R_mono HO379.out (fun _ hk => hk.2)), (by (with_reducible repeat (first | apply Kd.R_alloc | apply Kd.R_drewN | apply Kd.R_drew)); exact Kd.R_mono HO_368001.out (fun _ hk => hk.2)), (by (with_reducible repeat (first | apply Kd.R_alloc | apply Kd.R_drewN | apply Kd.R_drew)); exact Kd.R_mono HO_368002.out (fun _ hk => hk.2)), (by (with_reducible repeat (first | apply Kd.R_alloc | apply Kd.R_drewN | apply Kd.R_drew)); exact Kd.R_mono HO_368003.out (fun _ hk => hk.2)), (by (with_reducible repeat (first | refine blk_drewN ?_ _ | refine blk_drew ?_ | refine blk_alloc ?_ _)); exact BK367.out), (by (with_reducible repeat (first | refine blk_drewN ?_ _ | refine blk_drew ?_ | refine blk_alloc ?_ _)); exact BK381.out), GW381.out, GE381.out, NB367_381.out, NB381_367.out, (by repeat (first | (with_reducible first | exact HB.out | apply below_alloc | apply pw_below_drewN | apply below_drew1 | refine below_set ?_ GE367.out | refine below_set ?_ GE381.out) | exact HB.out))⟩)
                        · skip
                          refine box_step ?hg (N := 8) ?hd (cs := #[.bool false, .slice none 0 0, .slice none 0 0, .slice none 0 0]) (t := 31) ?hr ?_; (case hd => rfl); (case hg => rfl); (case hr => first | (go_simp; done) | (go_simp; rfl))
                          intro gb381 hg w22 hbox hb
                          have n0_ := Aside0.mk (Kd.R_below (by (with_reducible repeat (first | apply Kd.R_alloc | apply Kd.R_drewN | apply Kd.R_drew)); exact HO_368001.out) hb)
                          have n1_ := Aside0.mk (Kd.R_below (by (with_reducible repeat (first | apply Kd.R_alloc | apply Kd.R_drewN | apply Kd.R_drew)); exact HO_368002.out) hb)
                          have n2_ := Aside0.mk (Kd.R_below (by (with_reducible repeat (first | apply Kd.R_alloc | apply Kd.R_drewN | apply Kd.R_drew)); exact HO_368003.out) hb)
                          have n3_ := Aside0.mk (blk_below (g := gb367) (o := .cells #[.bool x368000_1, .slice Ao18 x368001_1.length co18, .slice Ao19 x368002_1.length co19, .slice Ao20 x368003_1.length co20] 31 (0, 0)) (by (with_reducible repeat (first | refine blk_drewN ?_ _ | refine blk_drew ?_ | refine blk_alloc ?_ _)); exact BK367.out) hb)
                          have n4_ := Aside0.mk (below_step (by repeat (first | (with_reducible first | exact HB.out | apply below_alloc | apply pw_below_drewN | apply below_drew1 | refine below_set ?_ GE367.out) | exact HB.out)) hb)
                          have n5_ := Aside0.mk (hbox)
                          have n6_ := Aside0.mk ((by rw [hg]; exact (below_size (by repeat (first | (with_reducible first | exact HB.out | apply below_alloc | apply pw_below_drewN | apply below_drew1 | refine below_set ?_ GE367.out) | exact HB.out))) : w.heap.size ≤ gb381))
                          have n7_ := Aside0.mk ((by rw [hg]; exact (below_size (by repeat (first | (with_reducible first | exact HB.out | apply below_alloc | apply pw_below_drewN | apply below_drew1 | refine below_set ?_ GE367.out) | exact HB.out))) : w.heap.size ≤ gb381))
                          have n8_ := Aside0.mk ((by rw [hg]; exact Nat.ne_of_lt (blk_lt (g := gb367) (o := .cells #[.bool x368000_1, .slice Ao18 x368001_1.length co18, .slice Ao19 x368002_1.length co19, .slice Ao20 x368003_1.length co20] 31 (0, 0)) (by (with_reducible repeat (first | refine blk_drewN ?_ _ | refine blk_drew ?_ | refine blk_alloc ?_ _)); exact BK367.out)) : gb367 ≠ gb381))
                          have n9_ := Aside0.mk ((by rw [hg]; exact Nat.ne_of_gt (blk_lt (g := gb367) (o := .cells #[.bool x368000_1, .slice Ao18 x368001_1.length co18, .slice Ao19 x368002_1.length co19, .slice Ao20 x368003_1.length co20] 31 (0, 0)) (by (with_reducible repeat (first | refine blk_drewN ?_ _ | refine blk_drew ?_ | refine blk_alloc ?_ _)); exact BK367.out)) : gb381 ≠ gb367))
                          clear HO_368001
                          clear HO_368002
                          clear HO_368003
                          clear BK367
                          clear HB
                          have HO_368001 := n0_
                          have HO_368002 := n1_
                          have HO_368003 := n2_
                          have BK367 := n3_
                          have HB := n4_
                          have BK381 := n5_
                          have GW381 := n6_
                          have GE381 := n7_
                          have NB367_381 := n8_
                          have NB381_367 := n9_
                          clear n0_ n1_ n2_ n3_ n4_ n5_ n6_ n7_ n8_ n9_
                          clear hb hbox hg
                          refine hK.out _ _ ⟨(blk_cell BK367.out 0).trans rfl, (blk_cell BK367.out 1).trans rfl, (blk_cell BK367.out 2).trans rfl, (blk_cell BK367.out 3).trans rfl, ((HB.out.cell (World.block_lt_of_cell? w _ hw369_0)).trans hw369_0)⟩ (fun hHeld => ?_)
                          clear hK K
                          refine norm_ (a' := ?_) ?_ ?_
                          rotate_left
                          · show Act.put _ (some 8) _ = _
                            simp only [Act.put, List.setIfInBounds_toArray, List.set_cons_zero, List.set_cons_succ, i64_w, i32_w]
                            rfl
                          refine one_ (i := 7) (N := some 42) #[true, true, true, true, true, true, true, true, false, false, false, true, false, false] rfl rfl (one_of HT_.out (by kernel_rfl)) (by decide) (fun K hK => ?_)
                          refine goes_ Try.func28 (by kernel_rfl) rfl #[.agg #[.bool x368000_1, .slice Ao18 x368001_1.length co18, .slice Ao19 x368002_1.length co19, .slice Ao20 x368003_1.length co20], .agg #[.string (rdOf ByteArray.empty l0 x6_1), .string x7_10]] (by rfl) rfl rfl (by (try simp only [List.map_toArray, List.map_cons, List.map_nil]); first | done | rfl | (simp only [List.length_drop, List.length_take]; rfl)) ?_
                          with_reducible refine (node_Put.calls x368000_1 _ _ x368001_1 _ _ x368002_1 _ _ x368003_1 (rdOf ByteArray.empty l0 x6_1) x7_10 t370 t371 t374 t377 t380 _ ?side1 ?side2 ?side3 ?side4 ?side5 ?side6 A16.out).mono ?_
                          (case side1 => repeat (first | exact (Kd.R_reads' HO_368001.out).2.2 | (with_reducible refine Kd.C_alloc ?_ _) | (with_reducible refine Kd.C_drewN ?_ _) | (with_reducible refine Kd.C_drew ?_)))
                          (case side2 => exact (Kd.R_reads' HO_368001.out).2.1)
                          (case side3 => repeat (first | exact (Kd.R_reads' HO_368002.out).2.2 | (with_reducible refine Kd.C_alloc ?_ _) | (with_reducible refine Kd.C_drewN ?_ _) | (with_reducible refine Kd.C_drew ?_)))
                          (case side4 => exact (Kd.R_reads' HO_368002.out).2.1)
                          (case side5 => repeat (first | exact (Kd.R_reads' HO_368003.out).2.2 | (with_reducible refine Kd.C_alloc ?_ _) | (with_reducible refine Kd.C_drewN ?_ _) | (with_reducible refine Kd.C_drew ?_)))
                          (case side6 => exact (Kd.R_reads' HO_368003.out).2.1)
                          rintro e w23 ⟨v372, v375, v378, rfl, ho0, ho1, ho2, hb⟩
                          refine ⟨_, rfl, ?_⟩
                          have n0_ := Aside0.mk (Kd.R_elder' (by (with_reducible repeat (first | apply Kd.R_alloc | apply Kd.R_drewN | apply Kd.R_drew)); exact HO_368001.out) (Kd.R_base ho0) hb)
                          have n1_ := Aside0.mk (Kd.R_elder' (by (with_reducible repeat (first | apply Kd.R_alloc | apply Kd.R_drewN | apply Kd.R_drew)); exact HO_368002.out) (Kd.R_base ho1) hb)
                          have n2_ := Aside0.mk (Kd.R_elder' (by (with_reducible repeat (first | apply Kd.R_alloc | apply Kd.R_drewN | apply Kd.R_drew)); exact HO_368003.out) (Kd.R_base ho2) hb)
                          have n3_ := Aside0.mk (Kd.R_lower (Kd.R_new' ho0 (Kd.R_lt (by (with_reducible repeat (first | apply Kd.R_alloc | apply Kd.R_drewN | apply Kd.R_drew)); exact HO_368001.out))) (below_size (by repeat (first | (with_reducible first | exact HB.out | apply below_alloc | apply pw_below_drewN | apply below_drew1 | refine below_set ?_ GE367.out | refine below_set ?_ GE381.out) | exact HB.out))))
                          have n4_ := Aside0.mk (Kd.R_lower (Kd.R_new' ho1 (Kd.R_lt (by (with_reducible repeat (first | apply Kd.R_alloc | apply Kd.R_drewN | apply Kd.R_drew)); exact HO_368002.out))) (below_size (by repeat (first | (with_reducible first | exact HB.out | apply below_alloc | apply pw_below_drewN | apply below_drew1 | refine below_set ?_ GE367.out | refine below_set ?_ GE381.out) | exact HB.out))))
                          have n5_ := Aside0.mk (Kd.R_lower (Kd.R_new' ho2 (Kd.R_lt (by (with_reducible repeat (first | apply Kd.R_alloc | apply Kd.R_drewN | apply Kd.R_drew)); exact HO_368003.out))) (below_size (by repeat (first | (with_reducible first | exact HB.out | apply below_alloc | apply pw_below_drewN | apply below_drew1 | refine below_set ?_ GE367.out | refine below_set ?_ GE381.out) | exact HB.out))))
                          have n6_ := Aside0.mk (blk_below (g := gb367) (o := .cells #[.bool x368000_1, .slice Ao18 x368001_1.length co18, .slice Ao19 x368002_1.length co19, .slice Ao20 x368003_1.length co20] 31 (0, 0)) (by (with_reducible repeat (first | refine blk_drewN ?_ _ | refine blk_drew ?_ | refine blk_alloc ?_ _)); exact BK367.out) hb)
                          have n7_ := Aside0.mk (blk_below (g := gb381) (o := .cells #[.bool false, .slice none 0 0, .slice none 0 0, .slice none 0 0] 31 (0, 0)) (by (with_reducible repeat (first | refine blk_drewN ?_ _ | refine blk_drew ?_ | refine blk_alloc ?_ _)); exact BK381.out) hb)
                          have n8_ := Aside0.mk (below_step (by repeat (first | (with_reducible first | exact HB.out | apply below_alloc | apply pw_below_drewN | apply below_drew1 | refine below_set ?_ GE367.out | refine below_set ?_ GE381.out) | exact HB.out)) hb)
                          clear HO_368001
                          clear HO_368002
                          clear HO_368003
                          clear BK367
                          clear BK381
                          clear HB
                          have HO_368001 := n0_
                          have HO_368002 := n1_
                          have HO_368003 := n2_
                          have HO373 := n3_
                          have HO376 := n4_
                          have HO379 := n5_
                          have BK367 := n6_
                          have BK381 := n7_
                          have HB := n8_
                          clear n0_ n1_ n2_ n3_ n4_ n5_ n6_ n7_ n8_
                          (try clear hb)
                          (try clear hb2)
                          (try clear hk)
                          (try clear hi)
                          (try clear ho0)
                          (try clear ho1)
                          (try clear ho2)
                          refine hK.out _ _ ⟨(blk_cell BK367.out 0).trans rfl, (blk_cell BK367.out 1).trans rfl, (blk_cell BK367.out 2).trans rfl, (blk_cell BK367.out 3).trans rfl, ((HB.out.cell (World.block_lt_of_cell? w _ hw369_0)).trans hw369_0)⟩ (fun hHeld => ?_)
                          clear hK K
                          refine norm_ (a' := ?_) ?_ ?_
                          rotate_left
                          · show Act.put _ (some 42) _ = _
                            simp only [Act.put, List.setIfInBounds_toArray, List.set_cons_zero, List.set_cons_succ, i64_w, i32_w]
                            rfl
                          refine pure_ (i := 8) (N := some 34) (v := ?_) (a' := ?_) #[true, true, true, true, true, true, true, true, true, false, false, true, false, false] rfl rfl (any_of HT_.out (by kernel_rfl)) (fun _ _ _ h => h) (Or.inl ⟨by rfl, ?_⟩) ?_ ?_
                          rotate_left
                          · intro w'
                            go_simp
                            with_reducible rfl
                          rotate_left
                          · simp only [Act.put, List.setIfInBounds_toArray, List.set_cons_zero, List.set_cons_succ, i64_w, i32_w]
                            rfl
                          refine pure_ (i := 9) (N := some 43) (v := ?_) (a' := ?_) #[true, true, true, true, true, true, true, true, true, true, false, true, false, false] rfl rfl (any_of HT_.out (by kernel_rfl)) (fun _ _ _ h => h) (Or.inl ⟨by rfl, ?_⟩) ?_ ?_
                          rotate_left
                          · intro w'
                            go_simp
                            with_reducible rfl
                          rotate_left
                          · simp only [Act.put, List.setIfInBounds_toArray, List.set_cons_zero, List.set_cons_succ, i64_w, i32_w]
                            rfl
                          refine pure_ (i := 10) (N := some 44) (v := ?_) (a' := ?_) #[true, true, true, true, true, true, true, true, true, true, true, true, false, false] rfl rfl (any_of HT_.out (by kernel_rfl)) (fun _ _ _ h => h) (Or.inl ⟨by rfl, ?_⟩) ?_ ?_
                          rotate_left
                          · intro w'
                            go_simp
                            with_reducible rfl
                          rotate_left
                          · simp only [Act.put, List.setIfInBounds_toArray, List.set_cons_zero, List.set_cons_succ, i64_w, i32_w]
                            rfl
                          exact norm_ (by simp only [putAll, Act.put, List.setIfInBounds_toArray, List.set_cons_zero, List.set_cons_succ]) (hCont (v372, v375, v378, gb381) _ ⟨hHeld, (by (with_reducible repeat (first | apply Kd.R_alloc | apply Kd.R_drewN | apply Kd.R_drew)); exact Kd.R_mono HO373.out (fun _ hk => hk.2)), (by (with_reducible repeat (first | apply Kd.R_alloc | apply Kd.R_drewN | apply Kd.R_drew)); exact Kd.R_mono HO376.out (fun _ hk => hk.2)), (by (with_reducible repeat (first | apply Kd.R_alloc | apply Kd.R_drewN | apply Kd.R_drew)); exact Kd.R_mono HO379.out (fun _ hk => hk.2)), (by (with_reducible repeat (first | apply Kd.R_alloc | apply Kd.R_drewN | apply Kd.R_drew)); exact Kd.R_mono HO_368001.out (fun _ hk => hk.2)), (by (with_reducible repeat (first | apply Kd.R_alloc | apply Kd.R_drewN | apply Kd.R_drew)); exact Kd.R_mono HO_368002.out (fun _ hk => hk.2)), (by (with_reducible repeat (first | apply Kd.R_alloc | apply Kd.R_drewN | apply Kd.R_drew)); exact Kd.R_mono HO_368003.out (fun _ hk => hk.2)), (by (with_reducible repeat (first | refine blk_drewN ?_ _ | refine blk_drew ?_ | refine blk_alloc ?_ _)); exact BK367.out), (by (with_reducible repeat (first | refine blk_drewN ?_ _ | refine blk_drew ?_ | refine blk_alloc ?_ _)); exact BK381.out), GW381.out, GE381.out, NB367_381.out, NB381_367.out, (by repeat (first | (with_reducible first | exact HB.out | apply below_alloc | apply pw_below_drewN | apply below_drew1 | refine below_set ?_ GE367.out | refine below_set ?_ GE381.out) | exact HB.out))⟩)
                      rintro ⟨v372, v375, v378, gb381⟩ w24 ⟨hS_, h0_, h1_, h2_, h3_, h4_, h5_, h6_, h7_, h8_, h9_, h10_, h11_, h12_⟩
                      have n0_ : Aside0 (Kd.R k48 48 w24 w.heap.size (fun k_ => some k_ ≠ (.slice Ao18 x368001_1.length co18 : Value).ownBlock) v372 t371) := ⟨h0_⟩
                      have n1_ : Aside0 (Kd.R Kd.string 9 w24 w.heap.size (fun k_ => some k_ ≠ (.slice Ao19 x368002_1.length co19 : Value).ownBlock) v375 t374) := ⟨h1_⟩
                      have n2_ : Aside0 (Kd.R (Kd.int .i64) 3 w24 w.heap.size (fun k_ => some k_ ≠ (.slice Ao20 x368003_1.length co20 : Value).ownBlock) v378 t377) := ⟨h2_⟩
                      have n3_ : Aside0 (Kd.R k48 48 w24 w.heap.size (fun k_ => some k_ ≠ (v372 : Value).ownBlock) (.slice Ao18 x368001_1.length co18) x368001_1) := ⟨h3_⟩
                      have n4_ : Aside0 (Kd.R Kd.string 9 w24 w.heap.size (fun k_ => some k_ ≠ (v375 : Value).ownBlock) (.slice Ao19 x368002_1.length co19) x368002_1) := ⟨h4_⟩
                      have n5_ : Aside0 (Kd.R (Kd.int .i64) 3 w24 w.heap.size (fun k_ => some k_ ≠ (v378 : Value).ownBlock) (.slice Ao20 x368003_1.length co20) x368003_1) := ⟨h5_⟩
                      have n6_ : Aside0 (w24.heap[gb367]? = some (.cells #[.bool x368000_1, .slice Ao18 x368001_1.length co18, .slice Ao19 x368002_1.length co19, .slice Ao20 x368003_1.length co20] 31 (0, 0))) := ⟨h6_⟩
                      have n7_ : Aside0 (w24.heap[gb381]? = some (.cells #[.bool false, .slice none 0 0, .slice none 0 0, .slice none 0 0] 31 (0, 0))) := ⟨h7_⟩
                      have n8_ : Aside0 (w.heap.size ≤ gb381) := ⟨h8_⟩
                      have n9_ : Aside0 (w.heap.size ≤ gb381) := ⟨h9_⟩
                      have n10_ : Aside0 (gb367 ≠ gb381) := ⟨h10_⟩
                      have n11_ : Aside0 (gb381 ≠ gb367) := ⟨h11_⟩
                      have n12_ : Aside0 (Below w.heap.size w w24) := ⟨h12_⟩
                      clear HO_368001
                      clear HO_368002
                      clear HO_368003
                      clear BK367
                      clear HB
                      clear h0_ h1_ h2_ h3_ h4_ h5_ h6_ h7_ h8_ h9_ h10_ h11_ h12_
                      have HO373 := n0_
                      have HO376 := n1_
                      have HO379 := n2_
                      have HO_368001 := n3_
                      have HO_368002 := n4_
                      have HO_368003 := n5_
                      have BK367 := n6_
                      have BK381 := n7_
                      have GW381 := n8_
                      have GE381 := n9_
                      have NB367_381 := n10_
                      have NB381_367 := n11_
                      have HB := n12_
                      clear n0_ n1_ n2_ n3_ n4_ n5_ n6_ n7_ n8_ n9_ n10_ n11_ n12_
                      have hHeld : w24.cell? ⟨gb367, 0, none⟩ = some (.bool x368000_1) ∧ w24.cell? ⟨gb367, 1, none⟩ = some (.slice Ao18 x368001_1.length co18) ∧ w24.cell? ⟨gb367, 2, none⟩ = some (.slice Ao19 x368002_1.length co19) ∧ w24.cell? ⟨gb367, 3, none⟩ = some (.slice Ao20 x368003_1.length co20) ∧ w24.cell? (ad369.add (x6_1).toNat) = some (.string (rdOf ByteArray.empty l0 x6_1)) := hS_
                      obtain ⟨Ao26, co26, eo26⟩ := Kd.R_slice HO373.out
                      (first | subst eo26 | (injection eo26 with f1_ f2_ f3_; have f4_ := f1_.symm; have f5_ := f3_.symm; clear f1_ f2_ f3_; subst f4_; subst f5_))
                      obtain ⟨Ao28, co28, eo28⟩ := Kd.R_slice HO376.out
                      (first | subst eo28 | (injection eo28 with f1_ f2_ f3_; have f4_ := f1_.symm; have f5_ := f3_.symm; clear f1_ f2_ f3_; subst f4_; subst f5_))
                      obtain ⟨Ao30, co30, eo30⟩ := Kd.R_slice HO379.out
                      (first | subst eo30 | (injection eo30 with f1_ f2_ f3_; have f4_ := f1_.symm; have f5_ := f3_.symm; clear f1_ f2_ f3_; subst f4_; subst f5_))
                      refine norm_ (a' := ?_) ?_ ?_
                      rotate_left
                      · simp only [putAll, Act.put, List.setIfInBounds_toArray, List.set_cons_zero, List.set_cons_succ]
                        rfl
                      refine one_ (i := 12) (N := none) #[true, true, true, true, true, true, true, true, true, true, true, true, true, false] rfl rfl (one_of HT_.out (by kernel_rfl)) (by decide) (fun K hK => ?_)
                      have hs25 : w24.cell? ⟨gb381, 0, none⟩ = some (.bool false) := (blk_cell BK381.out 0).trans rfl
                      have hfs25 := blk_frozen BK381.out 0
                      have hns25_0 := NB367_381.out
                      have hms25_0 := NB381_367.out
                      have hs27 : w24.cell? ⟨gb381, 1, none⟩ = some (.slice none 0 0) := (blk_cell BK381.out 1).trans rfl
                      have hfs27 := blk_frozen BK381.out 1
                      have hns27_0 := NB367_381.out
                      have hms27_0 := NB381_367.out
                      have hs29 : w24.cell? ⟨gb381, 2, none⟩ = some (.slice none 0 0) := (blk_cell BK381.out 2).trans rfl
                      have hfs29 := blk_frozen BK381.out 2
                      have hns29_0 := NB367_381.out
                      have hms29_0 := NB381_367.out
                      have hs31 : w24.cell? ⟨gb381, 3, none⟩ = some (.slice none 0 0) := (blk_cell BK381.out 3).trans rfl
                      have hfs31 := blk_frozen BK381.out 3
                      have hns31_0 := NB367_381.out
                      have hms31_0 := NB381_367.out
                      refine skip_ (w1 := ?_) (by rfl) rfl ?_ ?_
                      rotate_left
                      · go_simp
                        rfl
                      refine hK.out _ _ ⟨((cell_far (p := ⟨gb381, _, none⟩) NB367_381.out _).trans (((cell_far (p := ⟨gb381, _, none⟩) NB367_381.out _).trans (((cell_far (p := ⟨gb381, _, none⟩) NB367_381.out _).trans (((cell_far (p := ⟨gb381, _, none⟩) NB367_381.out _).trans (hHeld.1)))))))), ((cell_far (p := ⟨gb381, _, none⟩) NB367_381.out _).trans (((cell_far (p := ⟨gb381, _, none⟩) NB367_381.out _).trans (((cell_far (p := ⟨gb381, _, none⟩) NB367_381.out _).trans (((cell_far (p := ⟨gb381, _, none⟩) NB367_381.out _).trans (hHeld.2.1)))))))), ((cell_far (p := ⟨gb381, _, none⟩) NB367_381.out _).trans (((cell_far (p := ⟨gb381, _, none⟩) NB367_381.out _).trans (((cell_far (p := ⟨gb381, _, none⟩) NB367_381.out _).trans (((cell_far (p := ⟨gb381, _, none⟩) NB367_381.out _).trans (hHeld.2.2.1)))))))), ((cell_far (p := ⟨gb381, _, none⟩) NB367_381.out _).trans (((cell_far (p := ⟨gb381, _, none⟩) NB367_381.out _).trans (((cell_far (p := ⟨gb381, _, none⟩) NB367_381.out _).trans (((cell_far (p := ⟨gb381, _, none⟩) NB367_381.out _).trans (hHeld.2.2.2.1)))))))), ((cell_far (p := ⟨gb381, _, none⟩) (by first | exact Nat.ne_of_lt (Nat.lt_of_lt_of_le (by have := World.block_lt_of_cell? _ _ hw369_0; first | rwa [add_block] at this | exact this) GW381.out) | (rw [add_block]; exact Nat.ne_of_lt (Nat.lt_of_lt_of_le (by have := World.block_lt_of_cell? _ _ hw369_0; first | rwa [add_block] at this | exact this) GW381.out)) | (show (Addr.add _ _).block ≠ _; rw [add_block]; exact Nat.ne_of_lt (Nat.lt_of_lt_of_le (by have := World.block_lt_of_cell? _ _ hw369_0; first | rwa [add_block] at this | exact this) GW381.out)) | (dsimp only; exact Nat.ne_of_lt (Nat.lt_of_lt_of_le (by have := World.block_lt_of_cell? _ _ hw369_0; first | rwa [add_block] at this | exact this) GW381.out))) _).trans (((cell_far (p := ⟨gb381, _, none⟩) (by first | exact Nat.ne_of_lt (Nat.lt_of_lt_of_le (by have := World.block_lt_of_cell? _ _ hw369_0; first | rwa [add_block] at this | exact this) GW381.out) | (rw [add_block]; exact Nat.ne_of_lt (Nat.lt_of_lt_of_le (by have := World.block_lt_of_cell? _ _ hw369_0; first | rwa [add_block] at this | exact this) GW381.out)) | (show (Addr.add _ _).block ≠ _; rw [add_block]; exact Nat.ne_of_lt (Nat.lt_of_lt_of_le (by have := World.block_lt_of_cell? _ _ hw369_0; first | rwa [add_block] at this | exact this) GW381.out)) | (dsimp only; exact Nat.ne_of_lt (Nat.lt_of_lt_of_le (by have := World.block_lt_of_cell? _ _ hw369_0; first | rwa [add_block] at this | exact this) GW381.out))) _).trans (((cell_far (p := ⟨gb381, _, none⟩) (by first | exact Nat.ne_of_lt (Nat.lt_of_lt_of_le (by have := World.block_lt_of_cell? _ _ hw369_0; first | rwa [add_block] at this | exact this) GW381.out) | (rw [add_block]; exact Nat.ne_of_lt (Nat.lt_of_lt_of_le (by have := World.block_lt_of_cell? _ _ hw369_0; first | rwa [add_block] at this | exact this) GW381.out)) | (show (Addr.add _ _).block ≠ _; rw [add_block]; exact Nat.ne_of_lt (Nat.lt_of_lt_of_le (by have := World.block_lt_of_cell? _ _ hw369_0; first | rwa [add_block] at this | exact this) GW381.out)) | (dsimp only; exact Nat.ne_of_lt (Nat.lt_of_lt_of_le (by have := World.block_lt_of_cell? _ _ hw369_0; first | rwa [add_block] at this | exact this) GW381.out))) _).trans (((cell_far (p := ⟨gb381, _, none⟩) (by first | exact Nat.ne_of_lt (Nat.lt_of_lt_of_le (by have := World.block_lt_of_cell? _ _ hw369_0; first | rwa [add_block] at this | exact this) GW381.out) | (rw [add_block]; exact Nat.ne_of_lt (Nat.lt_of_lt_of_le (by have := World.block_lt_of_cell? _ _ hw369_0; first | rwa [add_block] at this | exact this) GW381.out)) | (show (Addr.add _ _).block ≠ _; rw [add_block]; exact Nat.ne_of_lt (Nat.lt_of_lt_of_le (by have := World.block_lt_of_cell? _ _ hw369_0; first | rwa [add_block] at this | exact this) GW381.out)) | (dsimp only; exact Nat.ne_of_lt (Nat.lt_of_lt_of_le (by have := World.block_lt_of_cell? _ _ hw369_0; first | rwa [add_block] at this | exact this) GW381.out))) _).trans (hHeld.2.2.2.2))))))))⟩ (fun hHeld => ?_)
                      clear hK K
                      refine pure_ (i := 13) (N := some 9) (v := ?_) (a' := ?_) #[true, true, true, true, true, true, true, true, true, true, true, true, true, true] rfl rfl (any_of HT_.out (by kernel_rfl)) (fun _ _ _ h => h) (Or.inl ⟨by rfl, ?_⟩) ?_ ?_
                      rotate_left
                      · intro w'
                        go_simp
                        with_reducible rfl
                      rotate_left
                      · simp only [Act.put, List.setIfInBounds_toArray, List.set_cons_zero, List.set_cons_succ, i64_w, i32_w]
                        rfl
                      refine done_ (done_of HT_.out (by kernel_rfl)) ?_
                      go_upto_region 11 with (fail)
                      go_cut [55] (fun v55 wc => ∃ (kq : Nat) (x55_16 : Bool), v55 = .bool x55_16 ∧ Aside0 (cisternlaw11_NodeGrows.j3 kq l0 l1 x6_1 t380 x55_16 x368000_1 x368001_1 x368002_1 x368003_1 t370 t371 t374 t377 = some r) ∧ Aside0 (kq ≤ kj10) ∧ Aside0 (Kd.R k48 48 wc w.heap.size (fun k_ => some k_ ≠ ((.slice Ao26 t371.length co26) : Value).ownBlock) (.slice Ao18 x368001_1.length co18) x368001_1) ∧ Aside0 (Kd.R Kd.string 9 wc w.heap.size (fun k_ => some k_ ≠ ((.slice Ao28 t374.length co28) : Value).ownBlock) (.slice Ao19 x368002_1.length co19) x368002_1) ∧ Aside0 (Kd.R (Kd.int .i64) 3 wc w.heap.size (fun k_ => some k_ ≠ ((.slice Ao30 t377.length co30) : Value).ownBlock) (.slice Ao20 x368003_1.length co20) x368003_1) ∧ Aside0 (Kd.R k48 48 wc w.heap.size (fun k_ => some k_ ≠ ((.slice Ao18 x368001_1.length co18) : Value).ownBlock) (.slice Ao26 t371.length co26) t371) ∧ Aside0 (Kd.R Kd.string 9 wc w.heap.size (fun k_ => some k_ ≠ ((.slice Ao19 x368002_1.length co19) : Value).ownBlock) (.slice Ao28 t374.length co28) t374) ∧ Aside0 (Kd.R (Kd.int .i64) 3 wc w.heap.size (fun k_ => some k_ ≠ ((.slice Ao20 x368003_1.length co20) : Value).ownBlock) (.slice Ao30 t377.length co30) t377) ∧ Aside0 (wc.heap[gb367]? = some (.cells #[.bool x368000_1, (.slice Ao18 x368001_1.length co18), (.slice Ao19 x368002_1.length co19), (.slice Ao20 x368003_1.length co20)] 31 (0, 0))) ∧ Aside0 (wc.heap[gb381]? = some (.cells #[.bool t370, (.slice Ao26 t371.length co26), (.slice Ao28 t374.length co28), (.slice Ao30 t377.length co30)] 31 (0, 0))) ∧ Aside0 (Below w.heap.size w wc))
                      case first =>
                        have H := HC17.out
                        clear HC17
                        replace H := Option.bind_eq_some_iff.mp H
                        obtain ⟨t383, A320, H⟩ := H
                        replace H : (if t383 = true then (cisternlaw11_NodeGrows.j3 kj10 l0 l1 x6_1 t380 (decide ((x7_10.size : Int) > 48)) x368000_1 x368001_1 x368002_1 x368003_1 t370 t371 t374 t377) else (cisternlaw11_NodeGrows.j3 kj10 l0 l1 x6_1 t380 true x368000_1 x368001_1 x368002_1 x368003_1 t370 t371 t374 t377)) = some r := H
                        have A32 := Aside0.mk A320
                        clear A320
                        by_cases c33 : t383 = true
                        · subst c33
                          have H1 : (cisternlaw11_NodeGrows.j3 kj10 l0 l1 x6_1 t380 (decide ((x7_10.size : Int) > 48)) x368000_1 x368001_1 x368002_1 x368003_1 t370 t371 t374 t377) = some r := by rw [if_pos rfl] at H; exact H
                          clear H
                          have H := H1
                          clear H1
                          have H' := Aside0.mk H
                          clear H
                          have p382 : 0 ≤ (x6_1 : Int) := of_decide_eq_true (by first | (with_reducible assumption) | assumption)
                          have q382 : x6_1 < (l0.length : Int) := of_decide_eq_true (by first | (with_reducible assumption) | assumption)
                          obtain ⟨ad382, e382, hx382_0⟩ := Kd.at_string HR0.out x6_1 p382 q382
                          obtain rfl : ad369 = ad382 := (by injection e382)
                          have hn382_0 : ad369.block ≠ gb381 := Nat.ne_of_lt (Nat.lt_of_lt_of_le (by have := World.block_lt_of_cell? _ _ hx382_0; first | rwa [add_block] at this | exact this) GW381.out)
                          have hn382_1 : ad369.block ≠ gb381 := Nat.ne_of_lt (Nat.lt_of_lt_of_le (by have := World.block_lt_of_cell? _ _ hx382_0; first | rwa [add_block] at this | exact this) GW381.out)
                          have hn382_2 : ad369.block ≠ gb381 := Nat.ne_of_lt (Nat.lt_of_lt_of_le (by have := World.block_lt_of_cell? _ _ hx382_0; first | rwa [add_block] at this | exact this) GW381.out)
                          have hn382_3 : ad369.block ≠ gb381 := Nat.ne_of_lt (Nat.lt_of_lt_of_le (by have := World.block_lt_of_cell? _ _ hx382_0; first | rwa [add_block] at this | exact this) GW381.out)
                          replace hx382_0 := (HB.out.cell (World.block_lt_of_cell? w _ hx382_0)).trans hx382_0
                          replace hx382_0 := (cell_far (p := ⟨gb381, 0, none⟩) (by first | (rw [add_block]; exact hn382_0) | (show (Addr.add _ _).block ≠ _; rw [add_block]; exact hn382_0) | exact hn382_0) (.bool t370)).trans hx382_0
                          replace hx382_0 := (cell_far (p := ⟨gb381, 1, none⟩) (by first | (rw [add_block]; exact hn382_1) | (show (Addr.add _ _).block ≠ _; rw [add_block]; exact hn382_1) | exact hn382_1) (.slice Ao26 t371.length co26)).trans hx382_0
                          replace hx382_0 := (cell_far (p := ⟨gb381, 2, none⟩) (by first | (rw [add_block]; exact hn382_2) | (show (Addr.add _ _).block ≠ _; rw [add_block]; exact hn382_2) | exact hn382_2) (.slice Ao28 t374.length co28)).trans hx382_0
                          replace hx382_0 := (cell_far (p := ⟨gb381, 3, none⟩) (by first | (rw [add_block]; exact hn382_3) | (show (Addr.add _ _).block ≠ _; rw [add_block]; exact hn382_3) | exact hn382_3) (.slice Ao30 t377.length co30)).trans hx382_0
                          clear hn382_0
                          clear hn382_1
                          clear hn382_2
                          clear hn382_3
                          replace p382 := eq_true p382
                          replace q382 := eq_true q382
                          go_wp2_with (first | ((with_reducible refine gate_callee (f := 29) rfl ?_); refine goesL_ (some 49) rfl rfl Try.func29 (by kernel_rfl) rfl #[.string (rdOf ByteArray.empty l0 x6_1)] rfl (by (try simp only [List.map_toArray, List.map_cons, List.map_nil]); first | done | rfl | (simp only [List.length_drop, List.length_take]; rfl)) ?_; (with_reducible refine (cisternref11_Key.calls (rdOf ByteArray.empty l0 x6_1) true _ A32.out).mono ?_); rintro e w' ⟨rfl, ⟨nd, rfl⟩⟩; refine ⟨_, rfl, ?_⟩))
                          go_meet
                          case rel => exact ⟨_, (decide ((x7_10.size : Int) > 48)), (by first | rfl | (simp; done) | (simp [*]; done)), H', ⟨by have := HK1.out; have := HJ7.out; have := HJ10.out; first | omega | exact Nat.le_refl _⟩, ⟨by (with_reducible repeat (first | apply Kd.R_alloc | apply Kd.R_drewN | apply Kd.R_drew)); exact Kd.R_mono (Kd.R_far (p := ⟨gb381, 3, none⟩) (Kd.R_far (p := ⟨gb381, 2, none⟩) (Kd.R_far (p := ⟨gb381, 1, none⟩) (Kd.R_far (p := ⟨gb381, 0, none⟩) (Kd.R_types HO_368001.out BK381.out (by decide)) (fun _ hk => hk.2) (.bool t370)) (fun _ hk => hk.2) (.slice Ao26 t371.length co26)) (fun _ hk => hk.2) (.slice Ao28 t374.length co28)) (fun _ hk => hk.2) (.slice Ao30 t377.length co30)) (fun _ hk => hk.1)⟩, ⟨by (with_reducible repeat (first | apply Kd.R_alloc | apply Kd.R_drewN | apply Kd.R_drew)); exact Kd.R_mono (Kd.R_far (p := ⟨gb381, 3, none⟩) (Kd.R_far (p := ⟨gb381, 2, none⟩) (Kd.R_far (p := ⟨gb381, 1, none⟩) (Kd.R_far (p := ⟨gb381, 0, none⟩) (Kd.R_types HO_368002.out BK381.out (by decide)) (fun _ hk => hk.2) (.bool t370)) (fun _ hk => hk.2) (.slice Ao26 t371.length co26)) (fun _ hk => hk.2) (.slice Ao28 t374.length co28)) (fun _ hk => hk.2) (.slice Ao30 t377.length co30)) (fun _ hk => hk.1)⟩, ⟨by (with_reducible repeat (first | apply Kd.R_alloc | apply Kd.R_drewN | apply Kd.R_drew)); exact Kd.R_mono (Kd.R_far (p := ⟨gb381, 3, none⟩) (Kd.R_far (p := ⟨gb381, 2, none⟩) (Kd.R_far (p := ⟨gb381, 1, none⟩) (Kd.R_far (p := ⟨gb381, 0, none⟩) (Kd.R_types HO_368003.out BK381.out (by decide)) (fun _ hk => hk.2) (.bool t370)) (fun _ hk => hk.2) (.slice Ao26 t371.length co26)) (fun _ hk => hk.2) (.slice Ao28 t374.length co28)) (fun _ hk => hk.2) (.slice Ao30 t377.length co30)) (fun _ hk => hk.1)⟩, ⟨by (with_reducible repeat (first | apply Kd.R_alloc | apply Kd.R_drewN | apply Kd.R_drew)); exact Kd.R_mono (Kd.R_far (p := ⟨gb381, 3, none⟩) (Kd.R_far (p := ⟨gb381, 2, none⟩) (Kd.R_far (p := ⟨gb381, 1, none⟩) (Kd.R_far (p := ⟨gb381, 0, none⟩) (Kd.R_types HO373.out BK381.out (by decide)) (fun _ hk => hk.2) (.bool t370)) (fun _ hk => hk.2) (.slice Ao26 t371.length co26)) (fun _ hk => hk.2) (.slice Ao28 t374.length co28)) (fun _ hk => hk.2) (.slice Ao30 t377.length co30)) (fun _ hk => hk.1)⟩, ⟨by (with_reducible repeat (first | apply Kd.R_alloc | apply Kd.R_drewN | apply Kd.R_drew)); exact Kd.R_mono (Kd.R_far (p := ⟨gb381, 3, none⟩) (Kd.R_far (p := ⟨gb381, 2, none⟩) (Kd.R_far (p := ⟨gb381, 1, none⟩) (Kd.R_far (p := ⟨gb381, 0, none⟩) (Kd.R_types HO376.out BK381.out (by decide)) (fun _ hk => hk.2) (.bool t370)) (fun _ hk => hk.2) (.slice Ao26 t371.length co26)) (fun _ hk => hk.2) (.slice Ao28 t374.length co28)) (fun _ hk => hk.2) (.slice Ao30 t377.length co30)) (fun _ hk => hk.1)⟩, ⟨by (with_reducible repeat (first | apply Kd.R_alloc | apply Kd.R_drewN | apply Kd.R_drew)); exact Kd.R_mono (Kd.R_far (p := ⟨gb381, 3, none⟩) (Kd.R_far (p := ⟨gb381, 2, none⟩) (Kd.R_far (p := ⟨gb381, 1, none⟩) (Kd.R_far (p := ⟨gb381, 0, none⟩) (Kd.R_types HO379.out BK381.out (by decide)) (fun _ hk => hk.2) (.bool t370)) (fun _ hk => hk.2) (.slice Ao26 t371.length co26)) (fun _ hk => hk.2) (.slice Ao28 t374.length co28)) (fun _ hk => hk.2) (.slice Ao30 t377.length co30)) (fun _ hk => hk.1)⟩, ⟨by (with_reducible repeat (first | refine blk_drewN ?_ _ | refine blk_drew ?_ | refine blk_alloc ?_ _)); refine blk_far ?_ NB367_381.out _; (with_reducible repeat (first | refine blk_drewN ?_ _ | refine blk_drew ?_ | refine blk_alloc ?_ _)); refine blk_far ?_ NB367_381.out _; (with_reducible repeat (first | refine blk_drewN ?_ _ | refine blk_drew ?_ | refine blk_alloc ?_ _)); refine blk_far ?_ NB367_381.out _; (with_reducible repeat (first | refine blk_drewN ?_ _ | refine blk_drew ?_ | refine blk_alloc ?_ _)); refine blk_far ?_ NB367_381.out _; (with_reducible repeat (first | refine blk_drewN ?_ _ | refine blk_drew ?_ | refine blk_alloc ?_ _)); exact BK367.out⟩, ⟨by (with_reducible repeat (first | refine blk_drewN ?_ _ | refine blk_drew ?_ | refine blk_alloc ?_ _)); refine blk_put (cs := #[.bool t370, .slice Ao26 t371.length co26, .slice Ao28 t374.length co28, .slice none 0 0]) ?_ 3 _ rfl; (with_reducible repeat (first | refine blk_drewN ?_ _ | refine blk_drew ?_ | refine blk_alloc ?_ _)); refine blk_put (cs := #[.bool t370, .slice Ao26 t371.length co26, .slice none 0 0, .slice none 0 0]) ?_ 2 _ rfl; (with_reducible repeat (first | refine blk_drewN ?_ _ | refine blk_drew ?_ | refine blk_alloc ?_ _)); refine blk_put (cs := #[.bool t370, .slice none 0 0, .slice none 0 0, .slice none 0 0]) ?_ 1 _ rfl; (with_reducible repeat (first | refine blk_drewN ?_ _ | refine blk_drew ?_ | refine blk_alloc ?_ _)); refine blk_put (cs := #[.bool false, .slice none 0 0, .slice none 0 0, .slice none 0 0]) ?_ 0 _ rfl; (with_reducible repeat (first | refine blk_drewN ?_ _ | refine blk_drew ?_ | refine blk_alloc ?_ _)); exact BK381.out⟩, ⟨by repeat (first | (with_reducible first | exact HB.out | apply below_alloc | apply pw_below_drewN | apply below_drew1 | refine below_set ?_ GE367.out | refine below_set ?_ GE381.out) | exact HB.out)⟩⟩
                        · replace c33 := Bool.eq_false_iff.mpr c33
                          subst c33
                          have H1 : (cisternlaw11_NodeGrows.j3 kj10 l0 l1 x6_1 t380 true x368000_1 x368001_1 x368002_1 x368003_1 t370 t371 t374 t377) = some r := by rw [if_neg (show ¬ (false = true) by decide)] at H; exact H
                          clear H
                          have H := H1
                          clear H1
                          have H' := Aside0.mk H
                          clear H
                          have p382 : 0 ≤ (x6_1 : Int) := of_decide_eq_true (by first | (with_reducible assumption) | assumption)
                          have q382 : x6_1 < (l0.length : Int) := of_decide_eq_true (by first | (with_reducible assumption) | assumption)
                          obtain ⟨ad382, e382, hx382_0⟩ := Kd.at_string HR0.out x6_1 p382 q382
                          obtain rfl : ad369 = ad382 := (by injection e382)
                          have hn382_0 : ad369.block ≠ gb381 := Nat.ne_of_lt (Nat.lt_of_lt_of_le (by have := World.block_lt_of_cell? _ _ hx382_0; first | rwa [add_block] at this | exact this) GW381.out)
                          have hn382_1 : ad369.block ≠ gb381 := Nat.ne_of_lt (Nat.lt_of_lt_of_le (by have := World.block_lt_of_cell? _ _ hx382_0; first | rwa [add_block] at this | exact this) GW381.out)
                          have hn382_2 : ad369.block ≠ gb381 := Nat.ne_of_lt (Nat.lt_of_lt_of_le (by have := World.block_lt_of_cell? _ _ hx382_0; first | rwa [add_block] at this | exact this) GW381.out)
                          have hn382_3 : ad369.block ≠ gb381 := Nat.ne_of_lt (Nat.lt_of_lt_of_le (by have := World.block_lt_of_cell? _ _ hx382_0; first | rwa [add_block] at this | exact this) GW381.out)
                          replace hx382_0 := (HB.out.cell (World.block_lt_of_cell? w _ hx382_0)).trans hx382_0
                          replace hx382_0 := (cell_far (p := ⟨gb381, 0, none⟩) (by first | (rw [add_block]; exact hn382_0) | (show (Addr.add _ _).block ≠ _; rw [add_block]; exact hn382_0) | exact hn382_0) (.bool t370)).trans hx382_0
                          replace hx382_0 := (cell_far (p := ⟨gb381, 1, none⟩) (by first | (rw [add_block]; exact hn382_1) | (show (Addr.add _ _).block ≠ _; rw [add_block]; exact hn382_1) | exact hn382_1) (.slice Ao26 t371.length co26)).trans hx382_0
                          replace hx382_0 := (cell_far (p := ⟨gb381, 2, none⟩) (by first | (rw [add_block]; exact hn382_2) | (show (Addr.add _ _).block ≠ _; rw [add_block]; exact hn382_2) | exact hn382_2) (.slice Ao28 t374.length co28)).trans hx382_0
                          replace hx382_0 := (cell_far (p := ⟨gb381, 3, none⟩) (by first | (rw [add_block]; exact hn382_3) | (show (Addr.add _ _).block ≠ _; rw [add_block]; exact hn382_3) | exact hn382_3) (.slice Ao30 t377.length co30)).trans hx382_0
                          clear hn382_0
                          clear hn382_1
                          clear hn382_2
                          clear hn382_3
                          replace p382 := eq_true p382
                          replace q382 := eq_true q382
                          go_wp2_with (first | ((with_reducible refine gate_callee (f := 29) rfl ?_); refine goesL_ (some 49) rfl rfl Try.func29 (by kernel_rfl) rfl #[.string (rdOf ByteArray.empty l0 x6_1)] rfl (by (try simp only [List.map_toArray, List.map_cons, List.map_nil]); first | done | rfl | (simp only [List.length_drop, List.length_take]; rfl)) ?_; (with_reducible refine (cisternref11_Key.calls (rdOf ByteArray.empty l0 x6_1) false _ A32.out).mono ?_); rintro e w' ⟨rfl, ⟨nd, rfl⟩⟩; refine ⟨_, rfl, ?_⟩))
                          go_meet
                          case rel => exact ⟨_, (true), (by first | rfl | (simp; done) | (simp [*]; done)), H', ⟨by have := HK1.out; have := HJ7.out; have := HJ10.out; first | omega | exact Nat.le_refl _⟩, ⟨by (with_reducible repeat (first | apply Kd.R_alloc | apply Kd.R_drewN | apply Kd.R_drew)); exact Kd.R_mono (Kd.R_far (p := ⟨gb381, 3, none⟩) (Kd.R_far (p := ⟨gb381, 2, none⟩) (Kd.R_far (p := ⟨gb381, 1, none⟩) (Kd.R_far (p := ⟨gb381, 0, none⟩) (Kd.R_types HO_368001.out BK381.out (by decide)) (fun _ hk => hk.2) (.bool t370)) (fun _ hk => hk.2) (.slice Ao26 t371.length co26)) (fun _ hk => hk.2) (.slice Ao28 t374.length co28)) (fun _ hk => hk.2) (.slice Ao30 t377.length co30)) (fun _ hk => hk.1)⟩, ⟨by (with_reducible repeat (first | apply Kd.R_alloc | apply Kd.R_drewN | apply Kd.R_drew)); exact Kd.R_mono (Kd.R_far (p := ⟨gb381, 3, none⟩) (Kd.R_far (p := ⟨gb381, 2, none⟩) (Kd.R_far (p := ⟨gb381, 1, none⟩) (Kd.R_far (p := ⟨gb381, 0, none⟩) (Kd.R_types HO_368002.out BK381.out (by decide)) (fun _ hk => hk.2) (.bool t370)) (fun _ hk => hk.2) (.slice Ao26 t371.length co26)) (fun _ hk => hk.2) (.slice Ao28 t374.length co28)) (fun _ hk => hk.2) (.slice Ao30 t377.length co30)) (fun _ hk => hk.1)⟩, ⟨by (with_reducible repeat (first | apply Kd.R_alloc | apply Kd.R_drewN | apply Kd.R_drew)); exact Kd.R_mono (Kd.R_far (p := ⟨gb381, 3, none⟩) (Kd.R_far (p := ⟨gb381, 2, none⟩) (Kd.R_far (p := ⟨gb381, 1, none⟩) (Kd.R_far (p := ⟨gb381, 0, none⟩) (Kd.R_types HO_368003.out BK381.out (by decide)) (fun _ hk => hk.2) (.bool t370)) (fun _ hk => hk.2) (.slice Ao26 t371.length co26)) (fun _ hk => hk.2) (.slice Ao28 t374.length co28)) (fun _ hk => hk.2) (.slice Ao30 t377.length co30)) (fun _ hk => hk.1)⟩, ⟨by (with_reducible repeat (first | apply Kd.R_alloc | apply Kd.R_drewN | apply Kd.R_drew)); exact Kd.R_mono (Kd.R_far (p := ⟨gb381, 3, none⟩) (Kd.R_far (p := ⟨gb381, 2, none⟩) (Kd.R_far (p := ⟨gb381, 1, none⟩) (Kd.R_far (p := ⟨gb381, 0, none⟩) (Kd.R_types HO373.out BK381.out (by decide)) (fun _ hk => hk.2) (.bool t370)) (fun _ hk => hk.2) (.slice Ao26 t371.length co26)) (fun _ hk => hk.2) (.slice Ao28 t374.length co28)) (fun _ hk => hk.2) (.slice Ao30 t377.length co30)) (fun _ hk => hk.1)⟩, ⟨by (with_reducible repeat (first | apply Kd.R_alloc | apply Kd.R_drewN | apply Kd.R_drew)); exact Kd.R_mono (Kd.R_far (p := ⟨gb381, 3, none⟩) (Kd.R_far (p := ⟨gb381, 2, none⟩) (Kd.R_far (p := ⟨gb381, 1, none⟩) (Kd.R_far (p := ⟨gb381, 0, none⟩) (Kd.R_types HO376.out BK381.out (by decide)) (fun _ hk => hk.2) (.bool t370)) (fun _ hk => hk.2) (.slice Ao26 t371.length co26)) (fun _ hk => hk.2) (.slice Ao28 t374.length co28)) (fun _ hk => hk.2) (.slice Ao30 t377.length co30)) (fun _ hk => hk.1)⟩, ⟨by (with_reducible repeat (first | apply Kd.R_alloc | apply Kd.R_drewN | apply Kd.R_drew)); exact Kd.R_mono (Kd.R_far (p := ⟨gb381, 3, none⟩) (Kd.R_far (p := ⟨gb381, 2, none⟩) (Kd.R_far (p := ⟨gb381, 1, none⟩) (Kd.R_far (p := ⟨gb381, 0, none⟩) (Kd.R_types HO379.out BK381.out (by decide)) (fun _ hk => hk.2) (.bool t370)) (fun _ hk => hk.2) (.slice Ao26 t371.length co26)) (fun _ hk => hk.2) (.slice Ao28 t374.length co28)) (fun _ hk => hk.2) (.slice Ao30 t377.length co30)) (fun _ hk => hk.1)⟩, ⟨by (with_reducible repeat (first | refine blk_drewN ?_ _ | refine blk_drew ?_ | refine blk_alloc ?_ _)); refine blk_far ?_ NB367_381.out _; (with_reducible repeat (first | refine blk_drewN ?_ _ | refine blk_drew ?_ | refine blk_alloc ?_ _)); refine blk_far ?_ NB367_381.out _; (with_reducible repeat (first | refine blk_drewN ?_ _ | refine blk_drew ?_ | refine blk_alloc ?_ _)); refine blk_far ?_ NB367_381.out _; (with_reducible repeat (first | refine blk_drewN ?_ _ | refine blk_drew ?_ | refine blk_alloc ?_ _)); refine blk_far ?_ NB367_381.out _; (with_reducible repeat (first | refine blk_drewN ?_ _ | refine blk_drew ?_ | refine blk_alloc ?_ _)); exact BK367.out⟩, ⟨by (with_reducible repeat (first | refine blk_drewN ?_ _ | refine blk_drew ?_ | refine blk_alloc ?_ _)); refine blk_put (cs := #[.bool t370, .slice Ao26 t371.length co26, .slice Ao28 t374.length co28, .slice none 0 0]) ?_ 3 _ rfl; (with_reducible repeat (first | refine blk_drewN ?_ _ | refine blk_drew ?_ | refine blk_alloc ?_ _)); refine blk_put (cs := #[.bool t370, .slice Ao26 t371.length co26, .slice none 0 0, .slice none 0 0]) ?_ 2 _ rfl; (with_reducible repeat (first | refine blk_drewN ?_ _ | refine blk_drew ?_ | refine blk_alloc ?_ _)); refine blk_put (cs := #[.bool t370, .slice none 0 0, .slice none 0 0, .slice none 0 0]) ?_ 1 _ rfl; (with_reducible repeat (first | refine blk_drewN ?_ _ | refine blk_drew ?_ | refine blk_alloc ?_ _)); refine blk_put (cs := #[.bool false, .slice none 0 0, .slice none 0 0, .slice none 0 0]) ?_ 0 _ rfl; (with_reducible repeat (first | refine blk_drewN ?_ _ | refine blk_drew ?_ | refine blk_alloc ?_ _)); exact BK381.out⟩, ⟨by repeat (first | (with_reducible first | exact HB.out | apply below_alloc | apply pw_below_drewN | apply below_drew1 | refine below_set ?_ GE367.out | refine below_set ?_ GE381.out) | exact HB.out)⟩⟩
                      case rest =>
                        clear HC17
                        try clear c1
                        try clear c2
                        try clear p2
                        try clear c3
                        try clear p3
                        try clear q3
                        try clear hx3
                        try clear c4
                        try clear c8
                        try clear c9
                        try clear c9b0
                        try clear c10
                        try clear c12
                        try clear c12b0
                        try clear c13
                        try clear c13b0
                        try clear c14
                        try clear c14b0
                        try clear c15
                        try clear c15b0
                        try clear c28
                        try clear c29
                        try clear c33
                        try clear hcz7_0
                        try clear hcz7_1
                        try clear hcz7_2
                        try clear hcz7_3
                        try clear hfz7_0
                        try clear hfz7_1
                        try clear hfz7_2
                        try clear hfz7_3
                        try clear hx368_0
                        try clear hx369_0
                        try clear hx382_0
                        try clear p2
                        try clear p3
                        try clear p368
                        try clear p369
                        try clear p382
                        try clear q3
                        try clear q368
                        try clear q369
                        try clear q382
                        obtain ⟨kq, x55_16, rfl, HA, HJ16, HO_368001, HO_368002, HO_368003, HO_382001, HO_382002, HO_382003, BK367, BK381, HB⟩ := hcut
                        cases kq with
                        | zero => exact absurd HA.out (by simp [cisternlaw11_NodeGrows.j3])
                        | succ kj16 =>
                          have H := HA.out
                          clear HA
                          simp only [cisternlaw11_NodeGrows.j3] at H
                          by_cases c34 : x55_16 = true
                          · subst c34
                            have H1 : (if t380 = 2 then (cisternlaw11_NodeGrows.l0 kj16 l0 l1 (wrap64 (x6_1 + 1)) x368000_1 x368001_1 x368002_1 x368003_1) else (some false)) = some r := by rw [if_pos rfl] at H; exact H
                            clear H
                            have H := H1
                            clear H1
                            by_cases c35 : t380 = 2
                            · rw [if_pos c35] at H
                              have c35b0 : (t380 == 2) = true := beq_iff_eq.mpr c35
                              have c35b1 : (t380 != 2) = false := bne_eq_false_iff_eq.mpr c35
                              clear c35
                              have H' := Aside0.mk H
                              clear H
                              go_wp2
                              go_roundg kj16
                              case measure => have := HK1.out; have := HJ7.out; have := HJ10.out; have := HJ16.out; omega
                              case rel => exact ⟨(wrap64 (x6_1 + 1)), (x368000_1), (x368001_1), (x368002_1), (x368003_1), (.slice Ao18 x368001_1.length co18), (.slice Ao19 x368002_1.length co19), (.slice Ao20 x368003_1.length co20), (by first | rfl | (simp; done) | (simp [*]; done)), H', ⟨by have := HK1.out; have := HJ7.out; have := HJ10.out; have := HJ16.out; omega⟩, ⟨by (with_reducible repeat (first | apply Kd.R_alloc | apply Kd.R_drewN | apply Kd.R_drew)); exact Kd.R_mono HO_368001.out (fun _ hk => trivial)⟩, ⟨by (with_reducible repeat (first | apply Kd.R_alloc | apply Kd.R_drewN | apply Kd.R_drew)); exact Kd.R_mono HO_368002.out (fun _ hk => trivial)⟩, ⟨by (with_reducible repeat (first | apply Kd.R_alloc | apply Kd.R_drewN | apply Kd.R_drew)); exact Kd.R_mono HO_368003.out (fun _ hk => trivial)⟩, ⟨by (with_reducible repeat (first | refine blk_drewN ?_ _ | refine blk_drew ?_ | refine blk_alloc ?_ _)); exact BK367.out⟩, ⟨by repeat (first | (with_reducible first | exact HB.out | apply below_alloc | apply pw_below_drewN | apply below_drew1 | refine below_set ?_ GE367.out | refine below_set ?_ GE381.out) | exact HB.out)⟩⟩
                            · rw [if_neg c35] at H
                              have c35b0 : (t380 == 2) = false := beq_eq_false_iff_ne.mpr c35
                              have c35b1 : (t380 != 2) = true := bne_iff_ne.mpr c35
                              obtain rfl := Option.some.inj H
                              go_wp2
                              go_ret
                              exact ⟨by first | rfl | (simp [errW_none, errW_some] <;> rfl) | (simp [*, errW_none, errW_some] <;> rfl), by repeat (first | (with_reducible first | exact HB.out | apply below_alloc | apply pw_below_drewN | apply below_drew1 | refine below_set ?_ GE367.out | refine below_set ?_ GE381.out) | exact HB.out)⟩
                          · replace c34 := Bool.eq_false_iff.mpr c34
                            subst c34
                            have H1 : (if t380 = 0 then ((node_Check.f t370 t371 t374 t377).bind fun t384 => (cisternlaw11_NodeGrows.j4 kj16 l0 l1 x6_1 (t384 != 0) t370 t371 t374 t377)) else (cisternlaw11_NodeGrows.j4 kj16 l0 l1 x6_1 true t370 t371 t374 t377)) = some r := by rw [if_neg (show ¬ (false = true) by decide)] at H; exact H
                            clear H
                            have H := H1
                            clear H1
                            have HC36 := Aside0.mk H
                            clear H
                            go_upto_region 14 with (fail)
                            go_cut [64] (fun v64 wc => ∃ (kq : Nat) (x64_35 : Bool), v64 = .bool x64_35 ∧ Aside0 (cisternlaw11_NodeGrows.j4 kq l0 l1 x6_1 x64_35 t370 t371 t374 t377 = some r) ∧ Aside0 (kq ≤ kj16) ∧ Aside0 (Kd.R k48 48 wc w.heap.size (fun k_ => some k_ ≠ ((.slice Ao26 t371.length co26) : Value).ownBlock) (.slice Ao18 x368001_1.length co18) x368001_1) ∧ Aside0 (Kd.R Kd.string 9 wc w.heap.size (fun k_ => some k_ ≠ ((.slice Ao28 t374.length co28) : Value).ownBlock) (.slice Ao19 x368002_1.length co19) x368002_1) ∧ Aside0 (Kd.R (Kd.int .i64) 3 wc w.heap.size (fun k_ => some k_ ≠ ((.slice Ao30 t377.length co30) : Value).ownBlock) (.slice Ao20 x368003_1.length co20) x368003_1) ∧ Aside0 (Kd.R k48 48 wc w.heap.size (fun k_ => some k_ ≠ ((.slice Ao18 x368001_1.length co18) : Value).ownBlock) (.slice Ao26 t371.length co26) t371) ∧ Aside0 (Kd.R Kd.string 9 wc w.heap.size (fun k_ => some k_ ≠ ((.slice Ao19 x368002_1.length co19) : Value).ownBlock) (.slice Ao28 t374.length co28) t374) ∧ Aside0 (Kd.R (Kd.int .i64) 3 wc w.heap.size (fun k_ => some k_ ≠ ((.slice Ao20 x368003_1.length co20) : Value).ownBlock) (.slice Ao30 t377.length co30) t377) ∧ Aside0 (wc.heap[gb367]? = some (.cells #[.bool x368000_1, (.slice Ao18 x368001_1.length co18), (.slice Ao19 x368002_1.length co19), (.slice Ao20 x368003_1.length co20)] 31 (0, 0))) ∧ Aside0 (wc.heap[gb381]? = some (.cells #[.bool t370, (.slice Ao26 t371.length co26), (.slice Ao28 t374.length co28), (.slice Ao30 t377.length co30)] 31 (0, 0))) ∧ Aside0 (Below w.heap.size w wc))
                            case first =>
                              have H := HC36.out
                              clear HC36
                              by_cases c37 : t380 = 0
                              · rw [if_pos c37] at H
                                have c37b0 : (t380 == 0) = true := beq_iff_eq.mpr c37
                                have c37b1 : (t380 != 0) = false := bne_eq_false_iff_eq.mpr c37
                                clear c37
                                (first | rw [c37b0] | (simp only [i64_w, i32_w]; rw [c37b0]) | skip)
                                replace H := Option.bind_eq_some_iff.mp H
                                obtain ⟨t384, A380, H⟩ := H
                                replace H : (cisternlaw11_NodeGrows.j4 kj16 l0 l1 x6_1 (t384 != 0) t370 t371 t374 t377) = some r := H
                                have A38 := Aside0.mk A380
                                clear A380
                                have H' := Aside0.mk H
                                clear H
                                have hnb39 := NB381_367.out
                                have hnc39 := NB367_381.out
                                have hcz40_0 : wc.cell? ⟨gb381, 0, none⟩ = some (.bool t370) := (blk_cell BK381.out 0).trans rfl
                                have hcz40_1 : wc.cell? ⟨gb381, 1, none⟩ = some (.slice Ao26 t371.length co26) := (blk_cell BK381.out 1).trans rfl
                                have hcz40_2 : wc.cell? ⟨gb381, 2, none⟩ = some (.slice Ao28 t374.length co28) := (blk_cell BK381.out 2).trans rfl
                                have hcz40_3 : wc.cell? ⟨gb381, 3, none⟩ = some (.slice Ao30 t377.length co30) := (blk_cell BK381.out 3).trans rfl
                                have hfz40_0 := blk_frozen BK381.out 0
                                have hfz40_1 := blk_frozen BK381.out 1
                                have hfz40_2 := blk_frozen BK381.out 2
                                have hfz40_3 := blk_frozen BK381.out 3
                                go_wp2_with (first | (go_at_call 15; (with_reducible refine (node_Check.calls t370 _ _ t371 _ _ t374 _ _ t377 t384 _ ?side1 ?side2 ?side3 ?side4 ?side5 ?side6 A38.out).mono ?_); (case side1 => repeat (first | exact (Kd.R_reads' HO_382001.out).2.2 | (with_reducible refine Kd.C_alloc ?_ _) | (with_reducible refine Kd.C_drewN ?_ _) | (with_reducible refine Kd.C_drew ?_))); (case side2 => exact (Kd.R_reads' HO_382001.out).2.1); (case side3 => repeat (first | exact (Kd.R_reads' HO_382002.out).2.2 | (with_reducible refine Kd.C_alloc ?_ _) | (with_reducible refine Kd.C_drewN ?_ _) | (with_reducible refine Kd.C_drew ?_))); (case side4 => exact (Kd.R_reads' HO_382002.out).2.1); (case side5 => repeat (first | exact (Kd.R_reads' HO_382003.out).2.2 | (with_reducible refine Kd.C_alloc ?_ _) | (with_reducible refine Kd.C_drewN ?_ _) | (with_reducible refine Kd.C_drew ?_))); (case side6 => exact (Kd.R_reads' HO_382003.out).2.1); rintro e w41 ⟨rfl, hb⟩; have n0_ := Aside0.mk (Kd.R_below (by (with_reducible repeat (first | apply Kd.R_alloc | apply Kd.R_drewN | apply Kd.R_drew)); exact HO_368001.out) hb); have n1_ := Aside0.mk (Kd.R_below (by (with_reducible repeat (first | apply Kd.R_alloc | apply Kd.R_drewN | apply Kd.R_drew)); exact HO_368002.out) hb); have n2_ := Aside0.mk (Kd.R_below (by (with_reducible repeat (first | apply Kd.R_alloc | apply Kd.R_drewN | apply Kd.R_drew)); exact HO_368003.out) hb); have n3_ := Aside0.mk (Kd.R_below (by (with_reducible repeat (first | apply Kd.R_alloc | apply Kd.R_drewN | apply Kd.R_drew)); exact HO_382001.out) hb); have n4_ := Aside0.mk (Kd.R_below (by (with_reducible repeat (first | apply Kd.R_alloc | apply Kd.R_drewN | apply Kd.R_drew)); exact HO_382002.out) hb); have n5_ := Aside0.mk (Kd.R_below (by (with_reducible repeat (first | apply Kd.R_alloc | apply Kd.R_drewN | apply Kd.R_drew)); exact HO_382003.out) hb); have n6_ := Aside0.mk (blk_below (g := gb367) (o := .cells #[.bool x368000_1, .slice Ao18 x368001_1.length co18, .slice Ao19 x368002_1.length co19, .slice Ao20 x368003_1.length co20] 31 (0, 0)) (by (with_reducible repeat (first | refine blk_drewN ?_ _ | refine blk_drew ?_ | refine blk_alloc ?_ _)); exact BK367.out) hb); have n7_ := Aside0.mk (blk_below (g := gb381) (o := .cells #[.bool t370, .slice Ao26 t371.length co26, .slice Ao28 t374.length co28, .slice Ao30 t377.length co30] 31 (0, 0)) (by (with_reducible repeat (first | refine blk_drewN ?_ _ | refine blk_drew ?_ | refine blk_alloc ?_ _)); exact BK381.out) hb); have n8_ := Aside0.mk (below_step (by repeat (first | (with_reducible first | exact HB.out | apply below_alloc | apply pw_below_drewN | apply below_drew1 | refine below_set ?_ GE367.out | refine below_set ?_ GE381.out) | exact HB.out)) hb); clear HO_368001; clear HO_368002; clear HO_368003; clear HO_382001; clear HO_382002; clear HO_382003; clear BK367; clear BK381; clear HB; have HO_368001 := n0_; have HO_368002 := n1_; have HO_368003 := n2_; have HO_382001 := n3_; have HO_382002 := n4_; have HO_382003 := n5_; have BK367 := n6_; have BK381 := n7_; have HB := n8_; clear n0_ n1_ n2_ n3_ n4_ n5_ n6_ n7_ n8_; (try clear hb); (try clear hb2); (try clear hk); (try clear hi)))
                                go_meet
                                case rel => exact ⟨_, ((t384 != 0)), (by first | rfl | (simp; done) | (simp [*]; done)), H', ⟨by have := HK1.out; have := HJ7.out; have := HJ10.out; have := HJ16.out; first | omega | exact Nat.le_refl _⟩, ⟨by (with_reducible repeat (first | apply Kd.R_alloc | apply Kd.R_drewN | apply Kd.R_drew)); exact HO_368001.out⟩, ⟨by (with_reducible repeat (first | apply Kd.R_alloc | apply Kd.R_drewN | apply Kd.R_drew)); exact HO_368002.out⟩, ⟨by (with_reducible repeat (first | apply Kd.R_alloc | apply Kd.R_drewN | apply Kd.R_drew)); exact HO_368003.out⟩, ⟨by (with_reducible repeat (first | apply Kd.R_alloc | apply Kd.R_drewN | apply Kd.R_drew)); exact HO_382001.out⟩, ⟨by (with_reducible repeat (first | apply Kd.R_alloc | apply Kd.R_drewN | apply Kd.R_drew)); exact HO_382002.out⟩, ⟨by (with_reducible repeat (first | apply Kd.R_alloc | apply Kd.R_drewN | apply Kd.R_drew)); exact HO_382003.out⟩, ⟨by (with_reducible repeat (first | refine blk_drewN ?_ _ | refine blk_drew ?_ | refine blk_alloc ?_ _)); exact BK367.out⟩, ⟨by (with_reducible repeat (first | refine blk_drewN ?_ _ | refine blk_drew ?_ | refine blk_alloc ?_ _)); exact BK381.out⟩, ⟨by repeat (first | (with_reducible first | exact HB.out | apply below_alloc | apply pw_below_drewN | apply below_drew1 | refine below_set ?_ GE367.out | refine below_set ?_ GE381.out) | exact HB.out)⟩⟩
                              · rw [if_neg c37] at H
                                have c37b0 : (t380 == 0) = false := beq_eq_false_iff_ne.mpr c37
                                have c37b1 : (t380 != 0) = true := bne_iff_ne.mpr c37
                                (first | rw [c37b0] | (simp only [i64_w, i32_w]; rw [c37b0]) | skip)
                                have H' := Aside0.mk H
                                clear H
                                go_wp2
                                go_meet
                                case rel => exact ⟨_, (true), (by first | rfl | (simp; done) | (simp [*]; done)), H', ⟨by have := HK1.out; have := HJ7.out; have := HJ10.out; have := HJ16.out; first | omega | exact Nat.le_refl _⟩, ⟨by (with_reducible repeat (first | apply Kd.R_alloc | apply Kd.R_drewN | apply Kd.R_drew)); exact HO_368001.out⟩, ⟨by (with_reducible repeat (first | apply Kd.R_alloc | apply Kd.R_drewN | apply Kd.R_drew)); exact HO_368002.out⟩, ⟨by (with_reducible repeat (first | apply Kd.R_alloc | apply Kd.R_drewN | apply Kd.R_drew)); exact HO_368003.out⟩, ⟨by (with_reducible repeat (first | apply Kd.R_alloc | apply Kd.R_drewN | apply Kd.R_drew)); exact HO_382001.out⟩, ⟨by (with_reducible repeat (first | apply Kd.R_alloc | apply Kd.R_drewN | apply Kd.R_drew)); exact HO_382002.out⟩, ⟨by (with_reducible repeat (first | apply Kd.R_alloc | apply Kd.R_drewN | apply Kd.R_drew)); exact HO_382003.out⟩, ⟨by (with_reducible repeat (first | refine blk_drewN ?_ _ | refine blk_drew ?_ | refine blk_alloc ?_ _)); exact BK367.out⟩, ⟨by (with_reducible repeat (first | refine blk_drewN ?_ _ | refine blk_drew ?_ | refine blk_alloc ?_ _)); exact BK381.out⟩, ⟨by repeat (first | (with_reducible first | exact HB.out | apply below_alloc | apply pw_below_drewN | apply below_drew1 | refine below_set ?_ GE367.out | refine below_set ?_ GE381.out) | exact HB.out)⟩⟩
                            case rest =>
                              clear HC36
                              try clear c1
                              try clear c2
                              try clear p2
                              try clear c3
                              try clear p3
                              try clear q3
                              try clear hx3
                              try clear c4
                              try clear p6
                              try clear c8
                              try clear c9
                              try clear c9b0
                              try clear c10
                              try clear c12
                              try clear c12b0
                              try clear c13
                              try clear c13b0
                              try clear c14
                              try clear c14b0
                              try clear c15
                              try clear c15b0
                              try clear c28
                              try clear c29
                              try clear c33
                              try clear c34
                              try clear c35
                              try clear c35b0
                              try clear c35b1
                              try clear p36
                              try clear q36
                              try clear hx36
                              try clear c37
                              try clear c37b0
                              try clear c37b1
                              try clear p38
                              try clear q38
                              try clear hx38
                              try clear c39
                              try clear hcz40_0
                              try clear hcz40_1
                              try clear hcz40_2
                              try clear hcz40_3
                              try clear hcz7_0
                              try clear hcz7_1
                              try clear hcz7_2
                              try clear hcz7_3
                              try clear hfz40_0
                              try clear hfz40_1
                              try clear hfz40_2
                              try clear hfz40_3
                              try clear hfz7_0
                              try clear hfz7_1
                              try clear hfz7_2
                              try clear hfz7_3
                              try clear hx368_0
                              try clear hx369_0
                              try clear hx382_0
                              try clear p2
                              try clear p3
                              try clear p368
                              try clear p369
                              try clear p382
                              try clear q3
                              try clear q368
                              try clear q369
                              try clear q382
                              obtain ⟨kq, x64_35, rfl, HA, HJ35, HO_368001, HO_368002, HO_368003, HO_382001, HO_382002, HO_382003, BK367, BK381, HB⟩ := hcut
                              cases kq with
                              | zero => exact absurd HA.out (by simp [cisternlaw11_NodeGrows.j4])
                              | succ kj35 =>
                                have H := HA.out
                                clear HA
                                simp only [cisternlaw11_NodeGrows.j4] at H
                                by_cases c42 : x64_35 = true
                                · subst c42
                                  have H1 : (some false) = some r := by rw [if_pos rfl] at H; exact H
                                  clear H
                                  have H := H1
                                  clear H1
                                  obtain rfl := Option.some.inj H
                                  go_wp2
                                  go_ret
                                  exact ⟨by first | rfl | (simp [errW_none, errW_some] <;> rfl) | (simp [*, errW_none, errW_some] <;> rfl), by repeat (first | (with_reducible first | exact HB.out | apply below_alloc | apply pw_below_drewN | apply below_drew1 | refine below_set ?_ GE367.out | refine below_set ?_ GE381.out) | exact HB.out)⟩
                                · replace c42 := Bool.eq_false_iff.mpr c42
                                  subst c42
                                  have H1 : (cisternlaw11_NodeGrows.l1 kj35 l0 l1 x6_1 0 t370 t371 t374 t377) = some r := by rw [if_neg (show ¬ (false = true) by decide)] at H; exact H
                                  clear H
                                  have H := H1
                                  clear H1
                                  have H' := Aside0.mk H
                                  clear H
                                  have hnb43 := NB381_367.out
                                  have hnc43 := NB367_381.out
                                  have hcz44_0 : wc.cell? ⟨gb381, 0, none⟩ = some (.bool t370) := (blk_cell BK381.out 0).trans rfl
                                  have hcz44_1 : wc.cell? ⟨gb381, 1, none⟩ = some (.slice Ao26 t371.length co26) := (blk_cell BK381.out 1).trans rfl
                                  have hcz44_2 : wc.cell? ⟨gb381, 2, none⟩ = some (.slice Ao28 t374.length co28) := (blk_cell BK381.out 2).trans rfl
                                  have hcz44_3 : wc.cell? ⟨gb381, 3, none⟩ = some (.slice Ao30 t377.length co30) := (blk_cell BK381.out 3).trans rfl
                                  have hfz44_0 := blk_frozen BK381.out 0
                                  have hfz44_1 := blk_frozen BK381.out 1
                                  have hfz44_2 := blk_frozen BK381.out 2
                                  have hfz44_3 := blk_frozen BK381.out 3
                                  have hcz45_0 : wc.cell? ⟨gb367, 0, none⟩ = some (.bool x368000_1) := (blk_cell BK367.out 0).trans rfl
                                  have hcz45_1 : wc.cell? ⟨gb367, 1, none⟩ = some (.slice Ao18 x368001_1.length co18) := (blk_cell BK367.out 1).trans rfl
                                  have hcz45_2 : wc.cell? ⟨gb367, 2, none⟩ = some (.slice Ao19 x368002_1.length co19) := (blk_cell BK367.out 2).trans rfl
                                  have hcz45_3 : wc.cell? ⟨gb367, 3, none⟩ = some (.slice Ao20 x368003_1.length co20) := (blk_cell BK367.out 3).trans rfl
                                  have hfz45_0 := blk_frozen BK367.out 0
                                  have hfz45_1 := blk_frozen BK367.out 1
                                  have hfz45_2 := blk_frozen BK367.out 2
                                  have hfz45_3 := blk_frozen BK367.out 3
                                  go_wp2
                                  go_loopg [10] kj35 (fun kq v10 w' => ∃ (x10_6 : Int), v10 = .int .i64 x10_6 ∧ Aside0 (cisternlaw11_NodeGrows.l1 kq l0 l1 x6_1 x10_6 t370 t371 t374 t377 = some r) ∧ Aside0 (kq ≤ kj35) ∧ Aside0 (Kd.R k48 48 w' w.heap.size (fun _ => True) (.slice Ao26 t371.length co26) t371) ∧ Aside0 (Kd.R Kd.string 9 w' w.heap.size (fun _ => True) (.slice Ao28 t374.length co28) t374) ∧ Aside0 (Kd.R (Kd.int .i64) 3 w' w.heap.size (fun _ => True) (.slice Ao30 t377.length co30) t377) ∧ Aside0 (Kd.R k48 48 w' w.heap.size (fun _ => True) (.slice Ao26 t371.length co26) t371) ∧ Aside0 (Kd.R Kd.string 9 w' w.heap.size (fun _ => True) (.slice Ao28 t374.length co28) t374) ∧ Aside0 (Kd.R (Kd.int .i64) 3 w' w.heap.size (fun _ => True) (.slice Ao30 t377.length co30) t377) ∧ Aside0 (w'.heap[gb367]? = some (.cells #[.bool t370, (.slice Ao26 t371.length co26), (.slice Ao28 t374.length co28), (.slice Ao30 t377.length co30)] 31 (0, 0))) ∧ Aside0 (w'.heap[gb381]? = some (.cells #[.bool t370, (.slice Ao26 t371.length co26), (.slice Ao28 t374.length co28), (.slice Ao30 t377.length co30)] 31 (0, 0))) ∧ Aside0 (Below w.heap.size w w'))
                                  case atStart => exact ⟨(0), (by first | rfl | (simp; done) | (simp [*]; done)), H', ⟨Nat.le_refl _⟩, ⟨by (with_reducible repeat (first | apply Kd.R_alloc | apply Kd.R_drewN | apply Kd.R_drew)); exact Kd.R_mono (Kd.R_far (p := ⟨gb367, 3, none⟩) (Kd.R_far (p := ⟨gb367, 2, none⟩) (Kd.R_far (p := ⟨gb367, 1, none⟩) (Kd.R_far (p := ⟨gb367, 0, none⟩) (Kd.R_types HO_382001.out BK367.out (by decide)) (fun _ hk => hk.2) (.bool t370)) (fun _ hk => hk.2) (.slice Ao26 t371.length co26)) (fun _ hk => hk.2) (.slice Ao28 t374.length co28)) (fun _ hk => hk.2) (.slice Ao30 t377.length co30)) (fun _ hk => trivial)⟩, ⟨by (with_reducible repeat (first | apply Kd.R_alloc | apply Kd.R_drewN | apply Kd.R_drew)); exact Kd.R_mono (Kd.R_far (p := ⟨gb367, 3, none⟩) (Kd.R_far (p := ⟨gb367, 2, none⟩) (Kd.R_far (p := ⟨gb367, 1, none⟩) (Kd.R_far (p := ⟨gb367, 0, none⟩) (Kd.R_types HO_382002.out BK367.out (by decide)) (fun _ hk => hk.2) (.bool t370)) (fun _ hk => hk.2) (.slice Ao26 t371.length co26)) (fun _ hk => hk.2) (.slice Ao28 t374.length co28)) (fun _ hk => hk.2) (.slice Ao30 t377.length co30)) (fun _ hk => trivial)⟩, ⟨by (with_reducible repeat (first | apply Kd.R_alloc | apply Kd.R_drewN | apply Kd.R_drew)); exact Kd.R_mono (Kd.R_far (p := ⟨gb367, 3, none⟩) (Kd.R_far (p := ⟨gb367, 2, none⟩) (Kd.R_far (p := ⟨gb367, 1, none⟩) (Kd.R_far (p := ⟨gb367, 0, none⟩) (Kd.R_types HO_382003.out BK367.out (by decide)) (fun _ hk => hk.2) (.bool t370)) (fun _ hk => hk.2) (.slice Ao26 t371.length co26)) (fun _ hk => hk.2) (.slice Ao28 t374.length co28)) (fun _ hk => hk.2) (.slice Ao30 t377.length co30)) (fun _ hk => trivial)⟩, ⟨by (with_reducible repeat (first | apply Kd.R_alloc | apply Kd.R_drewN | apply Kd.R_drew)); exact Kd.R_mono (Kd.R_far (p := ⟨gb367, 3, none⟩) (Kd.R_far (p := ⟨gb367, 2, none⟩) (Kd.R_far (p := ⟨gb367, 1, none⟩) (Kd.R_far (p := ⟨gb367, 0, none⟩) (Kd.R_types HO_382001.out BK367.out (by decide)) (fun _ hk => hk.2) (.bool t370)) (fun _ hk => hk.2) (.slice Ao26 t371.length co26)) (fun _ hk => hk.2) (.slice Ao28 t374.length co28)) (fun _ hk => hk.2) (.slice Ao30 t377.length co30)) (fun _ hk => trivial)⟩, ⟨by (with_reducible repeat (first | apply Kd.R_alloc | apply Kd.R_drewN | apply Kd.R_drew)); exact Kd.R_mono (Kd.R_far (p := ⟨gb367, 3, none⟩) (Kd.R_far (p := ⟨gb367, 2, none⟩) (Kd.R_far (p := ⟨gb367, 1, none⟩) (Kd.R_far (p := ⟨gb367, 0, none⟩) (Kd.R_types HO_382002.out BK367.out (by decide)) (fun _ hk => hk.2) (.bool t370)) (fun _ hk => hk.2) (.slice Ao26 t371.length co26)) (fun _ hk => hk.2) (.slice Ao28 t374.length co28)) (fun _ hk => hk.2) (.slice Ao30 t377.length co30)) (fun _ hk => trivial)⟩, ⟨by (with_reducible repeat (first | apply Kd.R_alloc | apply Kd.R_drewN | apply Kd.R_drew)); exact Kd.R_mono (Kd.R_far (p := ⟨gb367, 3, none⟩) (Kd.R_far (p := ⟨gb367, 2, none⟩) (Kd.R_far (p := ⟨gb367, 1, none⟩) (Kd.R_far (p := ⟨gb367, 0, none⟩) (Kd.R_types HO_382003.out BK367.out (by decide)) (fun _ hk => hk.2) (.bool t370)) (fun _ hk => hk.2) (.slice Ao26 t371.length co26)) (fun _ hk => hk.2) (.slice Ao28 t374.length co28)) (fun _ hk => hk.2) (.slice Ao30 t377.length co30)) (fun _ hk => trivial)⟩, ⟨by (with_reducible repeat (first | refine blk_drewN ?_ _ | refine blk_drew ?_ | refine blk_alloc ?_ _)); refine blk_put (cs := #[.bool t370, .slice Ao26 t371.length co26, .slice Ao28 t374.length co28, .slice Ao20 x368003_1.length co20]) ?_ 3 _ rfl; (with_reducible repeat (first | refine blk_drewN ?_ _ | refine blk_drew ?_ | refine blk_alloc ?_ _)); refine blk_put (cs := #[.bool t370, .slice Ao26 t371.length co26, .slice Ao19 x368002_1.length co19, .slice Ao20 x368003_1.length co20]) ?_ 2 _ rfl; (with_reducible repeat (first | refine blk_drewN ?_ _ | refine blk_drew ?_ | refine blk_alloc ?_ _)); refine blk_put (cs := #[.bool t370, .slice Ao18 x368001_1.length co18, .slice Ao19 x368002_1.length co19, .slice Ao20 x368003_1.length co20]) ?_ 1 _ rfl; (with_reducible repeat (first | refine blk_drewN ?_ _ | refine blk_drew ?_ | refine blk_alloc ?_ _)); refine blk_put (cs := #[.bool x368000_1, .slice Ao18 x368001_1.length co18, .slice Ao19 x368002_1.length co19, .slice Ao20 x368003_1.length co20]) ?_ 0 _ rfl; (with_reducible repeat (first | refine blk_drewN ?_ _ | refine blk_drew ?_ | refine blk_alloc ?_ _)); exact BK367.out⟩, ⟨by (with_reducible repeat (first | refine blk_drewN ?_ _ | refine blk_drew ?_ | refine blk_alloc ?_ _)); refine blk_far ?_ NB381_367.out _; (with_reducible repeat (first | refine blk_drewN ?_ _ | refine blk_drew ?_ | refine blk_alloc ?_ _)); refine blk_far ?_ NB381_367.out _; (with_reducible repeat (first | refine blk_drewN ?_ _ | refine blk_drew ?_ | refine blk_alloc ?_ _)); refine blk_far ?_ NB381_367.out _; (with_reducible repeat (first | refine blk_drewN ?_ _ | refine blk_drew ?_ | refine blk_alloc ?_ _)); refine blk_far ?_ NB381_367.out _; (with_reducible repeat (first | refine blk_drewN ?_ _ | refine blk_drew ?_ | refine blk_alloc ?_ _)); exact BK381.out⟩, ⟨by repeat (first | (with_reducible first | exact HB.out | apply below_alloc | apply pw_below_drewN | apply below_drew1 | refine below_set ?_ GE367.out | refine below_set ?_ GE381.out) | exact HB.out)⟩⟩
                                  case round =>
                                    clear H'
                                    try clear c1
                                    try clear c2
                                    try clear p2
                                    try clear c3
                                    try clear p3
                                    try clear q3
                                    try clear hx3
                                    try clear c4
                                    try clear p6
                                    try clear c8
                                    try clear c9
                                    try clear c9b0
                                    try clear c10
                                    try clear c12
                                    try clear c12b0
                                    try clear c13
                                    try clear c13b0
                                    try clear c14
                                    try clear c14b0
                                    try clear c15
                                    try clear c15b0
                                    try clear c28
                                    try clear c29
                                    try clear c33
                                    try clear c34
                                    try clear c35
                                    try clear c35b0
                                    try clear c35b1
                                    try clear p36
                                    try clear q36
                                    try clear hx36
                                    try clear c37
                                    try clear c37b0
                                    try clear c37b1
                                    try clear p38
                                    try clear q38
                                    try clear hx38
                                    try clear c39
                                    try clear c42
                                    try clear c43
                                    try clear hcz40_0
                                    try clear hcz40_1
                                    try clear hcz40_2
                                    try clear hcz40_3
                                    try clear hcz44_0
                                    try clear hcz44_1
                                    try clear hcz44_2
                                    try clear hcz44_3
                                    try clear hcz45_0
                                    try clear hcz45_1
                                    try clear hcz45_2
                                    try clear hcz45_3
                                    try clear hcz7_0
                                    try clear hcz7_1
                                    try clear hcz7_2
                                    try clear hcz7_3
                                    try clear hfz40_0
                                    try clear hfz40_1
                                    try clear hfz40_2
                                    try clear hfz40_3
                                    try clear hfz44_0
                                    try clear hfz44_1
                                    try clear hfz44_2
                                    try clear hfz44_3
                                    try clear hfz45_0
                                    try clear hfz45_1
                                    try clear hfz45_2
                                    try clear hfz45_3
                                    try clear hfz7_0
                                    try clear hfz7_1
                                    try clear hfz7_2
                                    try clear hfz7_3
                                    try clear hx368_0
                                    try clear hx369_0
                                    try clear hx382_0
                                    try clear p2
                                    try clear p3
                                    try clear p36
                                    try clear p368
                                    try clear p369
                                    try clear p38
                                    try clear p382
                                    try clear p6
                                    try clear q3
                                    try clear q36
                                    try clear q368
                                    try clear q369
                                    try clear q38
                                    try clear q382
                                    obtain ⟨x10_6, rfl, HA, HK6, HO_368001, HO_368002, HO_368003, HO_382001, HO_382002, HO_382003, BK367, BK381, HB⟩ := hrel
                                    cases gk with
                                    | zero => exact absurd HA.out (by simp [cisternlaw11_NodeGrows.l1])
                                    | succ k6 =>
                                      have H := HA.out
                                      clear HA
                                      simp only [cisternlaw11_NodeGrows.l1] at H
                                      by_cases c46 : x10_6 < (t371.length : Int)
                                      · rw [if_pos c46] at H
                                        have c46b0 : decide (x10_6 < (t371.length : Int)) = true := decide_eq_true c46
                                        clear c46
                                        by_cases c47 : 0 ≤ x10_6
                                        · rw [if_pos c47] at H
                                          have c47b0 : decide (0 ≤ x10_6) = true := decide_eq_true c47
                                          clear c47
                                          replace H := Option.bind_eq_some_iff.mp H
                                          obtain ⟨⟨t386, t387⟩, A480, H⟩ := H
                                          replace H : (if t387 = 0 then (if t386 = x10_6 then (cisternlaw11_NodeGrows.l1 k6 l0 l1 x6_1 (wrap64 (x10_6 + 1)) t370 t371 t374 t377) else (some false)) else (some false)) = some r := H
                                          have A48 := Aside0.mk A480
                                          clear A480
                                          by_cases c49 : t387 = 0
                                          · rw [if_pos c49] at H
                                            have c49b0 : (t387 == 0) = true := beq_iff_eq.mpr c49
                                            have c49b1 : (t387 != 0) = false := bne_eq_false_iff_eq.mpr c49
                                            clear c49
                                            by_cases c50 : t386 = x10_6
                                            · rw [if_pos c50] at H
                                              have c50b0 : (t386 == x10_6) = true := beq_iff_eq.mpr c50
                                              have c50b1 : (t386 != x10_6) = false := bne_eq_false_iff_eq.mpr c50
                                              clear c50
                                              have H' := Aside0.mk H
                                              clear H
                                              have hnb51 := NB367_381.out
                                              have hnc51 := NB381_367.out
                                              have hcz52_0 : wr.cell? ⟨gb367, 0, none⟩ = some (.bool t370) := (blk_cell BK367.out 0).trans rfl
                                              have hcz52_1 : wr.cell? ⟨gb367, 1, none⟩ = some (.slice Ao26 t371.length co26) := (blk_cell BK367.out 1).trans rfl
                                              have hcz52_2 : wr.cell? ⟨gb367, 2, none⟩ = some (.slice Ao28 t374.length co28) := (blk_cell BK367.out 2).trans rfl
                                              have hcz52_3 : wr.cell? ⟨gb367, 3, none⟩ = some (.slice Ao30 t377.length co30) := (blk_cell BK367.out 3).trans rfl
                                              have hfz52_0 := blk_frozen BK367.out 0
                                              have hfz52_1 := blk_frozen BK367.out 1
                                              have hfz52_2 := blk_frozen BK367.out 2
                                              have hfz52_3 := blk_frozen BK367.out 3
                                              try go_wp2
                                              have n0_ := Aside0.mk (Kd.R_drew HO_368001.out)
                                              have n1_ := Aside0.mk (Kd.R_drew HO_368002.out)
                                              have n2_ := Aside0.mk (Kd.R_drew HO_368003.out)
                                              have n3_ := Aside0.mk (Kd.R_drew HO_382001.out)
                                              have n4_ := Aside0.mk (Kd.R_drew HO_382002.out)
                                              have n5_ := Aside0.mk (Kd.R_drew HO_382003.out)
                                              have n6_ := Aside0.mk (blk_drew BK367.out)
                                              have n7_ := Aside0.mk (blk_drew BK381.out)
                                              have n8_ := Aside0.mk (below_drew1 HB.out)
                                              clear HO_368001
                                              clear HO_368002
                                              clear HO_368003
                                              clear HO_382001
                                              clear HO_382002
                                              clear HO_382003
                                              clear BK367
                                              clear BK381
                                              clear HB
                                              have HO_368001 := n0_
                                              have HO_368002 := n1_
                                              have HO_368003 := n2_
                                              have HO_382001 := n3_
                                              have HO_382002 := n4_
                                              have HO_382003 := n5_
                                              have BK367 := n6_
                                              have BK381 := n7_
                                              have HB := n8_
                                              clear n0_ n1_ n2_ n3_ n4_ n5_ n6_ n7_ n8_
                                              have p385 : 0 ≤ (x10_6 : Int) := of_decide_eq_true (by first | (with_reducible assumption) | assumption)
                                              have q385 : x10_6 < (t371.length : Int) := of_decide_eq_true (by first | (with_reducible assumption) | assumption)
                                              obtain ⟨ad385, e385, hx385_0, hx385_1⟩ := at_T48 (Kd.R_reads' HO_368001.out).2.2 x10_6 p385 q385
                                              cases e385
                                              replace p385 := eq_true p385
                                              replace q385 := eq_true q385
                                              refine start_ (n := 13) (S := fun w' => w'.cell? ⟨gb367, 0, none⟩ = some (.bool t370) ∧ w'.cell? ⟨gb367, 1, none⟩ = some (.slice (some ad385) t371.length co26) ∧ w'.cell? ⟨gb367, 2, none⟩ = some (.slice Ao28 t374.length co28) ∧ w'.cell? ⟨gb367, 3, none⟩ = some (.slice Ao30 t377.length co30) ∧ w'.cell? (ad385.add ((x10_6).toNat * 2)) = some (.string ((rd_T48 t371 x10_6).f0)) ∧ w'.cell? ⟨(ad385.add ((x10_6).toNat * 2)).block, (ad385.add ((x10_6).toNat * 2)).off + 1, none⟩ = some (.string ((rd_T48 t371 x10_6).f1))) (ds := []) #[false, false, false, false, false, false, false, false, false, false, false, false, false] (by kernel_rfl) rfl rfl ⟨(blk_cell BK367.out 0).trans rfl, (blk_cell BK367.out 1).trans rfl, (blk_cell BK367.out 2).trans rfl, (blk_cell BK367.out 3).trans rfl, hx385_0, hx385_1⟩ (fun hHeld => ?_); refine with_tabW cisternlaw11_NodeGrows.tab20 cisternlaw11_NodeGrows.bits20 (fun HT_ HW_ => ?_)
                                              generalize wr.drew = w53 at HO_368001 HO_368002 HO_368003 HO_382001 HO_382002 HO_382003 BK367 BK381 HB hx385_0 hx385_1 hHeld ⊢
                                              refine pure_ (i := 1) (N := some 75) (v := ?_) (a' := ?_) #[false, true, false, false, false, false, false, false, false, false, false, false, false] rfl rfl (any_of HT_.out (by kernel_rfl)) (fun _ _ _ h => h) (Or.inl ⟨by rfl, ?_⟩) ?_ ?_
                                              rotate_left
                                              · intro w'
                                                go_simp
                                                with_reducible rfl
                                              rotate_left
                                              · simp only [Act.put, List.setIfInBounds_toArray, List.set_cons_zero, List.set_cons_succ, i64_w, i32_w]
                                                rfl
                                              refine pure_ (i := 3) (N := some 77) (v := ?_) (a' := ?_) #[false, true, false, true, false, false, false, false, false, false, false, false, false] rfl rfl (any_of HT_.out (by kernel_rfl)) (fun _ _ _ h => h) (Or.inl ⟨by rfl, ?_⟩) ?_ ?_
                                              rotate_left
                                              · intro w'
                                                go_simp
                                                with_reducible rfl
                                              rotate_left
                                              · simp only [Act.put, List.setIfInBounds_toArray, List.set_cons_zero, List.set_cons_succ, i64_w, i32_w]
                                                rfl
                                              refine take_ (i := 0) (N := some 74) (v := ?_) (a' := ?_) #[true, true, false, true, false, false, false, false, false, false, false, false, false] rfl rfl (take_ofW HT_.out HW_.out (by kernel_rfl)) (fun _ _ _ h => h) (Or.inl ⟨by rfl, ?_⟩) hHeld ?_ ?_
                                              rotate_left
                                              · rintro w' ⟨s0, s1, s2, s3, s4, s5⟩
                                                go_simp
                                                with_reducible rfl
                                              rotate_left
                                              · simp only [Act.put, List.setIfInBounds_toArray, List.set_cons_zero, List.set_cons_succ, i64_w, i32_w]
                                                rfl
                                              refine take_ (i := 2) (N := some 76) (v := ?_) (a' := ?_) #[true, true, true, true, false, false, false, false, false, false, false, false, false] rfl rfl (take_ofW HT_.out HW_.out (by kernel_rfl)) (fun _ _ _ h => h) (Or.inl ⟨by rfl, ?_⟩) hHeld ?_ ?_
                                              rotate_left
                                              · rintro w' ⟨s0, s1, s2, s3, s4, s5⟩
                                                go_simp
                                                with_reducible rfl
                                              rotate_left
                                              · simp only [Act.put, List.setIfInBounds_toArray, List.set_cons_zero, List.set_cons_succ, i64_w, i32_w]
                                                rfl
                                              refine pure_ (i := 4) (N := some 78) (v := ?_) (a' := ?_) #[true, true, true, true, true, false, false, false, false, false, false, false, false] rfl rfl (any_of HT_.out (by kernel_rfl)) (fun _ _ _ h => h) (Or.inl ⟨by rfl, ?_⟩) ?_ ?_
                                              rotate_left
                                              · intro w'
                                                go_simp
                                                with_reducible rfl
                                              rotate_left
                                              · simp only [Act.put, List.setIfInBounds_toArray, List.set_cons_zero, List.set_cons_succ, i64_w, i32_w]
                                                rfl
                                              refine pure_ (i := 5) (N := some 79) (v := ?_) (a' := ?_) #[true, true, true, true, true, true, false, false, false, false, false, false, false] rfl rfl (any_of HT_.out (by kernel_rfl)) (fun _ _ _ h => h) (Or.inl ⟨by rfl, ?_⟩) ?_ ?_
                                              rotate_left
                                              · intro w'
                                                go_simp
                                                with_reducible rfl
                                              rotate_left
                                              · simp only [Act.put, List.setIfInBounds_toArray, List.set_cons_zero, List.set_cons_succ, i64_w, i32_w]
                                                rfl
                                              refine take_ (i := 6) (N := some 80) (v := ?_) (a' := ?_) #[true, true, true, true, true, true, true, false, false, false, false, false, false] rfl rfl (take_ofW HT_.out HW_.out (by kernel_rfl)) (fun _ _ _ h => h) (Or.inl ⟨by rfl, ?_⟩) hHeld ?_ ?_
                                              rotate_left
                                              · rintro w' ⟨s0, s1, s2, s3, s4, s5⟩
                                                go_simp
                                                with_reducible rfl
                                              rotate_left
                                              · simp only [Act.put, List.setIfInBounds_toArray, List.set_cons_zero, List.set_cons_succ, i64_w, i32_w]
                                                rfl
                                              refine one_ (i := 7) (N := some 81) #[true, true, true, true, true, true, true, true, false, false, false, false, false] rfl rfl (one_of HT_.out (by kernel_rfl)) (by decide) (fun K hK => ?_)
                                              refine goes_ Try.func30 (by kernel_rfl) rfl #[.agg #[.bool t370, .slice (some ad385) t371.length co26, .slice Ao28 t374.length co28, .slice Ao30 t377.length co30], .string ((rd_T48 t371 x10_6).f0)] (by rfl) rfl rfl (by (try simp only [List.map_toArray, List.map_cons, List.map_nil]); first | done | rfl | (simp only [List.length_drop, List.length_take]; rfl)) ?_
                                              with_reducible refine (node_Find.calls k6 t370 _ _ t371 _ _ t374 _ _ t377 ((rd_T48 t371 x10_6).f0) t386 t387 _ ?side1 ?side2 ?side3 ?side4 ?side5 ?side6 A48.out).mono ?_
                                              (case side1 => repeat (first | exact (Kd.R_reads' HO_368001.out).2.2 | (with_reducible refine Kd.C_alloc ?_ _) | (with_reducible refine Kd.C_drewN ?_ _) | (with_reducible refine Kd.C_drew ?_)))
                                              (case side2 => exact (Kd.R_reads' HO_368001.out).2.1)
                                              (case side3 => repeat (first | exact (Kd.R_reads' HO_368002.out).2.2 | (with_reducible refine Kd.C_alloc ?_ _) | (with_reducible refine Kd.C_drewN ?_ _) | (with_reducible refine Kd.C_drew ?_)))
                                              (case side4 => exact (Kd.R_reads' HO_368002.out).2.1)
                                              (case side5 => repeat (first | exact (Kd.R_reads' HO_368003.out).2.2 | (with_reducible refine Kd.C_alloc ?_ _) | (with_reducible refine Kd.C_drewN ?_ _) | (with_reducible refine Kd.C_drew ?_)))
                                              (case side6 => exact (Kd.R_reads' HO_368003.out).2.1)
                                              rintro e w54 ⟨rfl, hb⟩
                                              have HS4_ := (hb.cell (World.block_lt_of_cell? _ _ (hHeld.2.2.2.2.1))).trans (hHeld.2.2.2.2.1)
                                              have HS5_ := (hb.cell (World.block_lt_of_cell? _ _ (hHeld.2.2.2.2.2))).trans (hHeld.2.2.2.2.2)
                                              refine ⟨_, rfl, ?_⟩
                                              have n0_ := Aside0.mk (Kd.R_below (by (with_reducible repeat (first | apply Kd.R_alloc | apply Kd.R_drewN | apply Kd.R_drew)); exact HO_368001.out) hb)
                                              have n1_ := Aside0.mk (Kd.R_below (by (with_reducible repeat (first | apply Kd.R_alloc | apply Kd.R_drewN | apply Kd.R_drew)); exact HO_368002.out) hb)
                                              have n2_ := Aside0.mk (Kd.R_below (by (with_reducible repeat (first | apply Kd.R_alloc | apply Kd.R_drewN | apply Kd.R_drew)); exact HO_368003.out) hb)
                                              have n3_ := Aside0.mk (Kd.R_below (by (with_reducible repeat (first | apply Kd.R_alloc | apply Kd.R_drewN | apply Kd.R_drew)); exact HO_382001.out) hb)
                                              have n4_ := Aside0.mk (Kd.R_below (by (with_reducible repeat (first | apply Kd.R_alloc | apply Kd.R_drewN | apply Kd.R_drew)); exact HO_382002.out) hb)
                                              have n5_ := Aside0.mk (Kd.R_below (by (with_reducible repeat (first | apply Kd.R_alloc | apply Kd.R_drewN | apply Kd.R_drew)); exact HO_382003.out) hb)
                                              have n6_ := Aside0.mk (blk_below (g := gb367) (o := .cells #[.bool t370, .slice (some ad385) t371.length co26, .slice Ao28 t374.length co28, .slice Ao30 t377.length co30] 31 (0, 0)) (by (with_reducible repeat (first | refine blk_drewN ?_ _ | refine blk_drew ?_ | refine blk_alloc ?_ _)); exact BK367.out) hb)
                                              have n7_ := Aside0.mk (blk_below (g := gb381) (o := .cells #[.bool t370, .slice (some ad385) t371.length co26, .slice Ao28 t374.length co28, .slice Ao30 t377.length co30] 31 (0, 0)) (by (with_reducible repeat (first | refine blk_drewN ?_ _ | refine blk_drew ?_ | refine blk_alloc ?_ _)); exact BK381.out) hb)
                                              have n8_ := Aside0.mk (below_step (by repeat (first | (with_reducible first | exact HB.out | apply below_alloc | apply pw_below_drewN | apply below_drew1 | refine below_set ?_ GE367.out | refine below_set ?_ GE381.out) | exact HB.out)) hb)
                                              clear HO_368001
                                              clear HO_368002
                                              clear HO_368003
                                              clear HO_382001
                                              clear HO_382002
                                              clear HO_382003
                                              clear BK367
                                              clear BK381
                                              clear HB
                                              have HO_368001 := n0_
                                              have HO_368002 := n1_
                                              have HO_368003 := n2_
                                              have HO_382001 := n3_
                                              have HO_382002 := n4_
                                              have HO_382003 := n5_
                                              have BK367 := n6_
                                              have BK381 := n7_
                                              have HB := n8_
                                              clear n0_ n1_ n2_ n3_ n4_ n5_ n6_ n7_ n8_
                                              (try clear hb)
                                              (try clear hb2)
                                              (try clear hk)
                                              (try clear hi)
                                              refine hK.out _ _ ⟨(blk_cell BK367.out 0).trans rfl, (blk_cell BK367.out 1).trans rfl, (blk_cell BK367.out 2).trans rfl, (blk_cell BK367.out 3).trans rfl, HS4_, HS5_⟩ (fun hHeld => ?_)
                                              clear hK K
                                              refine norm_ (a' := ?_) ?_ ?_
                                              rotate_left
                                              · show Act.put _ (some 81) _ = _
                                                simp only [Act.put, List.setIfInBounds_toArray, List.set_cons_zero, List.set_cons_succ, i64_w, i32_w]
                                                rfl
                                              refine pure_ (i := 8) (N := some 73) (v := ?_) (a' := ?_) #[true, true, true, true, true, true, true, true, true, false, false, false, false] rfl rfl (any_of HT_.out (by kernel_rfl)) (fun _ _ _ h => h) (Or.inl ⟨by rfl, ?_⟩) ?_ ?_
                                              rotate_left
                                              · intro w'
                                                go_simp
                                                with_reducible rfl
                                              rotate_left
                                              · simp only [Act.put, List.setIfInBounds_toArray, List.set_cons_zero, List.set_cons_succ, i64_w, i32_w]
                                                rfl
                                              refine pure_ (i := 9) (N := some 82) (v := ?_) (a' := ?_) #[true, true, true, true, true, true, true, true, true, true, false, false, false] rfl rfl (any_of HT_.out (by kernel_rfl)) (fun _ _ _ h => h) (Or.inl ⟨by rfl, ?_⟩) ?_ ?_
                                              rotate_left
                                              · intro w'
                                                go_simp
                                                with_reducible rfl
                                              rotate_left
                                              · simp only [Act.put, List.setIfInBounds_toArray, List.set_cons_zero, List.set_cons_succ, i64_w, i32_w]
                                                rfl
                                              refine pure_ (i := 10) (N := some 83) (v := ?_) (a' := ?_) #[true, true, true, true, true, true, true, true, true, true, true, false, false] rfl rfl (any_of HT_.out (by kernel_rfl)) (fun _ _ _ h => h) (Or.inl ⟨by rfl, ?_⟩) ?_ ?_
                                              rotate_left
                                              · intro w'
                                                go_simp
                                                with_reducible rfl
                                              rotate_left
                                              · simp only [Act.put, List.setIfInBounds_toArray, List.set_cons_zero, List.set_cons_succ, i64_w, i32_w]
                                                rfl
                                              refine pure_ (i := 11) (N := some 11) (v := ?_) (a' := ?_) #[true, true, true, true, true, true, true, true, true, true, true, true, false] rfl rfl (any_of HT_.out (by kernel_rfl)) (fun _ _ _ h => h) (Or.inl ⟨by rfl, ?_⟩) ?_ ?_
                                              rotate_left
                                              · intro w'
                                                go_simp
                                                with_reducible rfl
                                              rotate_left
                                              · simp only [Act.put, List.setIfInBounds_toArray, List.set_cons_zero, List.set_cons_succ, i64_w, i32_w]
                                                rfl
                                              refine pure_ (i := 12) (N := some 12) (v := ?_) (a' := ?_) #[true, true, true, true, true, true, true, true, true, true, true, true, true] rfl rfl (any_of HT_.out (by kernel_rfl)) (fun _ _ _ h => h) (Or.inl ⟨by rfl, ?_⟩) ?_ ?_
                                              rotate_left
                                              · intro w'
                                                go_simp
                                                with_reducible rfl
                                              rotate_left
                                              · simp only [Act.put, List.setIfInBounds_toArray, List.set_cons_zero, List.set_cons_succ, i64_w, i32_w]
                                                rfl
                                              refine done_ (done_of HT_.out (by kernel_rfl)) ?_
                                              try go_wp2
                                              go_roundg k6
                                              case measure => have := HK1.out; have := HJ7.out; have := HJ10.out; have := HJ16.out; have := HJ35.out; have := HK6.out; omega
                                              case rel => exact ⟨(wrap64 (x10_6 + 1)), (by first | rfl | (simp; done) | (simp [*]; done)), H', ⟨by have := HK1.out; have := HJ7.out; have := HJ10.out; have := HJ16.out; have := HJ35.out; have := HK6.out; omega⟩, ⟨by (with_reducible repeat (first | apply Kd.R_alloc | apply Kd.R_drewN | apply Kd.R_drew)); exact HO_368001.out⟩, ⟨by (with_reducible repeat (first | apply Kd.R_alloc | apply Kd.R_drewN | apply Kd.R_drew)); exact HO_368002.out⟩, ⟨by (with_reducible repeat (first | apply Kd.R_alloc | apply Kd.R_drewN | apply Kd.R_drew)); exact HO_368003.out⟩, ⟨by (with_reducible repeat (first | apply Kd.R_alloc | apply Kd.R_drewN | apply Kd.R_drew)); exact HO_382001.out⟩, ⟨by (with_reducible repeat (first | apply Kd.R_alloc | apply Kd.R_drewN | apply Kd.R_drew)); exact HO_382002.out⟩, ⟨by (with_reducible repeat (first | apply Kd.R_alloc | apply Kd.R_drewN | apply Kd.R_drew)); exact HO_382003.out⟩, ⟨by (with_reducible repeat (first | refine blk_drewN ?_ _ | refine blk_drew ?_ | refine blk_alloc ?_ _)); exact BK367.out⟩, ⟨by (with_reducible repeat (first | refine blk_drewN ?_ _ | refine blk_drew ?_ | refine blk_alloc ?_ _)); exact BK381.out⟩, ⟨by repeat (first | (with_reducible first | exact HB.out | apply below_alloc | apply pw_below_drewN | apply below_drew1 | refine below_set ?_ GE367.out | refine below_set ?_ GE381.out) | exact HB.out)⟩⟩
                                            · rw [if_neg c50] at H
                                              have c50b0 : (t386 == x10_6) = false := beq_eq_false_iff_ne.mpr c50
                                              have c50b1 : (t386 != x10_6) = true := bne_iff_ne.mpr c50
                                              obtain rfl := Option.some.inj H
                                              have hnb55 := NB367_381.out
                                              have hnc55 := NB381_367.out
                                              have hcz56_0 : wr.cell? ⟨gb367, 0, none⟩ = some (.bool t370) := (blk_cell BK367.out 0).trans rfl
                                              have hcz56_1 : wr.cell? ⟨gb367, 1, none⟩ = some (.slice Ao26 t371.length co26) := (blk_cell BK367.out 1).trans rfl
                                              have hcz56_2 : wr.cell? ⟨gb367, 2, none⟩ = some (.slice Ao28 t374.length co28) := (blk_cell BK367.out 2).trans rfl
                                              have hcz56_3 : wr.cell? ⟨gb367, 3, none⟩ = some (.slice Ao30 t377.length co30) := (blk_cell BK367.out 3).trans rfl
                                              have hfz56_0 := blk_frozen BK367.out 0
                                              have hfz56_1 := blk_frozen BK367.out 1
                                              have hfz56_2 := blk_frozen BK367.out 2
                                              have hfz56_3 := blk_frozen BK367.out 3
                                              try go_wp2
                                              have n0_ := Aside0.mk (Kd.R_drew HO_368001.out)
                                              have n1_ := Aside0.mk (Kd.R_drew HO_368002.out)
                                              have n2_ := Aside0.mk (Kd.R_drew HO_368003.out)
                                              have n3_ := Aside0.mk (Kd.R_drew HO_382001.out)
                                              have n4_ := Aside0.mk (Kd.R_drew HO_382002.out)
                                              have n5_ := Aside0.mk (Kd.R_drew HO_382003.out)
                                              have n6_ := Aside0.mk (blk_drew BK367.out)
                                              have n7_ := Aside0.mk (blk_drew BK381.out)
                                              have n8_ := Aside0.mk (below_drew1 HB.out)
                                              clear HO_368001
                                              clear HO_368002
                                              clear HO_368003
                                              clear HO_382001
                                              clear HO_382002
                                              clear HO_382003
                                              clear BK367
                                              clear BK381
                                              clear HB
                                              have HO_368001 := n0_
                                              have HO_368002 := n1_
                                              have HO_368003 := n2_
                                              have HO_382001 := n3_
                                              have HO_382002 := n4_
                                              have HO_382003 := n5_
                                              have BK367 := n6_
                                              have BK381 := n7_
                                              have HB := n8_
                                              clear n0_ n1_ n2_ n3_ n4_ n5_ n6_ n7_ n8_
                                              have p385 : 0 ≤ (x10_6 : Int) := of_decide_eq_true (by first | (with_reducible assumption) | assumption)
                                              have q385 : x10_6 < (t371.length : Int) := of_decide_eq_true (by first | (with_reducible assumption) | assumption)
                                              obtain ⟨ad385, e385, hx385_0, hx385_1⟩ := at_T48 (Kd.R_reads' HO_368001.out).2.2 x10_6 p385 q385
                                              cases e385
                                              replace p385 := eq_true p385
                                              replace q385 := eq_true q385
                                              refine start_ (n := 13) (S := fun w' => w'.cell? ⟨gb367, 0, none⟩ = some (.bool t370) ∧ w'.cell? ⟨gb367, 1, none⟩ = some (.slice (some ad385) t371.length co26) ∧ w'.cell? ⟨gb367, 2, none⟩ = some (.slice Ao28 t374.length co28) ∧ w'.cell? ⟨gb367, 3, none⟩ = some (.slice Ao30 t377.length co30) ∧ w'.cell? (ad385.add ((x10_6).toNat * 2)) = some (.string ((rd_T48 t371 x10_6).f0)) ∧ w'.cell? ⟨(ad385.add ((x10_6).toNat * 2)).block, (ad385.add ((x10_6).toNat * 2)).off + 1, none⟩ = some (.string ((rd_T48 t371 x10_6).f1))) (ds := []) #[false, false, false, false, false, false, false, false, false, false, false, false, false] (by kernel_rfl) rfl rfl ⟨(blk_cell BK367.out 0).trans rfl, (blk_cell BK367.out 1).trans rfl, (blk_cell BK367.out 2).trans rfl, (blk_cell BK367.out 3).trans rfl, hx385_0, hx385_1⟩ (fun hHeld => ?_); refine with_tabW cisternlaw11_NodeGrows.tab20 cisternlaw11_NodeGrows.bits20 (fun HT_ HW_ => ?_)
                                              generalize wr.drew = w57 at HO_368001 HO_368002 HO_368003 HO_382001 HO_382002 HO_382003 BK367 BK381 HB hx385_0 hx385_1 hHeld ⊢
                                              refine pure_ (i := 1) (N := some 75) (v := ?_) (a' := ?_) #[false, true, false, false, false, false, false, false, false, false, false, false, false] rfl rfl (any_of HT_.out (by kernel_rfl)) (fun _ _ _ h => h) (Or.inl ⟨by rfl, ?_⟩) ?_ ?_
                                              rotate_left
                                              · intro w'
                                                go_simp
                                                with_reducible rfl
                                              rotate_left
                                              · simp only [Act.put, List.setIfInBounds_toArray, List.set_cons_zero, List.set_cons_succ, i64_w, i32_w]
                                                rfl
                                              refine pure_ (i := 3) (N := some 77) (v := ?_) (a' := ?_) #[false, true, false, true, false, false, false, false, false, false, false, false, false] rfl rfl (any_of HT_.out (by kernel_rfl)) (fun _ _ _ h => h) (Or.inl ⟨by rfl, ?_⟩) ?_ ?_
                                              rotate_left
                                              · intro w'
                                                go_simp
                                                with_reducible rfl
                                              rotate_left
                                              · simp only [Act.put, List.setIfInBounds_toArray, List.set_cons_zero, List.set_cons_succ, i64_w, i32_w]
                                                rfl
                                              refine take_ (i := 0) (N := some 74) (v := ?_) (a' := ?_) #[true, true, false, true, false, false, false, false, false, false, false, false, false] rfl rfl (take_ofW HT_.out HW_.out (by kernel_rfl)) (fun _ _ _ h => h) (Or.inl ⟨by rfl, ?_⟩) hHeld ?_ ?_
                                              rotate_left
                                              · rintro w' ⟨s0, s1, s2, s3, s4, s5⟩
                                                go_simp
                                                with_reducible rfl
                                              rotate_left
                                              · simp only [Act.put, List.setIfInBounds_toArray, List.set_cons_zero, List.set_cons_succ, i64_w, i32_w]
                                                rfl
                                              refine take_ (i := 2) (N := some 76) (v := ?_) (a' := ?_) #[true, true, true, true, false, false, false, false, false, false, false, false, false] rfl rfl (take_ofW HT_.out HW_.out (by kernel_rfl)) (fun _ _ _ h => h) (Or.inl ⟨by rfl, ?_⟩) hHeld ?_ ?_
                                              rotate_left
                                              · rintro w' ⟨s0, s1, s2, s3, s4, s5⟩
                                                go_simp
                                                with_reducible rfl
                                              rotate_left
                                              · simp only [Act.put, List.setIfInBounds_toArray, List.set_cons_zero, List.set_cons_succ, i64_w, i32_w]
                                                rfl
                                              refine pure_ (i := 4) (N := some 78) (v := ?_) (a' := ?_) #[true, true, true, true, true, false, false, false, false, false, false, false, false] rfl rfl (any_of HT_.out (by kernel_rfl)) (fun _ _ _ h => h) (Or.inl ⟨by rfl, ?_⟩) ?_ ?_
                                              rotate_left
                                              · intro w'
                                                go_simp
                                                with_reducible rfl
                                              rotate_left
                                              · simp only [Act.put, List.setIfInBounds_toArray, List.set_cons_zero, List.set_cons_succ, i64_w, i32_w]
                                                rfl
                                              refine pure_ (i := 5) (N := some 79) (v := ?_) (a' := ?_) #[true, true, true, true, true, true, false, false, false, false, false, false, false] rfl rfl (any_of HT_.out (by kernel_rfl)) (fun _ _ _ h => h) (Or.inl ⟨by rfl, ?_⟩) ?_ ?_
                                              rotate_left
                                              · intro w'
                                                go_simp
                                                with_reducible rfl
                                              rotate_left
                                              · simp only [Act.put, List.setIfInBounds_toArray, List.set_cons_zero, List.set_cons_succ, i64_w, i32_w]
                                                rfl
                                              refine take_ (i := 6) (N := some 80) (v := ?_) (a' := ?_) #[true, true, true, true, true, true, true, false, false, false, false, false, false] rfl rfl (take_ofW HT_.out HW_.out (by kernel_rfl)) (fun _ _ _ h => h) (Or.inl ⟨by rfl, ?_⟩) hHeld ?_ ?_
                                              rotate_left
                                              · rintro w' ⟨s0, s1, s2, s3, s4, s5⟩
                                                go_simp
                                                with_reducible rfl
                                              rotate_left
                                              · simp only [Act.put, List.setIfInBounds_toArray, List.set_cons_zero, List.set_cons_succ, i64_w, i32_w]
                                                rfl
                                              refine one_ (i := 7) (N := some 81) #[true, true, true, true, true, true, true, true, false, false, false, false, false] rfl rfl (one_of HT_.out (by kernel_rfl)) (by decide) (fun K hK => ?_)
                                              refine goes_ Try.func30 (by kernel_rfl) rfl #[.agg #[.bool t370, .slice (some ad385) t371.length co26, .slice Ao28 t374.length co28, .slice Ao30 t377.length co30], .string ((rd_T48 t371 x10_6).f0)] (by rfl) rfl rfl (by (try simp only [List.map_toArray, List.map_cons, List.map_nil]); first | done | rfl | (simp only [List.length_drop, List.length_take]; rfl)) ?_
                                              with_reducible refine (node_Find.calls k6 t370 _ _ t371 _ _ t374 _ _ t377 ((rd_T48 t371 x10_6).f0) t386 t387 _ ?side1 ?side2 ?side3 ?side4 ?side5 ?side6 A48.out).mono ?_
                                              (case side1 => repeat (first | exact (Kd.R_reads' HO_368001.out).2.2 | (with_reducible refine Kd.C_alloc ?_ _) | (with_reducible refine Kd.C_drewN ?_ _) | (with_reducible refine Kd.C_drew ?_)))
                                              (case side2 => exact (Kd.R_reads' HO_368001.out).2.1)
                                              (case side3 => repeat (first | exact (Kd.R_reads' HO_368002.out).2.2 | (with_reducible refine Kd.C_alloc ?_ _) | (with_reducible refine Kd.C_drewN ?_ _) | (with_reducible refine Kd.C_drew ?_)))
                                              (case side4 => exact (Kd.R_reads' HO_368002.out).2.1)
                                              (case side5 => repeat (first | exact (Kd.R_reads' HO_368003.out).2.2 | (with_reducible refine Kd.C_alloc ?_ _) | (with_reducible refine Kd.C_drewN ?_ _) | (with_reducible refine Kd.C_drew ?_)))
                                              (case side6 => exact (Kd.R_reads' HO_368003.out).2.1)
                                              rintro e w58 ⟨rfl, hb⟩
                                              have HS4_ := (hb.cell (World.block_lt_of_cell? _ _ (hHeld.2.2.2.2.1))).trans (hHeld.2.2.2.2.1)
                                              have HS5_ := (hb.cell (World.block_lt_of_cell? _ _ (hHeld.2.2.2.2.2))).trans (hHeld.2.2.2.2.2)
                                              refine ⟨_, rfl, ?_⟩
                                              have n0_ := Aside0.mk (Kd.R_below (by (with_reducible repeat (first | apply Kd.R_alloc | apply Kd.R_drewN | apply Kd.R_drew)); exact HO_368001.out) hb)
                                              have n1_ := Aside0.mk (Kd.R_below (by (with_reducible repeat (first | apply Kd.R_alloc | apply Kd.R_drewN | apply Kd.R_drew)); exact HO_368002.out) hb)
                                              have n2_ := Aside0.mk (Kd.R_below (by (with_reducible repeat (first | apply Kd.R_alloc | apply Kd.R_drewN | apply Kd.R_drew)); exact HO_368003.out) hb)
                                              have n3_ := Aside0.mk (Kd.R_below (by (with_reducible repeat (first | apply Kd.R_alloc | apply Kd.R_drewN | apply Kd.R_drew)); exact HO_382001.out) hb)
                                              have n4_ := Aside0.mk (Kd.R_below (by (with_reducible repeat (first | apply Kd.R_alloc | apply Kd.R_drewN | apply Kd.R_drew)); exact HO_382002.out) hb)
                                              have n5_ := Aside0.mk (Kd.R_below (by (with_reducible repeat (first | apply Kd.R_alloc | apply Kd.R_drewN | apply Kd.R_drew)); exact HO_382003.out) hb)
                                              have n6_ := Aside0.mk (blk_below (g := gb367) (o := .cells #[.bool t370, .slice (some ad385) t371.length co26, .slice Ao28 t374.length co28, .slice Ao30 t377.length co30] 31 (0, 0)) (by (with_reducible repeat (first | refine blk_drewN ?_ _ | refine blk_drew ?_ | refine blk_alloc ?_ _)); exact BK367.out) hb)
                                              have n7_ := Aside0.mk (blk_below (g := gb381) (o := .cells #[.bool t370, .slice (some ad385) t371.length co26, .slice Ao28 t374.length co28, .slice Ao30 t377.length co30] 31 (0, 0)) (by (with_reducible repeat (first | refine blk_drewN ?_ _ | refine blk_drew ?_ | refine blk_alloc ?_ _)); exact BK381.out) hb)
                                              have n8_ := Aside0.mk (below_step (by repeat (first | (with_reducible first | exact HB.out | apply below_alloc | apply pw_below_drewN | apply below_drew1 | refine below_set ?_ GE367.out | refine below_set ?_ GE381.out) | exact HB.out)) hb)
                                              clear HO_368001
                                              clear HO_368002
                                              clear HO_368003
                                              clear HO_382001
                                              clear HO_382002
                                              clear HO_382003
                                              clear BK367
                                              clear BK381
                                              clear HB
                                              have HO_368001 := n0_
                                              have HO_368002 := n1_
                                              have HO_368003 := n2_
                                              have HO_382001 := n3_
                                              have HO_382002 := n4_
                                              have HO_382003 := n5_
                                              have BK367 := n6_
                                              have BK381 := n7_
                                              have HB := n8_
                                              clear n0_ n1_ n2_ n3_ n4_ n5_ n6_ n7_ n8_
                                              (try clear hb)
                                              (try clear hb2)
                                              (try clear hk)
                                              (try clear hi)
                                              refine hK.out _ _ ⟨(blk_cell BK367.out 0).trans rfl, (blk_cell BK367.out 1).trans rfl, (blk_cell BK367.out 2).trans rfl, (blk_cell BK367.out 3).trans rfl, HS4_, HS5_⟩ (fun hHeld => ?_)
                                              clear hK K
                                              refine norm_ (a' := ?_) ?_ ?_
                                              rotate_left
                                              · show Act.put _ (some 81) _ = _
                                                simp only [Act.put, List.setIfInBounds_toArray, List.set_cons_zero, List.set_cons_succ, i64_w, i32_w]
                                                rfl
                                              refine pure_ (i := 8) (N := some 73) (v := ?_) (a' := ?_) #[true, true, true, true, true, true, true, true, true, false, false, false, false] rfl rfl (any_of HT_.out (by kernel_rfl)) (fun _ _ _ h => h) (Or.inl ⟨by rfl, ?_⟩) ?_ ?_
                                              rotate_left
                                              · intro w'
                                                go_simp
                                                with_reducible rfl
                                              rotate_left
                                              · simp only [Act.put, List.setIfInBounds_toArray, List.set_cons_zero, List.set_cons_succ, i64_w, i32_w]
                                                rfl
                                              refine pure_ (i := 9) (N := some 82) (v := ?_) (a' := ?_) #[true, true, true, true, true, true, true, true, true, true, false, false, false] rfl rfl (any_of HT_.out (by kernel_rfl)) (fun _ _ _ h => h) (Or.inl ⟨by rfl, ?_⟩) ?_ ?_
                                              rotate_left
                                              · intro w'
                                                go_simp
                                                with_reducible rfl
                                              rotate_left
                                              · simp only [Act.put, List.setIfInBounds_toArray, List.set_cons_zero, List.set_cons_succ, i64_w, i32_w]
                                                rfl
                                              refine pure_ (i := 10) (N := some 83) (v := ?_) (a' := ?_) #[true, true, true, true, true, true, true, true, true, true, true, false, false] rfl rfl (any_of HT_.out (by kernel_rfl)) (fun _ _ _ h => h) (Or.inl ⟨by rfl, ?_⟩) ?_ ?_
                                              rotate_left
                                              · intro w'
                                                go_simp
                                                with_reducible rfl
                                              rotate_left
                                              · simp only [Act.put, List.setIfInBounds_toArray, List.set_cons_zero, List.set_cons_succ, i64_w, i32_w]
                                                rfl
                                              refine pure_ (i := 11) (N := some 11) (v := ?_) (a' := ?_) #[true, true, true, true, true, true, true, true, true, true, true, true, false] rfl rfl (any_of HT_.out (by kernel_rfl)) (fun _ _ _ h => h) (Or.inl ⟨by rfl, ?_⟩) ?_ ?_
                                              rotate_left
                                              · intro w'
                                                go_simp
                                                with_reducible rfl
                                              rotate_left
                                              · simp only [Act.put, List.setIfInBounds_toArray, List.set_cons_zero, List.set_cons_succ, i64_w, i32_w]
                                                rfl
                                              refine pure_ (i := 12) (N := some 12) (v := ?_) (a' := ?_) #[true, true, true, true, true, true, true, true, true, true, true, true, true] rfl rfl (any_of HT_.out (by kernel_rfl)) (fun _ _ _ h => h) (Or.inl ⟨by rfl, ?_⟩) ?_ ?_
                                              rotate_left
                                              · intro w'
                                                go_simp
                                                with_reducible rfl
                                              rotate_left
                                              · simp only [Act.put, List.setIfInBounds_toArray, List.set_cons_zero, List.set_cons_succ, i64_w, i32_w]
                                                rfl
                                              refine done_ (done_of HT_.out (by kernel_rfl)) ?_
                                              try go_wp2
                                              go_ret
                                              exact ⟨by first | rfl | (simp [errW_none, errW_some] <;> rfl) | (simp [*, errW_none, errW_some] <;> rfl), by repeat (first | (with_reducible first | exact HB.out | apply below_alloc | apply pw_below_drewN | apply below_drew1 | refine below_set ?_ GE367.out | refine below_set ?_ GE381.out) | exact HB.out)⟩
                                          · rw [if_neg c49] at H
                                            have c49b0 : (t387 == 0) = false := beq_eq_false_iff_ne.mpr c49
                                            have c49b1 : (t387 != 0) = true := bne_iff_ne.mpr c49
                                            obtain rfl := Option.some.inj H
                                            have hnb59 := NB367_381.out
                                            have hnc59 := NB381_367.out
                                            have hcz60_0 : wr.cell? ⟨gb367, 0, none⟩ = some (.bool t370) := (blk_cell BK367.out 0).trans rfl
                                            have hcz60_1 : wr.cell? ⟨gb367, 1, none⟩ = some (.slice Ao26 t371.length co26) := (blk_cell BK367.out 1).trans rfl
                                            have hcz60_2 : wr.cell? ⟨gb367, 2, none⟩ = some (.slice Ao28 t374.length co28) := (blk_cell BK367.out 2).trans rfl
                                            have hcz60_3 : wr.cell? ⟨gb367, 3, none⟩ = some (.slice Ao30 t377.length co30) := (blk_cell BK367.out 3).trans rfl
                                            have hfz60_0 := blk_frozen BK367.out 0
                                            have hfz60_1 := blk_frozen BK367.out 1
                                            have hfz60_2 := blk_frozen BK367.out 2
                                            have hfz60_3 := blk_frozen BK367.out 3
                                            try go_wp2
                                            have n0_ := Aside0.mk (Kd.R_drew HO_368001.out)
                                            have n1_ := Aside0.mk (Kd.R_drew HO_368002.out)
                                            have n2_ := Aside0.mk (Kd.R_drew HO_368003.out)
                                            have n3_ := Aside0.mk (Kd.R_drew HO_382001.out)
                                            have n4_ := Aside0.mk (Kd.R_drew HO_382002.out)
                                            have n5_ := Aside0.mk (Kd.R_drew HO_382003.out)
                                            have n6_ := Aside0.mk (blk_drew BK367.out)
                                            have n7_ := Aside0.mk (blk_drew BK381.out)
                                            have n8_ := Aside0.mk (below_drew1 HB.out)
                                            clear HO_368001
                                            clear HO_368002
                                            clear HO_368003
                                            clear HO_382001
                                            clear HO_382002
                                            clear HO_382003
                                            clear BK367
                                            clear BK381
                                            clear HB
                                            have HO_368001 := n0_
                                            have HO_368002 := n1_
                                            have HO_368003 := n2_
                                            have HO_382001 := n3_
                                            have HO_382002 := n4_
                                            have HO_382003 := n5_
                                            have BK367 := n6_
                                            have BK381 := n7_
                                            have HB := n8_
                                            clear n0_ n1_ n2_ n3_ n4_ n5_ n6_ n7_ n8_
                                            have p385 : 0 ≤ (x10_6 : Int) := of_decide_eq_true (by first | (with_reducible assumption) | assumption)
                                            have q385 : x10_6 < (t371.length : Int) := of_decide_eq_true (by first | (with_reducible assumption) | assumption)
                                            obtain ⟨ad385, e385, hx385_0, hx385_1⟩ := at_T48 (Kd.R_reads' HO_368001.out).2.2 x10_6 p385 q385
                                            cases e385
                                            replace p385 := eq_true p385
                                            replace q385 := eq_true q385
                                            refine start_ (n := 13) (S := fun w' => w'.cell? ⟨gb367, 0, none⟩ = some (.bool t370) ∧ w'.cell? ⟨gb367, 1, none⟩ = some (.slice (some ad385) t371.length co26) ∧ w'.cell? ⟨gb367, 2, none⟩ = some (.slice Ao28 t374.length co28) ∧ w'.cell? ⟨gb367, 3, none⟩ = some (.slice Ao30 t377.length co30) ∧ w'.cell? (ad385.add ((x10_6).toNat * 2)) = some (.string ((rd_T48 t371 x10_6).f0)) ∧ w'.cell? ⟨(ad385.add ((x10_6).toNat * 2)).block, (ad385.add ((x10_6).toNat * 2)).off + 1, none⟩ = some (.string ((rd_T48 t371 x10_6).f1))) (ds := []) #[false, false, false, false, false, false, false, false, false, false, false, false, false] (by kernel_rfl) rfl rfl ⟨(blk_cell BK367.out 0).trans rfl, (blk_cell BK367.out 1).trans rfl, (blk_cell BK367.out 2).trans rfl, (blk_cell BK367.out 3).trans rfl, hx385_0, hx385_1⟩ (fun hHeld => ?_); refine with_tabW cisternlaw11_NodeGrows.tab20 cisternlaw11_NodeGrows.bits20 (fun HT_ HW_ => ?_)
                                            generalize wr.drew = w61 at HO_368001 HO_368002 HO_368003 HO_382001 HO_382002 HO_382003 BK367 BK381 HB hx385_0 hx385_1 hHeld ⊢
                                            refine pure_ (i := 1) (N := some 75) (v := ?_) (a' := ?_) #[false, true, false, false, false, false, false, false, false, false, false, false, false] rfl rfl (any_of HT_.out (by kernel_rfl)) (fun _ _ _ h => h) (Or.inl ⟨by rfl, ?_⟩) ?_ ?_
                                            rotate_left
                                            · intro w'
                                              go_simp
                                              with_reducible rfl
                                            rotate_left
                                            · simp only [Act.put, List.setIfInBounds_toArray, List.set_cons_zero, List.set_cons_succ, i64_w, i32_w]
                                              rfl
                                            refine pure_ (i := 3) (N := some 77) (v := ?_) (a' := ?_) #[false, true, false, true, false, false, false, false, false, false, false, false, false] rfl rfl (any_of HT_.out (by kernel_rfl)) (fun _ _ _ h => h) (Or.inl ⟨by rfl, ?_⟩) ?_ ?_
                                            rotate_left
                                            · intro w'
                                              go_simp
                                              with_reducible rfl
                                            rotate_left
                                            · simp only [Act.put, List.setIfInBounds_toArray, List.set_cons_zero, List.set_cons_succ, i64_w, i32_w]
                                              rfl
                                            refine take_ (i := 0) (N := some 74) (v := ?_) (a' := ?_) #[true, true, false, true, false, false, false, false, false, false, false, false, false] rfl rfl (take_ofW HT_.out HW_.out (by kernel_rfl)) (fun _ _ _ h => h) (Or.inl ⟨by rfl, ?_⟩) hHeld ?_ ?_
                                            rotate_left
                                            · rintro w' ⟨s0, s1, s2, s3, s4, s5⟩
                                              go_simp
                                              with_reducible rfl
                                            rotate_left
                                            · simp only [Act.put, List.setIfInBounds_toArray, List.set_cons_zero, List.set_cons_succ, i64_w, i32_w]
                                              rfl
                                            refine take_ (i := 2) (N := some 76) (v := ?_) (a' := ?_) #[true, true, true, true, false, false, false, false, false, false, false, false, false] rfl rfl (take_ofW HT_.out HW_.out (by kernel_rfl)) (fun _ _ _ h => h) (Or.inl ⟨by rfl, ?_⟩) hHeld ?_ ?_
                                            rotate_left
                                            · rintro w' ⟨s0, s1, s2, s3, s4, s5⟩
                                              go_simp
                                              with_reducible rfl
                                            rotate_left
                                            · simp only [Act.put, List.setIfInBounds_toArray, List.set_cons_zero, List.set_cons_succ, i64_w, i32_w]
                                              rfl
                                            refine pure_ (i := 4) (N := some 78) (v := ?_) (a' := ?_) #[true, true, true, true, true, false, false, false, false, false, false, false, false] rfl rfl (any_of HT_.out (by kernel_rfl)) (fun _ _ _ h => h) (Or.inl ⟨by rfl, ?_⟩) ?_ ?_
                                            rotate_left
                                            · intro w'
                                              go_simp
                                              with_reducible rfl
                                            rotate_left
                                            · simp only [Act.put, List.setIfInBounds_toArray, List.set_cons_zero, List.set_cons_succ, i64_w, i32_w]
                                              rfl
                                            refine pure_ (i := 5) (N := some 79) (v := ?_) (a' := ?_) #[true, true, true, true, true, true, false, false, false, false, false, false, false] rfl rfl (any_of HT_.out (by kernel_rfl)) (fun _ _ _ h => h) (Or.inl ⟨by rfl, ?_⟩) ?_ ?_
                                            rotate_left
                                            · intro w'
                                              go_simp
                                              with_reducible rfl
                                            rotate_left
                                            · simp only [Act.put, List.setIfInBounds_toArray, List.set_cons_zero, List.set_cons_succ, i64_w, i32_w]
                                              rfl
                                            refine take_ (i := 6) (N := some 80) (v := ?_) (a' := ?_) #[true, true, true, true, true, true, true, false, false, false, false, false, false] rfl rfl (take_ofW HT_.out HW_.out (by kernel_rfl)) (fun _ _ _ h => h) (Or.inl ⟨by rfl, ?_⟩) hHeld ?_ ?_
                                            rotate_left
                                            · rintro w' ⟨s0, s1, s2, s3, s4, s5⟩
                                              go_simp
                                              with_reducible rfl
                                            rotate_left
                                            · simp only [Act.put, List.setIfInBounds_toArray, List.set_cons_zero, List.set_cons_succ, i64_w, i32_w]
                                              rfl
                                            refine one_ (i := 7) (N := some 81) #[true, true, true, true, true, true, true, true, false, false, false, false, false] rfl rfl (one_of HT_.out (by kernel_rfl)) (by decide) (fun K hK => ?_)
                                            refine goes_ Try.func30 (by kernel_rfl) rfl #[.agg #[.bool t370, .slice (some ad385) t371.length co26, .slice Ao28 t374.length co28, .slice Ao30 t377.length co30], .string ((rd_T48 t371 x10_6).f0)] (by rfl) rfl rfl (by (try simp only [List.map_toArray, List.map_cons, List.map_nil]); first | done | rfl | (simp only [List.length_drop, List.length_take]; rfl)) ?_
                                            with_reducible refine (node_Find.calls k6 t370 _ _ t371 _ _ t374 _ _ t377 ((rd_T48 t371 x10_6).f0) t386 t387 _ ?side1 ?side2 ?side3 ?side4 ?side5 ?side6 A48.out).mono ?_
                                            (case side1 => repeat (first | exact (Kd.R_reads' HO_368001.out).2.2 | (with_reducible refine Kd.C_alloc ?_ _) | (with_reducible refine Kd.C_drewN ?_ _) | (with_reducible refine Kd.C_drew ?_)))
                                            (case side2 => exact (Kd.R_reads' HO_368001.out).2.1)
                                            (case side3 => repeat (first | exact (Kd.R_reads' HO_368002.out).2.2 | (with_reducible refine Kd.C_alloc ?_ _) | (with_reducible refine Kd.C_drewN ?_ _) | (with_reducible refine Kd.C_drew ?_)))
                                            (case side4 => exact (Kd.R_reads' HO_368002.out).2.1)
                                            (case side5 => repeat (first | exact (Kd.R_reads' HO_368003.out).2.2 | (with_reducible refine Kd.C_alloc ?_ _) | (with_reducible refine Kd.C_drewN ?_ _) | (with_reducible refine Kd.C_drew ?_)))
                                            (case side6 => exact (Kd.R_reads' HO_368003.out).2.1)
                                            rintro e w62 ⟨rfl, hb⟩
                                            have HS4_ := (hb.cell (World.block_lt_of_cell? _ _ (hHeld.2.2.2.2.1))).trans (hHeld.2.2.2.2.1)
                                            have HS5_ := (hb.cell (World.block_lt_of_cell? _ _ (hHeld.2.2.2.2.2))).trans (hHeld.2.2.2.2.2)
                                            refine ⟨_, rfl, ?_⟩
                                            have n0_ := Aside0.mk (Kd.R_below (by (with_reducible repeat (first | apply Kd.R_alloc | apply Kd.R_drewN | apply Kd.R_drew)); exact HO_368001.out) hb)
                                            have n1_ := Aside0.mk (Kd.R_below (by (with_reducible repeat (first | apply Kd.R_alloc | apply Kd.R_drewN | apply Kd.R_drew)); exact HO_368002.out) hb)
                                            have n2_ := Aside0.mk (Kd.R_below (by (with_reducible repeat (first | apply Kd.R_alloc | apply Kd.R_drewN | apply Kd.R_drew)); exact HO_368003.out) hb)
                                            have n3_ := Aside0.mk (Kd.R_below (by (with_reducible repeat (first | apply Kd.R_alloc | apply Kd.R_drewN | apply Kd.R_drew)); exact HO_382001.out) hb)
                                            have n4_ := Aside0.mk (Kd.R_below (by (with_reducible repeat (first | apply Kd.R_alloc | apply Kd.R_drewN | apply Kd.R_drew)); exact HO_382002.out) hb)
                                            have n5_ := Aside0.mk (Kd.R_below (by (with_reducible repeat (first | apply Kd.R_alloc | apply Kd.R_drewN | apply Kd.R_drew)); exact HO_382003.out) hb)
                                            have n6_ := Aside0.mk (blk_below (g := gb367) (o := .cells #[.bool t370, .slice (some ad385) t371.length co26, .slice Ao28 t374.length co28, .slice Ao30 t377.length co30] 31 (0, 0)) (by (with_reducible repeat (first | refine blk_drewN ?_ _ | refine blk_drew ?_ | refine blk_alloc ?_ _)); exact BK367.out) hb)
                                            have n7_ := Aside0.mk (blk_below (g := gb381) (o := .cells #[.bool t370, .slice (some ad385) t371.length co26, .slice Ao28 t374.length co28, .slice Ao30 t377.length co30] 31 (0, 0)) (by (with_reducible repeat (first | refine blk_drewN ?_ _ | refine blk_drew ?_ | refine blk_alloc ?_ _)); exact BK381.out) hb)
                                            have n8_ := Aside0.mk (below_step (by repeat (first | (with_reducible first | exact HB.out | apply below_alloc | apply pw_below_drewN | apply below_drew1 | refine below_set ?_ GE367.out | refine below_set ?_ GE381.out) | exact HB.out)) hb)
                                            clear HO_368001
                                            clear HO_368002
                                            clear HO_368003
                                            clear HO_382001
                                            clear HO_382002
                                            clear HO_382003
                                            clear BK367
                                            clear BK381
                                            clear HB
                                            have HO_368001 := n0_
                                            have HO_368002 := n1_
                                            have HO_368003 := n2_
                                            have HO_382001 := n3_
                                            have HO_382002 := n4_
                                            have HO_382003 := n5_
                                            have BK367 := n6_
                                            have BK381 := n7_
                                            have HB := n8_
                                            clear n0_ n1_ n2_ n3_ n4_ n5_ n6_ n7_ n8_
                                            (try clear hb)
                                            (try clear hb2)
                                            (try clear hk)
                                            (try clear hi)
                                            refine hK.out _ _ ⟨(blk_cell BK367.out 0).trans rfl, (blk_cell BK367.out 1).trans rfl, (blk_cell BK367.out 2).trans rfl, (blk_cell BK367.out 3).trans rfl, HS4_, HS5_⟩ (fun hHeld => ?_)
                                            clear hK K
                                            refine norm_ (a' := ?_) ?_ ?_
                                            rotate_left
                                            · show Act.put _ (some 81) _ = _
                                              simp only [Act.put, List.setIfInBounds_toArray, List.set_cons_zero, List.set_cons_succ, i64_w, i32_w]
                                              rfl
                                            refine pure_ (i := 8) (N := some 73) (v := ?_) (a' := ?_) #[true, true, true, true, true, true, true, true, true, false, false, false, false] rfl rfl (any_of HT_.out (by kernel_rfl)) (fun _ _ _ h => h) (Or.inl ⟨by rfl, ?_⟩) ?_ ?_
                                            rotate_left
                                            · intro w'
                                              go_simp
                                              with_reducible rfl
                                            rotate_left
                                            · simp only [Act.put, List.setIfInBounds_toArray, List.set_cons_zero, List.set_cons_succ, i64_w, i32_w]
                                              rfl
                                            refine pure_ (i := 9) (N := some 82) (v := ?_) (a' := ?_) #[true, true, true, true, true, true, true, true, true, true, false, false, false] rfl rfl (any_of HT_.out (by kernel_rfl)) (fun _ _ _ h => h) (Or.inl ⟨by rfl, ?_⟩) ?_ ?_
                                            rotate_left
                                            · intro w'
                                              go_simp
                                              with_reducible rfl
                                            rotate_left
                                            · simp only [Act.put, List.setIfInBounds_toArray, List.set_cons_zero, List.set_cons_succ, i64_w, i32_w]
                                              rfl
                                            refine pure_ (i := 10) (N := some 83) (v := ?_) (a' := ?_) #[true, true, true, true, true, true, true, true, true, true, true, false, false] rfl rfl (any_of HT_.out (by kernel_rfl)) (fun _ _ _ h => h) (Or.inl ⟨by rfl, ?_⟩) ?_ ?_
                                            rotate_left
                                            · intro w'
                                              go_simp
                                              with_reducible rfl
                                            rotate_left
                                            · simp only [Act.put, List.setIfInBounds_toArray, List.set_cons_zero, List.set_cons_succ, i64_w, i32_w]
                                              rfl
                                            refine pure_ (i := 11) (N := some 11) (v := ?_) (a' := ?_) #[true, true, true, true, true, true, true, true, true, true, true, true, false] rfl rfl (any_of HT_.out (by kernel_rfl)) (fun _ _ _ h => h) (Or.inl ⟨by rfl, ?_⟩) ?_ ?_
                                            rotate_left
                                            · intro w'
                                              go_simp
                                              with_reducible rfl
                                            rotate_left
                                            · simp only [Act.put, List.setIfInBounds_toArray, List.set_cons_zero, List.set_cons_succ, i64_w, i32_w]
                                              rfl
                                            refine pure_ (i := 12) (N := some 12) (v := ?_) (a' := ?_) #[true, true, true, true, true, true, true, true, true, true, true, true, true] rfl rfl (any_of HT_.out (by kernel_rfl)) (fun _ _ _ h => h) (Or.inl ⟨by rfl, ?_⟩) ?_ ?_
                                            rotate_left
                                            · intro w'
                                              go_simp
                                              with_reducible rfl
                                            rotate_left
                                            · simp only [Act.put, List.setIfInBounds_toArray, List.set_cons_zero, List.set_cons_succ, i64_w, i32_w]
                                              rfl
                                            refine done_ (done_of HT_.out (by kernel_rfl)) ?_
                                            try go_wp2
                                            go_ret
                                            exact ⟨by first | rfl | (simp [errW_none, errW_some] <;> rfl) | (simp [*, errW_none, errW_some] <;> rfl), by repeat (first | (with_reducible first | exact HB.out | apply below_alloc | apply pw_below_drewN | apply below_drew1 | refine below_set ?_ GE367.out | refine below_set ?_ GE381.out) | exact HB.out)⟩
                                        · rw [if_neg c47] at H
                                          exact absurd H (by simp)
                                      · rw [if_neg c46] at H
                                        have c46b0 : decide (x10_6 < (t371.length : Int)) = false := decide_eq_false c46
                                        clear c46
                                        have H' := Aside0.mk H
                                        clear H
                                        have hnb63 := NB367_381.out
                                        have hnc63 := NB381_367.out
                                        have hcz64_0 : wr.cell? ⟨gb367, 0, none⟩ = some (.bool t370) := (blk_cell BK367.out 0).trans rfl
                                        have hcz64_1 : wr.cell? ⟨gb367, 1, none⟩ = some (.slice Ao26 t371.length co26) := (blk_cell BK367.out 1).trans rfl
                                        have hcz64_2 : wr.cell? ⟨gb367, 2, none⟩ = some (.slice Ao28 t374.length co28) := (blk_cell BK367.out 2).trans rfl
                                        have hcz64_3 : wr.cell? ⟨gb367, 3, none⟩ = some (.slice Ao30 t377.length co30) := (blk_cell BK367.out 3).trans rfl
                                        have hfz64_0 := blk_frozen BK367.out 0
                                        have hfz64_1 := blk_frozen BK367.out 1
                                        have hfz64_2 := blk_frozen BK367.out 2
                                        have hfz64_3 := blk_frozen BK367.out 3
                                        go_wp2
                                        go_roundg k6
                                        case measure => have := HK1.out; have := HJ7.out; have := HJ10.out; have := HJ16.out; have := HJ35.out; have := HK6.out; omega
                                        case rel => exact ⟨(wrap64 (x6_1 + 1)), (t370), (t371), (t374), (t377), (.slice Ao26 t371.length co26), (.slice Ao28 t374.length co28), (.slice Ao30 t377.length co30), (by first | rfl | (simp; done) | (simp [*]; done)), H', ⟨by have := HK1.out; have := HJ7.out; have := HJ10.out; have := HJ16.out; have := HJ35.out; have := HK6.out; omega⟩, ⟨by (with_reducible repeat (first | apply Kd.R_alloc | apply Kd.R_drewN | apply Kd.R_drew)); exact HO_368001.out⟩, ⟨by (with_reducible repeat (first | apply Kd.R_alloc | apply Kd.R_drewN | apply Kd.R_drew)); exact HO_368002.out⟩, ⟨by (with_reducible repeat (first | apply Kd.R_alloc | apply Kd.R_drewN | apply Kd.R_drew)); exact HO_368003.out⟩, ⟨by (with_reducible repeat (first | refine blk_drewN ?_ _ | refine blk_drew ?_ | refine blk_alloc ?_ _)); exact BK367.out⟩, ⟨by repeat (first | (with_reducible first | exact HB.out | apply below_alloc | apply pw_below_drewN | apply below_drew1 | refine below_set ?_ GE367.out | refine below_set ?_ GE381.out) | exact HB.out)⟩⟩
                    · rw [if_neg c15] at H
                      exact absurd H (by simp)
                  · rw [if_neg c14] at H
                    exact absurd H (by simp)
            · replace c10 := Bool.eq_false_iff.mpr c10
              subst c10
              have H1 : (some true) = some r := by rw [if_neg (show ¬ (false = true) by decide)] at H; exact H
              clear H
              have H := H1
              clear H1
              obtain rfl := Option.some.inj H
              go_wp2
              go_ret
              exact ⟨by first | rfl | (simp [errW_none, errW_some] <;> rfl) | (simp [*, errW_none, errW_some] <;> rfl), by repeat (first | (with_reducible first | exact HB.out | apply below_alloc | apply pw_below_drewN | apply below_drew1 | refine below_set ?_ GE367.out) | exact HB.out)⟩
  · replace c4 := Bool.eq_false_iff.mpr c4
    subst c4
    have H1 : (some false) = some r := by rw [if_neg (show ¬ (false = true) by decide)] at H; exact H
    clear H
    have H := H1
    clear H1
    obtain rfl := Option.some.inj H
    go_enter Try.func8, Try.ntmps8
    go_wp2_with (first | ((with_reducible refine gate_callee (f := 12) rfl ?_); refine goesL_ (some 13) rfl rfl Try.func12 (by kernel_rfl) rfl #[] rfl (by (try simp only [List.map_toArray, List.map_cons, List.map_nil]); first | done | rfl | (simp only [List.length_drop, List.length_take]; rfl)) ?_; (with_reducible refine (cisternlaw11_known.calls  false _ A3.out).mono ?_); rintro e w65 ⟨rfl, hb⟩; refine ⟨_, rfl, ?_⟩; have n0_ := Aside0.mk (below_step (by repeat (first | (with_reducible first | exact HB.out | apply below_alloc | apply pw_below_drewN | apply below_drew1) | exact HB.out)) hb); clear HB; have HB := n0_; clear n0_; (try clear hb); (try clear hb2); (try clear hk); (try clear hi)))
    go_ret
    exact ⟨by first | rfl | (simp [errW_none, errW_some] <;> rfl) | (simp [*, errW_none, errW_some] <;> rfl), by repeat (first | (with_reducible first | exact HB.out | apply below_alloc | apply pw_below_drewN | apply below_drew1) | exact HB.out)⟩
end
end Go.Proofs.Ytjjfeoigjhbbpaa.PA
namespace Go.Proofs.Ytjjfeoigjhbbpaa.PA
section

open Go.RowKit Go.Proofs.YtjjfeoigjhbbpaaW.PrintWords Go.Proofs.YtjjfeoigjhbbpaaW.PrintLast Go.Proofs.YtjjfeoigjhbbpaaW.PrintMore
attribute [local go_sem] pr_leq pr_geq pr_gtr max2_int min2_int max_two min_two max_three min_three max_four min_four
set_option linter.unusedVariables false
set_option linter.unusedSimpArgs false
theorem key_val (s : ByteArray) : cisternref11_Key.f s = some (keyB s) := by unfold cisternref11_Key.f keyB; split <;> rfl
theorem grows_l1 (x0 x1 : List ByteArray) (x6 : Int) (P : List S48) (h : leafV true P [] [] = true) (R : Option Bool) (K0 : Nat) (hR : ∀ k, K0 ≤ k → cisternlaw11_NodeGrows.l0 k x0 x1 (wrap64 (x6 + 1)) true P [] [] = R) :
    ∀ (d k i : Nat), i + d = P.length → K0 + d + 1 ≤ k → cisternlaw11_NodeGrows.l1 k x0 x1 x6 (i : Int) true P [] [] = R
  | 0, k + 1, i, hi, hk => by
    unfold cisternlaw11_NodeGrows.l1
    rw [if_neg (by omega)]
    exact hR k (by omega)
  | d + 1, k + 1, i, hi, hk => by
    obtain ⟨_, _, _, h1, _, h3⟩ := leaf_parts h
    have hl : i < P.length := by omega
    have e : rd_T48 P (i : Int) = P[i] := by unfold rd_T48; rw [Int.toNat_natCast, List.getD_eq_getElem?_getD, List.getElem?_eq_getElem hl]; rfl
    have ew : wrap64 ((i : Int) + 1) = ((i + 1 : Nat) : Int) := by unfold wrap64; omega
    unfold cisternlaw11_NodeGrows.l1
    rw [if_pos (by omega), if_pos (by omega), e, find_leaf h, (at_own h3 i hl).1, Option.bind_some, if_pos rfl, if_pos rfl, ew]
    exact grows_l1 x0 x1 x6 P h R K0 hR d k (i + 1) (by omega) (by omega)
theorem grows_l0 (x0 x1 : List ByteArray) (hl0 : x0.length ≤ 9223372036854775807) (hl1 : x1.length ≤ 9223372036854775807) : ∀ (d i : Nat) (P : List S48) (k : Nat), leafV true P [] [] = true → P.length ≤ i → i ≤ 60 → 60 - i ≤ d → 70 * (d + 1) ≤ k → cisternlaw11_NodeGrows.l0 k x0 x1 (i : Int) true P [] [] = some true := by
  intro d
  induction d with
  | zero =>
    intro i P k h hP hi hd hk
    obtain ⟨k, rfl⟩ : ∃ m, k = m + 2 := ⟨k - 2, by omega⟩
    unfold cisternlaw11_NodeGrows.l0
    have e : decide ((i : Int) < 60) = false := decide_eq_false (by omega)
    split <;> (first | rw [e] | skip) <;> (unfold cisternlaw11_NodeGrows.j1; rw [if_neg (by decide)])
  | succ d ih =>
    intro i P k h hP hi hd hk
    obtain ⟨k, rfl⟩ : ∃ m, k = m + 5 := ⟨k - 5, by omega⟩
    unfold cisternlaw11_NodeGrows.l0
    by_cases h0 : i < x0.length
    · rw [if_pos (by omega)]
      by_cases h60 : i < 60
      · rw [decide_eq_true (by omega : (i : Int) < 60)]
        have ew : wrap64 ((i : Int) + 1) = ((i + 1 : Nat) : Int) := by unfold wrap64; omega
        have hj2 : ∀ v : ByteArray, cisternlaw11_NodeGrows.j2 (k + 3) x0 x1 (i : Int) v true P [] [] = some true := by
          intro v
          have e : rdOf ByteArray.empty x0 (i : Int) = x0[i] := by unfold rdOf; rw [Int.toNat_natCast, List.getD_eq_getElem?_getD, List.getElem?_eq_getElem h0]; rfl
          unfold cisternlaw11_NodeGrows.j2
          rw [if_pos (by omega), if_pos (by omega), e, key_val]
          unfold node_Put.f
          rw [Option.bind_some, Option.bind_some]
          by_cases hb : keyB x0[i] = true ∧ v.size ≤ 48
          · obtain ⟨p1, p2⟩ := put_ok h hb.1 hb.2 (by omega)
            rw [p1, if_pos hb.1, decide_eq_false (by have := hb.2; omega : ¬ ((v.size : Int) > 48))]
            unfold cisternlaw11_NodeGrows.j3
            rw [if_neg (by decide), if_pos rfl, check_val, p2]
            show (some (0 : Int)).bind _ = _
            rw [Option.bind_some]
            show cisternlaw11_NodeGrows.j4 (k + 1) x0 x1 (i : Int) false _ _ _ _ = _
            unfold cisternlaw11_NodeGrows.j4
            rw [if_neg (by decide)]
            have hs := (leaf_parts h).2.2.2.2.2
            have hlen := ins_length P hs ⟨x0[i], v⟩
            refine grows_l1 x0 x1 (i : Int) _ p2 (some true) (70 * (d + 1)) (fun k' hk' => ?_) (insP P ⟨x0[i], v⟩).length k 0 (by omega) (by omega)
            rw [ew]
            exact ih (i + 1) _ k' p2 (by omega) (by omega) (by omega) hk'
          · rw [put_bad hb]
            have hj3 : cisternlaw11_NodeGrows.j3 (k + 2) x0 x1 (i : Int) 2 true true P [] [] false [] [] [] = some true := by
              unfold cisternlaw11_NodeGrows.j3
              rw [if_pos rfl, if_pos rfl, ew]
              exact ih (i + 1) P (k + 1) h (by omega) (by omega) (by omega) (by omega)
            by_cases hk2 : keyB x0[i] = true
            · rw [if_pos hk2, decide_eq_true (by have : ¬ v.size ≤ 48 := fun x => hb ⟨hk2, x⟩; omega : (v.size : Int) > 48)]
              exact hj3
            · rw [if_neg hk2]
              exact hj3
        unfold cisternlaw11_NodeGrows.j1
        rw [if_pos rfl]
        by_cases h1 : i < x1.length
        · rw [if_pos (by omega), if_pos (by omega)]
          exact hj2 _
        · rw [if_neg (by omega)]
          exact hj2 _
      · rw [decide_eq_false (by omega : ¬ (i : Int) < 60)]
        unfold cisternlaw11_NodeGrows.j1
        rw [if_neg (by decide)]
    · rw [if_neg (by omega)]
      unfold cisternlaw11_NodeGrows.j1
      rw [if_neg (by decide)]
theorem grows_val (x0 x1 : List ByteArray) (hl0 : x0.length ≤ 9223372036854775807) (hl1 : x1.length ≤ 9223372036854775807) : cisternlaw11_NodeGrows.f 4270 x0 x1 = some true := by
  unfold cisternlaw11_NodeGrows.f
  rw [known_val, Option.bind_some, if_pos rfl]
  have h : leafV true [] [] [] = true := leaf_mk (by decide) rfl List.Pairwise.nil
  exact grows_l0 x0 x1 hl0 hl1 60 0 [] 4270 h (by decide) (by omega) (by omega) (by omega)
theorem cisternlaw11_NodeGrows.walk (A0 : Option Addr) (c0 : Nat) (l0 : List ByteArray) (A1 : Option Addr) (c1 : Nat) (l1 : List ByteArray) (w : World) (hr0 : Kd.C Kd.string w A0 l0.length l0) (hc0 : l0.length ≤ c0) (_y0 : l0.length * 16 ≤ 140737488351232) (_w0 : ∀ x_ ∈ l0, x_.size ≤ maxLen) (hr1 : Kd.C Kd.string w A1 l1.length l1) (hc1 : l1.length ≤ c1) (_y1 : l1.length * 16 ≤ 140737488351232) (_w1 : ∀ x_ ∈ l1, x_.size ≤ maxLen) :
    Calls Try.prog 8 #[.slice A0 l0.length c0, .slice A1 l1.length c1] w fun e w' => e = .returned (.bool true) ∧ Below w.heap.size w w' :=
  cisternlaw11_NodeGrows.calls 4270 A0 c0 l0 A1 c1 l1 true w hr0 hc0 hr1 hc1 (grows_val l0 l1 hr0.2.1 hr1.2.1)
end
end Go.Proofs.Ytjjfeoigjhbbpaa.PA
