-- Laid by a program of this work over the seat's translation.
import Derived.Test.YtgjhhbljbnbjkaaDoorPAx0
import Derived.Test.YtgjhhbljbnbjkaaDoorPAx5
namespace Go.Proofs.YtgjhhbljbnbjkaaDoor.PA
open Go.RowKit Go.Proofs.YtgjhhbljbnbjkaaDoorW.PrintWords Go.Proofs.YtgjhhbljbnbjkaaDoorW.PrintLast Go.Proofs.YtgjhhbljbnbjkaaDoorW.PrintMore
attribute [local go_sem] max2_int min2_int max_two min_two max_three min_three max_four min_four   -- for this text's walks alone
set_option linter.unusedVariables false
set_option linter.unusedSimpArgs false

/-! ### pack_Decode: function 14 -/
mutual
def pack_Decode.l0 : Nat → List Int → List (S42) → Option ((List (S42)) × Int)
  | 0, _, _ => none
  | k + 1, x0, x4 => if (x0.length : Int) > 0 then (if 0 < (x0.length : Int) then (if 1 ≤ (x0.length : Int) then ((some (x0.drop 1 : List Int)).bind fun y141 => (if (rd x0 0) = 1 then (pack_Decode.j1 k x4 (rd x0 0) y141 (decide ((y141.length : Int) ≥ 8))) else (pack_Decode.j1 k x4 (rd x0 0) y141 false))) else (none)) else (none)) else (some (x4, 0))
def pack_Decode.j1 : Nat → List (S42) → Int → List Int → Bool → Option ((List (S42)) × Int)
  | 0, _, _, _, _ => none
  | k + 1, x4, x5, x6, x16 => if x16 = true then (if 8 ≤ (x6.length : Int) then ((pack_get.f k (x6.take 8)).bind fun t151 => (if x4.length < 4398046511104 then ((some (x4 ++ [(⟨1, wrap64 (t151), (⟨#[]⟩ : ByteArray)⟩ : S42)] : List (S42))).bind fun y152 => (if (y152.length : Int) > 4000 then (some (([] : List (S42)), 2)) else (pack_Decode.l0 k (x6.drop 8) y152))) else (none))) else (none)) else (if x5 = 2 then (pack_Decode.j2 k x4 x6 (decide ((x6.length : Int) ≥ 2))) else (pack_Decode.j2 k x4 x6 false))
def pack_Decode.j2 : Nat → List (S42) → List Int → Bool → Option ((List (S42)) × Int)
  | 0, _, _, _ => none
  | k + 1, x4, x6, x34 => if x34 = true then (if 2 ≤ (x6.length : Int) then ((pack_get.f k (x6.take 2)).bind fun t165 => (if (wrap64 (t165)) > 50000 then (pack_Decode.j3 k x4 x6 (wrap64 (t165)) true) else (pack_Decode.j3 k x4 x6 (wrap64 (t165)) (decide ((wrap64 (t165)) > (wrap64 ((x6.length : Int) - 2))))))) else (none)) else (some (([] : List (S42)), 2))
def pack_Decode.j3 : Nat → List (S42) → List Int → Int → Bool → Option ((List (S42)) × Int)
  | 0, _, _, _, _ => none
  | k + 1, x4, x6, x7, x54 => if x54 = true then (some (([] : List (S42)), 2)) else (if 2 ≤ (wrap64 (2 + x7)) then (if (wrap64 (2 + x7)) ≤ (x6.length : Int) then (if x4.length < 4398046511104 then ((some (x4 ++ [(⟨2, 0, strOfNums ((x6.take ((wrap64 (2 + x7)) : Int).toNat).drop 2)⟩ : S42)] : List (S42))).bind fun y171 => (if 0 ≤ (wrap64 (2 + x7)) then (if (y171.length : Int) > 4000 then (some (([] : List (S42)), 2)) else (pack_Decode.l0 k (x6.drop ((wrap64 (2 + x7)) : Int).toNat) y171)) else (none))) else (none)) else (none)) else (none))
end
def pack_Decode.f (k : Nat) (l0 : List Int) : Option ((List (S42)) × Int) := pack_Decode.l0 k l0 ([] : List (S42))
theorem pack_Decode.mono_l : ∀ k, (∀ y0 y1, LeO (pack_Decode.l0 k y0 y1) (pack_Decode.l0 (k + 1) y0 y1)) ∧ (∀ y0 y1 y2 y3, LeO (pack_Decode.j1 k y0 y1 y2 y3) (pack_Decode.j1 (k + 1) y0 y1 y2 y3)) ∧ (∀ y0 y1 y2, LeO (pack_Decode.j2 k y0 y1 y2) (pack_Decode.j2 (k + 1) y0 y1 y2)) ∧ (∀ y0 y1 y2 y3, LeO (pack_Decode.j3 k y0 y1 y2 y3) (pack_Decode.j3 (k + 1) y0 y1 y2 y3))
  | 0 => ⟨fun _ _ r h => by simp [pack_Decode.l0] at h, fun _ _ _ _ r h => by simp [pack_Decode.j1] at h, fun _ _ _ r h => by simp [pack_Decode.j2] at h, fun _ _ _ _ r h => by simp [pack_Decode.j3] at h⟩
  | k + 1 => by
    obtain ⟨ih0, ih1, ih2, ih3⟩ := pack_Decode.mono_l k
    refine ⟨?_, ?_, ?_, ?_⟩
    · intro y0 y1
      unfold pack_Decode.l0
      repeat' first
      | (with_reducible exact ih0 _ _)
      | (with_reducible exact ih1 _ _ _ _)
      | (with_reducible exact ih2 _ _ _)
      | (with_reducible exact ih3 _ _ _ _)
      | (with_reducible exact pack_get.mono _ _)
      | (with_reducible exact LeO.refl _)
      | (with_reducible exact LeO.none _)
      | (with_reducible refine LeO.ite ?_ ?_)
      | (with_reducible refine LeO.bind ?_ (fun _ => ?_))
      | exact ih0 _ _
      | exact ih1 _ _ _ _
      | exact ih2 _ _ _
      | exact ih3 _ _ _ _
      | exact pack_get.mono _ _
      | exact LeO.none _
      | refine LeO.ite ?_ ?_
      | refine LeO.bind ?_ (fun _ => ?_)
    · intro y0 y1 y2 y3
      unfold pack_Decode.j1
      repeat' first
      | (with_reducible exact ih0 _ _)
      | (with_reducible exact ih1 _ _ _ _)
      | (with_reducible exact ih2 _ _ _)
      | (with_reducible exact ih3 _ _ _ _)
      | (with_reducible exact pack_get.mono _ _)
      | (with_reducible exact LeO.refl _)
      | (with_reducible exact LeO.none _)
      | (with_reducible refine LeO.ite ?_ ?_)
      | (with_reducible refine LeO.bind ?_ (fun _ => ?_))
      | exact ih0 _ _
      | exact ih1 _ _ _ _
      | exact ih2 _ _ _
      | exact ih3 _ _ _ _
      | exact pack_get.mono _ _
      | exact LeO.none _
      | refine LeO.ite ?_ ?_
      | refine LeO.bind ?_ (fun _ => ?_)
    · intro y0 y1 y2
      unfold pack_Decode.j2
      repeat' first
      | (with_reducible exact ih0 _ _)
      | (with_reducible exact ih1 _ _ _ _)
      | (with_reducible exact ih2 _ _ _)
      | (with_reducible exact ih3 _ _ _ _)
      | (with_reducible exact pack_get.mono _ _)
      | (with_reducible exact LeO.refl _)
      | (with_reducible exact LeO.none _)
      | (with_reducible refine LeO.ite ?_ ?_)
      | (with_reducible refine LeO.bind ?_ (fun _ => ?_))
      | exact ih0 _ _
      | exact ih1 _ _ _ _
      | exact ih2 _ _ _
      | exact ih3 _ _ _ _
      | exact pack_get.mono _ _
      | exact LeO.none _
      | refine LeO.ite ?_ ?_
      | refine LeO.bind ?_ (fun _ => ?_)
    · intro y0 y1 y2 y3
      unfold pack_Decode.j3
      repeat' first
      | (with_reducible exact ih0 _ _)
      | (with_reducible exact ih1 _ _ _ _)
      | (with_reducible exact ih2 _ _ _)
      | (with_reducible exact ih3 _ _ _ _)
      | (with_reducible exact pack_get.mono _ _)
      | (with_reducible exact LeO.refl _)
      | (with_reducible exact LeO.none _)
      | (with_reducible refine LeO.ite ?_ ?_)
      | (with_reducible refine LeO.bind ?_ (fun _ => ?_))
      | exact ih0 _ _
      | exact ih1 _ _ _ _
      | exact ih2 _ _ _
      | exact ih3 _ _ _ _
      | exact pack_get.mono _ _
      | exact LeO.none _
      | refine LeO.ite ?_ ?_
      | refine LeO.bind ?_ (fun _ => ?_)
theorem pack_Decode.mono : ∀ a0 k, LeO (pack_Decode.f k a0) (pack_Decode.f (k + 1) a0) := by
  intro a0 k
  obtain ⟨ih0, ih1, ih2, ih3⟩ := pack_Decode.mono_l k
  unfold pack_Decode.f
  repeat' first
      | (with_reducible exact ih0 _ _)
      | (with_reducible exact ih1 _ _ _ _)
      | (with_reducible exact ih2 _ _ _)
      | (with_reducible exact ih3 _ _ _ _)
      | (with_reducible exact pack_get.mono _ _)
      | (with_reducible exact LeO.refl _)
      | (with_reducible exact LeO.none _)
      | (with_reducible refine LeO.ite ?_ ?_)
      | (with_reducible refine LeO.bind ?_ (fun _ => ?_))
      | exact ih0 _ _
      | exact ih1 _ _ _ _
      | exact ih2 _ _ _
      | exact ih3 _ _ _ _
      | exact pack_get.mono _ _
      | exact LeO.none _
      | refine LeO.ite ?_ ?_
      | refine LeO.bind ?_ (fun _ => ?_)
set_option maxHeartbeats 8000000 in
set_option maxRecDepth 100000 in
theorem pack_Decode.calls (k : Nat) (P0_ : Nat → Prop) (A0 : Option Addr) (c0 : Nat) (l0 : List Int) (r1 : List (S42)) (r2 : Int) (w : World) (hs0 : Kd.V (Kd.int .u8) 5 w w.heap.size (fun k_ => P0_ k_) (.slice A0 l0.length c0) l0) (h : pack_Decode.f k l0 = some (r1, r2)) :
    Calls Tryd.prog 14 #[.slice A0 l0.length c0] w fun e w' => ∃ v0_ : Value, e = .returned (.tuple #[v0_, .int .i64 r2]) ∧ Kd.R k42 42 w' w.heap.size (fun k_ => (w.heap.size ≤ k_)) v0_ r1 ∧ Below w.heap.size w w' := by
  have hu42 := Tryd.underlying42
  have HO0 := Aside0.mk (show Kd.V (Kd.int .u8) 5 w w.heap.size (fun k_ => (P0_ k_ ∨ w.heap.size ≤ k_)) (.slice A0 l0.length c0) l0 from Kd.V_mono hs0 (fun k_ hk => .inl hk))
  have HB := Aside0.mk (Below.refl w.heap.size w)
  have H : (pack_Decode.l0 k l0 ([] : List (S42))) = some (r1, r2) := h
  clear h
  have H' := Aside0.mk H
  clear H
  go_enter Tryd.func14, Tryd.ntmps14
  go_wp2
  repeat (go_quiet (fail); try go_wp2)
  go_loopg [0, 4] k (fun kq v0 v4 w' => ∃ (x0_1 : List Int) (x4_1 : List (S42)), Aside0 (pack_Decode.l0 kq x0_1 x4_1 = some (r1, r2)) ∧ Aside0 (kq ≤ k) ∧ Aside0 (Kd.V (Kd.int .u8) 5 w' w.heap.size (fun k_ => (P0_ k_ ∨ w.heap.size ≤ k_) ∧ some k_ ≠ (v4 : Value).ownBlock) v0 x0_1) ∧ Aside0 (Kd.R k42 42 w' w.heap.size (fun k_ => (w.heap.size ≤ k_)) v4 x4_1) ∧ Aside0 (Below w.heap.size w w'))
  case atStart => exact ⟨(l0), (([] : List (S42))), H', ⟨Nat.le_refl _⟩, ⟨by (with_reducible repeat (first | apply Kd.V_alloc | apply Kd.V_drewN | apply Kd.V_drew)); exact Kd.V_mono HO0.out (fun _ hk => ⟨hk, (by simp [Value.ownBlock])⟩)⟩, ⟨by first | exact Kd.R_nil _ _ _ _ _ | exact Kd.N_nil _ _ _ _ _ | exact Kd.V_nil _ _ _ _ _ | exact Kd.Q_nil _ _ _ _ _ | exact Kd.S_nil _ _ _ _ _⟩, ⟨by repeat (first | (with_reducible first | exact HB.out | apply below_alloc | apply pw_below_drewN | apply below_drew1) | exact HB.out)⟩⟩
  case round =>
    clear H'
    try clear c1
    obtain ⟨x0_1, x4_1, HA, HK1, HO_0, HO_4, HB⟩ := hrel
    cases gk with
    | zero => exact absurd HA.out (by simp [pack_Decode.l0])
    | succ k1 =>
      have H := HA.out
      clear HA
      simp only [pack_Decode.l0] at H
      by_cases c2 : (x0_1.length : Int) > 0
      · rw [if_pos c2] at H
        have c2b0 : decide (0 < (x0_1.length : Int)) = true := decide_eq_true c2
        have c2b1 : decide (0 < x0_1.length) = true := decide_eq_true (by omega)
        clear c2
        by_cases c3 : 0 < (x0_1.length : Int)
        · rw [if_pos c3] at H
          have c3b0 : decide (0 < (x0_1.length : Int)) = true := decide_eq_true c3
          have c3b1 : decide (0 < x0_1.length) = true := decide_eq_true (by omega)
          clear c3
          by_cases c4 : 1 ≤ (x0_1.length : Int)
          · rw [if_pos c4] at H
            have c4b0 := eq_true c4
            have c4b1 : decide (1 ≤ (x0_1.length : Int)) = true := decide_eq_true c4
            clear c4
            obtain ⟨y141, hy141⟩ : ∃ y_ : List Int, y_ = (x0_1.drop 1) := ⟨_, rfl⟩
            replace H : (if (rd x0_1 0) = 1 then (pack_Decode.j1 k1 x4_1 (rd x0_1 0) y141 (decide ((y141.length : Int) ≥ 8))) else (pack_Decode.j1 k1 x4_1 (rd x0_1 0) y141 false)) = some (r1, r2) := by first | (rw [hy141]; with_reducible exact H) | (have H2_ := (Option.bind_some _ _).symm.trans H; rw [hy141]; with_reducible exact H2_) | (have H2_ := (Option.bind_some _ _).symm.trans H; with_reducible exact H2_) | with_reducible exact H | (rw [hy141]; exact H) | exact H
            have Ny141 := Aside0.mk hy141
            clear hy141
            have HC5 := Aside0.mk H
            clear H
            obtain ⟨Ao6, co6, eo6⟩ := Kd.V_slice HO_0.out
            subst eo6
            have p140 : 0 ≤ (0 : Int) := (by omega)
            have q140 : 0 < (x0_1.length : Int) := of_decide_eq_true (by first | (with_reducible assumption) | assumption)
            obtain ⟨ad140, e140, hx140_0⟩ := Kd.at_int (Kd.V_reads' HO_0.out).2.2 0 p140 q140
            cases e140
            have qi140 : (0 < x0_1.length) = True := eq_true (by omega)
            (try rw [show ((0 : Int)).toNat = 0 from rfl] at hx140_0)
            (try rw [Addr.add_zero'] at hx140_0)
            replace p140 := eq_true p140
            replace q140 := eq_true q140
            have q7 : (1 : Int) ≤ ((x0_1.length : Int) : Int) := of_decide_eq_true (by first | (with_reducible assumption) | assumption)
            obtain ⟨i07, hi07, _, hsz7, _⟩ := info_parts info5
            have hroom7 : x0_1.length ≤ co6 := (Kd.V_reads' HO_0.out).2.1
            have hC7 : Kd.F (Kd.int .u8) _ _ (some ad140) x0_1.length x0_1 := (Kd.V_at (base := w.heap.size) HO_0.out).2.2
            have hcut7 := cut_from (P := Tryd.prog) 22 5 .i64 Tryd.underlying22 hi07 1 hsz7 (some ad140) x0_1.length co6 1 (by omega) q7
            have hr7 := Kd.F_cut (m := (1 : Int).toNat) (c := co6) hC7 (by omega) hroom7
            obtain ⟨A7, hA7⟩ : ∃ A1, A1 = (if co6 = (1 : Int).toNat then (some ad140) else ((some ad140) : Option Addr).map (·.add ((1 : Int).toNat * 1))) := ⟨_, rfl⟩
            obtain ⟨c7, hc7⟩ : ∃ c1, c1 = co6 - (1 : Int).toNat := ⟨_, rfl⟩
            have hy7 : y141.length = x0_1.length - (1 : Int).toNat := (by rw [Ny141.out, List.length_drop] <;> omega)
            rw [show (x0_1).drop (1 : Int).toNat = y141 from Ny141.out.symm] at hr7
            replace hr7 : Kd.F (Kd.int .u8) _ _ A7 y141.length y141 := (by rw [hA7]; exact hr7)
            rw [← hy7, ← hA7, ← hc7] at hcut7
            have HO145 := Aside0.mk (show Kd.V (Kd.int .u8) 5 _ w.heap.size _ (.slice A7 y141.length c7) y141 from Kd.V_mk (by rw [hy7, hc7]; exact Nat.sub_le_sub_right hroom7 _) hr7)
            have HC145 := Aside0.mk (show y141.length ≤ c7 from by rw [hy7, hc7]; exact Nat.sub_le_sub_right hroom7 _)
            clear hr7 hC7 hroom7 hi07 hsz7 hc7
            have KY7 := Aside0.mk hy7
            have KA7 := Aside0.mk hA7
            clear hy7 hA7
            replace q7 := eq_true q7
            go_upto_region 5 with (fail)
            repeat (go_quiet (fail); go_upto_region 5 with (fail))
            go_cut [16] (fun v16 wc => ∃ (kq : Nat) (x16_4 : Bool), v16 = .bool x16_4 ∧ Aside0 (pack_Decode.j1 kq x4_1 (rd x0_1 0) y141 x16_4 = some (r1, r2)) ∧ Aside0 (kq ≤ k1) ∧ Aside0 (Kd.R k42 42 wc w.heap.size (fun k_ => (w.heap.size ≤ k_)) u4 x4_1) ∧ Aside0 (Kd.V (Kd.int .u8) 5 wc w.heap.size (fun k_ => (P0_ k_ ∨ w.heap.size ≤ k_) ∧ some k_ ≠ (u4 : Value).ownBlock) (.slice A7 y141.length c7) y141) ∧ Aside0 (Below w.heap.size w wc))
            case first =>
              have H := HC5.out
              clear HC5
              by_cases c8 : (rd x0_1 0) = 1
              · rw [if_pos c8] at H
                have c8b0 : ((rd x0_1 0) == 1) = true := beq_iff_eq.mpr c8
                have c8b1 : ((rd x0_1 0) != 1) = false := bne_eq_false_iff_eq.mpr c8
                clear c8
                (first | rw [c8b0] | (simp only [i64_w, i32_w]; rw [c8b0]) | skip)
                have H' := Aside0.mk H
                clear H
                go_wp2
                repeat (go_quiet (fail); try go_wp2)
                go_meet
                case rel => exact ⟨_, (decide ((y141.length : Int) ≥ 8)), (by first | rfl | (simp; done) | (simp [*]; done)), H', ⟨by have := HK1.out; first | omega | exact Nat.le_refl _⟩, ⟨by (with_reducible repeat (first | apply Kd.R_alloc | apply Kd.R_drewN | apply Kd.R_drew)); exact HO_4.out⟩, ⟨by (with_reducible repeat (first | apply Kd.V_alloc | apply Kd.V_drewN | apply Kd.V_drew)); exact HO145.out⟩, ⟨by repeat (first | (with_reducible first | exact HB.out | apply below_alloc | apply pw_below_drewN | apply below_drew1) | exact HB.out)⟩⟩
              · rw [if_neg c8] at H
                have c8b0 : ((rd x0_1 0) == 1) = false := beq_eq_false_iff_ne.mpr c8
                have c8b1 : ((rd x0_1 0) != 1) = true := bne_iff_ne.mpr c8
                (first | rw [c8b0] | (simp only [i64_w, i32_w]; rw [c8b0]) | skip)
                have H' := Aside0.mk H
                clear H
                go_wp2
                repeat (go_quiet (fail); try go_wp2)
                go_meet
                case rel => exact ⟨_, (false), (by first | rfl | (simp; done) | (simp [*]; done)), H', ⟨by have := HK1.out; first | omega | exact Nat.le_refl _⟩, ⟨by (with_reducible repeat (first | apply Kd.R_alloc | apply Kd.R_drewN | apply Kd.R_drew)); exact HO_4.out⟩, ⟨by (with_reducible repeat (first | apply Kd.V_alloc | apply Kd.V_drewN | apply Kd.V_drew)); exact HO145.out⟩, ⟨by repeat (first | (with_reducible first | exact HB.out | apply below_alloc | apply pw_below_drewN | apply below_drew1) | exact HB.out)⟩⟩
            case rest =>
              clear HC5
              try clear c1
              try clear p1
              try clear q1
              try clear hx1
              try clear qi1
              try clear c2
              try clear c2b0
              try clear c2b1
              try clear p2
              try clear c3
              try clear c3b0
              try clear c3b1
              try clear c4
              try clear c4b0
              try clear c4b1
              try clear c7
              try clear q7
              try clear c8
              try clear c8b0
              try clear c8b1
              try clear hx140_0
              try clear p140
              try clear q140
              try clear q7
              obtain ⟨kq, x16_4, rfl, HA, HJ4, HO_4, HO_6, HB⟩ := hcut
              cases kq with
              | zero => exact absurd HA.out (by simp [pack_Decode.j1])
              | succ kj4 =>
                have H := HA.out
                clear HA
                simp only [pack_Decode.j1] at H
                by_cases c9 : x16_4 = true
                · subst c9
                  have H1 : (if 8 ≤ (y141.length : Int) then ((pack_get.f kj4 (y141.take 8)).bind fun t151 => (if x4_1.length < 4398046511104 then ((some (x4_1 ++ [(⟨1, wrap64 (t151), (⟨#[]⟩ : ByteArray)⟩ : S42)] : List (S42))).bind fun y152 => (if (y152.length : Int) > 4000 then (some (([] : List (S42)), 2)) else (pack_Decode.l0 kj4 (y141.drop 8) y152))) else (none))) else (none)) = some (r1, r2) := by rw [if_pos rfl] at H; exact H
                  clear H
                  have H := H1
                  clear H1
                  by_cases c10 : 8 ≤ (y141.length : Int)
                  · rw [if_pos c10] at H
                    have c10b0 := eq_true c10
                    have c10b1 : decide (8 ≤ (y141.length : Int)) = true := decide_eq_true c10
                    clear c10
                    obtain ⟨y146, hy146⟩ : ∃ y_ : List Int, y_ = (y141.take 8) := ⟨_, rfl⟩
                    replace H : ((pack_get.f kj4 y146).bind fun t151 => (if x4_1.length < 4398046511104 then ((some (x4_1 ++ [(⟨1, wrap64 (t151), (⟨#[]⟩ : ByteArray)⟩ : S42)] : List (S42))).bind fun y152 => (if (y152.length : Int) > 4000 then (some (([] : List (S42)), 2)) else (pack_Decode.l0 kj4 (y141.drop 8) y152))) else (none))) = some (r1, r2) := by first | (rw [hy146]; with_reducible exact H) | (have H2_ := (Option.bind_some _ _).symm.trans H; rw [hy146]; with_reducible exact H2_) | (have H2_ := (Option.bind_some _ _).symm.trans H; with_reducible exact H2_) | with_reducible exact H | (rw [hy146]; exact H) | exact H
                    have Ny146 := Aside0.mk hy146
                    clear hy146
                    replace H := Option.bind_eq_some_iff.mp H
                    obtain ⟨t151, A110, H⟩ := H
                    replace H : (if x4_1.length < 4398046511104 then ((some (x4_1 ++ [(⟨1, wrap64 (t151), (⟨#[]⟩ : ByteArray)⟩ : S42)] : List (S42))).bind fun y152 => (if (y152.length : Int) > 4000 then (some (([] : List (S42)), 2)) else (pack_Decode.l0 kj4 (y141.drop 8) y152))) else (none)) = some (r1, r2) := H
                    have A11 := Aside0.mk A110
                    clear A110
                    by_cases c12 : x4_1.length < 4398046511104
                    · rw [if_pos c12] at H
                      have LMc12 := Aside0.mk c12
                      clear c12
                      obtain ⟨y152, hy152⟩ : ∃ y_ : List (S42), y_ = (x4_1 ++ [(⟨1, wrap64 (t151), (⟨#[]⟩ : ByteArray)⟩ : S42)]) := ⟨_, rfl⟩
                      replace H : (if (y152.length : Int) > 4000 then (some (([] : List (S42)), 2)) else (pack_Decode.l0 kj4 (y141.drop 8) y152)) = some (r1, r2) := by first | (rw [hy152]; with_reducible exact H) | (have H2_ := (Option.bind_some _ _).symm.trans H; rw [hy152]; with_reducible exact H2_) | (have H2_ := (Option.bind_some _ _).symm.trans H; with_reducible exact H2_) | with_reducible exact H | (rw [hy152]; exact H) | exact H
                      have Ny152 := Aside0.mk hy152
                      clear hy152
                      have c13b0 := eq_true (of_decide_eq_true (by first | (with_reducible assumption) | assumption) : 8 ≤ (y141.length : Int))
                      obtain ⟨y155, hy155⟩ : ∃ y_ : List Int, y_ = (y141.drop 8) := ⟨_, rfl⟩
                      replace H : (if (y152.length : Int) > 4000 then (some (([] : List (S42)), 2)) else (pack_Decode.l0 kj4 y155 y152)) = some (r1, r2) := by first | (rw [hy155]; with_reducible exact H) | (have H2_ := (Option.bind_some _ _).symm.trans H; rw [hy155]; with_reducible exact H2_) | (have H2_ := (Option.bind_some _ _).symm.trans H; with_reducible exact H2_) | with_reducible exact H | (rw [hy155]; exact H) | exact H
                      have Ny155 := Aside0.mk hy155
                      clear hy155
                      by_cases c14 : (y152.length : Int) > 4000
                      · rw [if_pos c14] at H
                        have c14b0 : decide (4000 < (y152.length : Int)) = true := decide_eq_true c14
                        have c14b1 : decide (4000 < y152.length) = true := decide_eq_true (by omega)
                        clear c14
                        simp only [Option.some.injEq, Prod.mk.injEq] at H
                        obtain ⟨rfl, rfl⟩ := H
                        have q15 : (8 : Int) ≤ ((y141.length : Int) : Int) := of_decide_eq_true (by first | (with_reducible assumption) | assumption)
                        obtain ⟨i015, hi015, _, hsz15, _⟩ := info_parts info5
                        have hroom15 : y141.length ≤ c7 := (Kd.V_reads' HO_6.out).2.1
                        have hC15 : Kd.F (Kd.int .u8) _ _ A7 y141.length y141 := (Kd.V_at (base := w.heap.size) HO_6.out).2.2
                        have hcut15 := cut_to (P := Tryd.prog) 22 5 .i64 Tryd.underlying22 hi015 A7 y141.length c7 8 (by omega) q15 hroom15
                        have hr15 := Kd.F_take (m := 8) hC15 (by omega)
                        have hy15 : y146.length = (8 : Int).toNat := (by rw [Ny146.out, List.length_take]; omega)
                        rw [← Ny146.out] at hr15
                        rw [← hy15] at hcut15
                        have HO150 := Aside0.mk (show Kd.V (Kd.int .u8) 5 _ w.heap.size _ (.slice A7 y146.length c7) y146 from Kd.V_mk (by omega) hr15)
                        have HC150 := Aside0.mk (show y146.length ≤ c7 from by omega)
                        clear hr15 hC15 hroom15 hi015 hsz15
                        have KY15 := Aside0.mk hy15
                        clear hy15
                        replace q15 := eq_true q15
                        go_wp2_with (first | (go_at_call 19; (with_reducible refine (pack_get.calls kj4 _ _ y146 t151 _ ?side1 ?side2 A11.out).mono ?_); (case side1 => repeat (first | exact (Kd.V_reads' HO150.out).2.2 | (with_reducible refine Kd.C_alloc ?_ _) | (with_reducible refine Kd.C_drewN ?_ _) | (with_reducible refine Kd.C_drew ?_))); (case side2 => exact (Kd.V_reads' HO150.out).2.1); rintro e w' ⟨rfl, ⟨nd, rfl⟩⟩; (try first | exact ⟨rfl, _, World.drewN_drewN _ _ _⟩ | exact ⟨rfl, _, Eq.trans (World.drewN_drewN _ _ _) (congrArg (World.drewN _) (Nat.add_assoc _ _ _))⟩)) | ((with_reducible refine gate_builtin (b := .append) (xs := #[.tmp 24, .tmp 30]) rfl ?_); (try (refine gate_guard (by rfl) ?_; dsimp only)); at_builtin; refine Kd.R_append k42 (w0 := w) w.heap.size rfl (.tmp 24) (.tmp 30) 34 42 (.agg #[(.int .i64 0), (.int .i64 0), (.string ⟨#[]⟩)]) 32 rfl Tryd.underlying34 info42 rfl (by decide) (by omega) u4 x4_1 (⟨1, wrap64 (t151), (⟨#[]⟩ : ByteArray)⟩ : S42) [.int .i64 1, .int .i64 (wrap64 (t151)), .string (⟨#[]⟩ : ByteArray)] (fun k_ => (w.heap.size ≤ k_)) (fun _ => False) rfl rfl ?aP (fun _ hk => hk.elim) ?aF ?aO ?aB ?aS ?aL ?_; (case aP => exact k42_mkM _ _ _ (⟨1, wrap64 (t151), (⟨#[]⟩ : ByteArray)⟩ : S42)); (case aB => exact (by repeat (first | (with_reducible first | exact HB.out | apply below_alloc | apply pw_below_drewN | apply below_drew1) | exact HB.out))); (case aF => exact (fun k_ hk => (Nat.le_trans (below_size (by repeat (first | (with_reducible first | exact HB.out | apply below_alloc | apply pw_below_drewN | apply below_drew1) | exact HB.out))) hk))); (case aO => exact (by (with_reducible repeat (first | apply Kd.R_alloc | apply Kd.R_drewN | apply Kd.R_drew)); exact HO_4.out)); (case aS => exact (below_size (by repeat (first | (with_reducible first | exact HB.out | apply below_alloc | apply pw_below_drewN | apply below_drew1) | exact HB.out)))); (case aL => have := LMc12.out; omega); intro v153 w16 ho hb hg hat; rw [← Ny152.out] at ho; have n0_ := Aside0.mk (Kd.V_afterv (ok := (fun k_ => (P0_ k_ ∨ w.heap.size ≤ k_))) (by (with_reducible repeat (first | apply Kd.V_alloc | apply Kd.V_drewN | apply Kd.V_drew)); exact HO_6.out) hg hat); have n1_ := Aside0.mk (Kd.V_afterv (ok := (fun k_ => (P0_ k_ ∨ w.heap.size ≤ k_))) (by (with_reducible repeat (first | apply Kd.V_alloc | apply Kd.V_drewN | apply Kd.V_drew)); exact HO150.out) hg hat); have n2_ := Aside0.mk (hb); have n3_ := Aside0.mk (ho); clear HO_6; clear HO150; clear HB; clear HO_4; have HO_6 := n0_; have HO150 := n1_; have HB := n2_; have HO154 := n3_; clear n0_ n1_ n2_ n3_; clear ho hb hg hat; have q17 : (8 : Int) ≤ ((y141.length : Int) : Int) := of_decide_eq_true (by first | (with_reducible assumption) | assumption); obtain ⟨i017, hi017, _, hsz17, _⟩ := info_parts info5; have hroom17 : y141.length ≤ c7 := (Kd.V_reads' HO_6.out).2.1; have hC17 : Kd.F (Kd.int .u8) _ _ A7 y141.length y141 := (Kd.V_at (base := w.heap.size) HO_6.out).2.2; have hcut17 := cut_from (P := Tryd.prog) 22 5 .i64 Tryd.underlying22 hi017 1 hsz17 A7 y141.length c7 8 (by omega) q17; have hr17 := Kd.F_cut (m := (8 : Int).toNat) (c := c7) hC17 (by omega) hroom17; obtain ⟨A17, hA17⟩ : ∃ A1, A1 = (if c7 = (8 : Int).toNat then A7 else (A7 : Option Addr).map (·.add ((8 : Int).toNat * 1))) := ⟨_, rfl⟩; obtain ⟨c17, hc17⟩ : ∃ c1, c1 = c7 - (8 : Int).toNat := ⟨_, rfl⟩; have hy17 : y155.length = y141.length - (8 : Int).toNat := (by rw [Ny155.out, List.length_drop] <;> omega); rw [show (y141).drop (8 : Int).toNat = y155 from Ny155.out.symm] at hr17; replace hr17 : Kd.F (Kd.int .u8) _ _ A17 y155.length y155 := (by rw [hA17]; exact hr17); rw [← hy17, ← hA17, ← hc17] at hcut17; have HO159 := Aside0.mk (show Kd.V (Kd.int .u8) 5 _ w.heap.size _ (.slice A17 y155.length c17) y155 from Kd.V_mk (by rw [hy17, hc17]; exact Nat.sub_le_sub_right hroom17 _) hr17); have HC159 := Aside0.mk (show y155.length ≤ c17 from by rw [hy17, hc17]; exact Nat.sub_le_sub_right hroom17 _); clear hr17 hC17 hroom17 hi017 hsz17 hc17; have KY17 := Aside0.mk hy17; have KA17 := Aside0.mk hA17; clear hy17 hA17; replace q17 := eq_true q17; obtain ⟨Ao18, co18, eo18⟩ := Kd.R_slice HO154.out; subst eo18))
                        repeat (go_quiet (first | (go_at_call 19; (with_reducible refine (pack_get.calls kj4 _ _ y146 t151 _ ?side1 ?side2 A11.out).mono ?_); (case side1 => repeat (first | exact (Kd.V_reads' HO150.out).2.2 | (with_reducible refine Kd.C_alloc ?_ _) | (with_reducible refine Kd.C_drewN ?_ _) | (with_reducible refine Kd.C_drew ?_))); (case side2 => exact (Kd.V_reads' HO150.out).2.1); rintro e w' ⟨rfl, ⟨nd, rfl⟩⟩; (try first | exact ⟨rfl, _, World.drewN_drewN _ _ _⟩ | exact ⟨rfl, _, Eq.trans (World.drewN_drewN _ _ _) (congrArg (World.drewN _) (Nat.add_assoc _ _ _))⟩)) | ((with_reducible refine gate_builtin (b := .append) (xs := #[.tmp 24, .tmp 30]) rfl ?_); (try (refine gate_guard (by rfl) ?_; dsimp only)); at_builtin; refine Kd.R_append k42 (w0 := w) w.heap.size rfl (.tmp 24) (.tmp 30) 34 42 (.agg #[(.int .i64 0), (.int .i64 0), (.string ⟨#[]⟩)]) 32 rfl Tryd.underlying34 info42 rfl (by decide) (by omega) u4 x4_1 (⟨1, wrap64 (t151), (⟨#[]⟩ : ByteArray)⟩ : S42) [.int .i64 1, .int .i64 (wrap64 (t151)), .string (⟨#[]⟩ : ByteArray)] (fun k_ => (w.heap.size ≤ k_)) (fun _ => False) rfl rfl ?aP (fun _ hk => hk.elim) ?aF ?aO ?aB ?aS ?aL ?_; (case aP => exact k42_mkM _ _ _ (⟨1, wrap64 (t151), (⟨#[]⟩ : ByteArray)⟩ : S42)); (case aB => exact (by repeat (first | (with_reducible first | exact HB.out | apply below_alloc | apply pw_below_drewN | apply below_drew1) | exact HB.out))); (case aF => exact (fun k_ hk => (Nat.le_trans (below_size (by repeat (first | (with_reducible first | exact HB.out | apply below_alloc | apply pw_below_drewN | apply below_drew1) | exact HB.out))) hk))); (case aO => exact (by (with_reducible repeat (first | apply Kd.R_alloc | apply Kd.R_drewN | apply Kd.R_drew)); exact HO_4.out)); (case aS => exact (below_size (by repeat (first | (with_reducible first | exact HB.out | apply below_alloc | apply pw_below_drewN | apply below_drew1) | exact HB.out)))); (case aL => have := LMc12.out; omega); intro v153 w16 ho hb hg hat; rw [← Ny152.out] at ho; have n0_ := Aside0.mk (Kd.V_afterv (ok := (fun k_ => (P0_ k_ ∨ w.heap.size ≤ k_))) (by (with_reducible repeat (first | apply Kd.V_alloc | apply Kd.V_drewN | apply Kd.V_drew)); exact HO_6.out) hg hat); have n1_ := Aside0.mk (Kd.V_afterv (ok := (fun k_ => (P0_ k_ ∨ w.heap.size ≤ k_))) (by (with_reducible repeat (first | apply Kd.V_alloc | apply Kd.V_drewN | apply Kd.V_drew)); exact HO150.out) hg hat); have n2_ := Aside0.mk (hb); have n3_ := Aside0.mk (ho); clear HO_6; clear HO150; clear HB; clear HO_4; have HO_6 := n0_; have HO150 := n1_; have HB := n2_; have HO154 := n3_; clear n0_ n1_ n2_ n3_; clear ho hb hg hat; have q17 : (8 : Int) ≤ ((y141.length : Int) : Int) := of_decide_eq_true (by first | (with_reducible assumption) | assumption); obtain ⟨i017, hi017, _, hsz17, _⟩ := info_parts info5; have hroom17 : y141.length ≤ c7 := (Kd.V_reads' HO_6.out).2.1; have hC17 : Kd.F (Kd.int .u8) _ _ A7 y141.length y141 := (Kd.V_at (base := w.heap.size) HO_6.out).2.2; have hcut17 := cut_from (P := Tryd.prog) 22 5 .i64 Tryd.underlying22 hi017 1 hsz17 A7 y141.length c7 8 (by omega) q17; have hr17 := Kd.F_cut (m := (8 : Int).toNat) (c := c7) hC17 (by omega) hroom17; obtain ⟨A17, hA17⟩ : ∃ A1, A1 = (if c7 = (8 : Int).toNat then A7 else (A7 : Option Addr).map (·.add ((8 : Int).toNat * 1))) := ⟨_, rfl⟩; obtain ⟨c17, hc17⟩ : ∃ c1, c1 = c7 - (8 : Int).toNat := ⟨_, rfl⟩; have hy17 : y155.length = y141.length - (8 : Int).toNat := (by rw [Ny155.out, List.length_drop] <;> omega); rw [show (y141).drop (8 : Int).toNat = y155 from Ny155.out.symm] at hr17; replace hr17 : Kd.F (Kd.int .u8) _ _ A17 y155.length y155 := (by rw [hA17]; exact hr17); rw [← hy17, ← hA17, ← hc17] at hcut17; have HO159 := Aside0.mk (show Kd.V (Kd.int .u8) 5 _ w.heap.size _ (.slice A17 y155.length c17) y155 from Kd.V_mk (by rw [hy17, hc17]; exact Nat.sub_le_sub_right hroom17 _) hr17); have HC159 := Aside0.mk (show y155.length ≤ c17 from by rw [hy17, hc17]; exact Nat.sub_le_sub_right hroom17 _); clear hr17 hC17 hroom17 hi017 hsz17 hc17; have KY17 := Aside0.mk hy17; have KA17 := Aside0.mk hA17; clear hy17 hA17; replace q17 := eq_true q17; obtain ⟨Ao18, co18, eo18⟩ := Kd.R_slice HO154.out; subst eo18)); try go_wp2_with (first | (go_at_call 19; (with_reducible refine (pack_get.calls kj4 _ _ y146 t151 _ ?side1 ?side2 A11.out).mono ?_); (case side1 => repeat (first | exact (Kd.V_reads' HO150.out).2.2 | (with_reducible refine Kd.C_alloc ?_ _) | (with_reducible refine Kd.C_drewN ?_ _) | (with_reducible refine Kd.C_drew ?_))); (case side2 => exact (Kd.V_reads' HO150.out).2.1); rintro e w' ⟨rfl, ⟨nd, rfl⟩⟩; (try first | exact ⟨rfl, _, World.drewN_drewN _ _ _⟩ | exact ⟨rfl, _, Eq.trans (World.drewN_drewN _ _ _) (congrArg (World.drewN _) (Nat.add_assoc _ _ _))⟩)) | ((with_reducible refine gate_builtin (b := .append) (xs := #[.tmp 24, .tmp 30]) rfl ?_); (try (refine gate_guard (by rfl) ?_; dsimp only)); at_builtin; refine Kd.R_append k42 (w0 := w) w.heap.size rfl (.tmp 24) (.tmp 30) 34 42 (.agg #[(.int .i64 0), (.int .i64 0), (.string ⟨#[]⟩)]) 32 rfl Tryd.underlying34 info42 rfl (by decide) (by omega) u4 x4_1 (⟨1, wrap64 (t151), (⟨#[]⟩ : ByteArray)⟩ : S42) [.int .i64 1, .int .i64 (wrap64 (t151)), .string (⟨#[]⟩ : ByteArray)] (fun k_ => (w.heap.size ≤ k_)) (fun _ => False) rfl rfl ?aP (fun _ hk => hk.elim) ?aF ?aO ?aB ?aS ?aL ?_; (case aP => exact k42_mkM _ _ _ (⟨1, wrap64 (t151), (⟨#[]⟩ : ByteArray)⟩ : S42)); (case aB => exact (by repeat (first | (with_reducible first | exact HB.out | apply below_alloc | apply pw_below_drewN | apply below_drew1) | exact HB.out))); (case aF => exact (fun k_ hk => (Nat.le_trans (below_size (by repeat (first | (with_reducible first | exact HB.out | apply below_alloc | apply pw_below_drewN | apply below_drew1) | exact HB.out))) hk))); (case aO => exact (by (with_reducible repeat (first | apply Kd.R_alloc | apply Kd.R_drewN | apply Kd.R_drew)); exact HO_4.out)); (case aS => exact (below_size (by repeat (first | (with_reducible first | exact HB.out | apply below_alloc | apply pw_below_drewN | apply below_drew1) | exact HB.out)))); (case aL => have := LMc12.out; omega); intro v153 w16 ho hb hg hat; rw [← Ny152.out] at ho; have n0_ := Aside0.mk (Kd.V_afterv (ok := (fun k_ => (P0_ k_ ∨ w.heap.size ≤ k_))) (by (with_reducible repeat (first | apply Kd.V_alloc | apply Kd.V_drewN | apply Kd.V_drew)); exact HO_6.out) hg hat); have n1_ := Aside0.mk (Kd.V_afterv (ok := (fun k_ => (P0_ k_ ∨ w.heap.size ≤ k_))) (by (with_reducible repeat (first | apply Kd.V_alloc | apply Kd.V_drewN | apply Kd.V_drew)); exact HO150.out) hg hat); have n2_ := Aside0.mk (hb); have n3_ := Aside0.mk (ho); clear HO_6; clear HO150; clear HB; clear HO_4; have HO_6 := n0_; have HO150 := n1_; have HB := n2_; have HO154 := n3_; clear n0_ n1_ n2_ n3_; clear ho hb hg hat; have q17 : (8 : Int) ≤ ((y141.length : Int) : Int) := of_decide_eq_true (by first | (with_reducible assumption) | assumption); obtain ⟨i017, hi017, _, hsz17, _⟩ := info_parts info5; have hroom17 : y141.length ≤ c7 := (Kd.V_reads' HO_6.out).2.1; have hC17 : Kd.F (Kd.int .u8) _ _ A7 y141.length y141 := (Kd.V_at (base := w.heap.size) HO_6.out).2.2; have hcut17 := cut_from (P := Tryd.prog) 22 5 .i64 Tryd.underlying22 hi017 1 hsz17 A7 y141.length c7 8 (by omega) q17; have hr17 := Kd.F_cut (m := (8 : Int).toNat) (c := c7) hC17 (by omega) hroom17; obtain ⟨A17, hA17⟩ : ∃ A1, A1 = (if c7 = (8 : Int).toNat then A7 else (A7 : Option Addr).map (·.add ((8 : Int).toNat * 1))) := ⟨_, rfl⟩; obtain ⟨c17, hc17⟩ : ∃ c1, c1 = c7 - (8 : Int).toNat := ⟨_, rfl⟩; have hy17 : y155.length = y141.length - (8 : Int).toNat := (by rw [Ny155.out, List.length_drop] <;> omega); rw [show (y141).drop (8 : Int).toNat = y155 from Ny155.out.symm] at hr17; replace hr17 : Kd.F (Kd.int .u8) _ _ A17 y155.length y155 := (by rw [hA17]; exact hr17); rw [← hy17, ← hA17, ← hc17] at hcut17; have HO159 := Aside0.mk (show Kd.V (Kd.int .u8) 5 _ w.heap.size _ (.slice A17 y155.length c17) y155 from Kd.V_mk (by rw [hy17, hc17]; exact Nat.sub_le_sub_right hroom17 _) hr17); have HC159 := Aside0.mk (show y155.length ≤ c17 from by rw [hy17, hc17]; exact Nat.sub_le_sub_right hroom17 _); clear hr17 hC17 hroom17 hi017 hsz17 hc17; have KY17 := Aside0.mk hy17; have KA17 := Aside0.mk hA17; clear hy17 hA17; replace q17 := eq_true q17; obtain ⟨Ao18, co18, eo18⟩ := Kd.R_slice HO154.out; subst eo18)))
                        go_ret2
                        exact ⟨_, by first | rfl | (simp [errW_none, errW_some] <;> rfl) | (simp [*, errW_none, errW_some] <;> rfl), by first | exact Kd.R_nil _ _ _ _ _ | exact Kd.N_nil _ _ _ _ _ | exact Kd.V_nil _ _ _ _ _ | exact Kd.Q_nil _ _ _ _ _ | exact Kd.S_nil _ _ _ _ _, by repeat (first | (with_reducible first | exact HB.out | apply below_alloc | apply pw_below_drewN | apply below_drew1) | exact HB.out)⟩
                      · rw [if_neg c14] at H
                        have c14b0 : decide (4000 < (y152.length : Int)) = false := decide_eq_false c14
                        have c14b1 : decide (4000 < y152.length) = false := decide_eq_false (by omega)
                        clear c14
                        have H' := Aside0.mk H
                        clear H
                        have q19 : (8 : Int) ≤ ((y141.length : Int) : Int) := of_decide_eq_true (by first | (with_reducible assumption) | assumption)
                        obtain ⟨i019, hi019, _, hsz19, _⟩ := info_parts info5
                        have hroom19 : y141.length ≤ c7 := (Kd.V_reads' HO_6.out).2.1
                        have hC19 : Kd.F (Kd.int .u8) _ _ A7 y141.length y141 := (Kd.V_at (base := w.heap.size) HO_6.out).2.2
                        have hcut19 := cut_to (P := Tryd.prog) 22 5 .i64 Tryd.underlying22 hi019 A7 y141.length c7 8 (by omega) q19 hroom19
                        have hr19 := Kd.F_take (m := 8) hC19 (by omega)
                        have hy19 : y146.length = (8 : Int).toNat := (by rw [Ny146.out, List.length_take]; omega)
                        rw [← Ny146.out] at hr19
                        rw [← hy19] at hcut19
                        have HO150 := Aside0.mk (show Kd.V (Kd.int .u8) 5 _ w.heap.size _ (.slice A7 y146.length c7) y146 from Kd.V_mk (by omega) hr19)
                        have HC150 := Aside0.mk (show y146.length ≤ c7 from by omega)
                        clear hr19 hC19 hroom19 hi019 hsz19
                        have KY19 := Aside0.mk hy19
                        clear hy19
                        replace q19 := eq_true q19
                        go_wp2_with (first | (go_at_call 19; (with_reducible refine (pack_get.calls kj4 _ _ y146 t151 _ ?side1 ?side2 A11.out).mono ?_); (case side1 => repeat (first | exact (Kd.V_reads' HO150.out).2.2 | (with_reducible refine Kd.C_alloc ?_ _) | (with_reducible refine Kd.C_drewN ?_ _) | (with_reducible refine Kd.C_drew ?_))); (case side2 => exact (Kd.V_reads' HO150.out).2.1); rintro e w' ⟨rfl, ⟨nd, rfl⟩⟩; (try first | exact ⟨rfl, _, World.drewN_drewN _ _ _⟩ | exact ⟨rfl, _, Eq.trans (World.drewN_drewN _ _ _) (congrArg (World.drewN _) (Nat.add_assoc _ _ _))⟩)) | ((with_reducible refine gate_builtin (b := .append) (xs := #[.tmp 24, .tmp 30]) rfl ?_); (try (refine gate_guard (by rfl) ?_; dsimp only)); at_builtin; refine Kd.R_append k42 (w0 := w) w.heap.size rfl (.tmp 24) (.tmp 30) 34 42 (.agg #[(.int .i64 0), (.int .i64 0), (.string ⟨#[]⟩)]) 32 rfl Tryd.underlying34 info42 rfl (by decide) (by omega) u4 x4_1 (⟨1, wrap64 (t151), (⟨#[]⟩ : ByteArray)⟩ : S42) [.int .i64 1, .int .i64 (wrap64 (t151)), .string (⟨#[]⟩ : ByteArray)] (fun k_ => (w.heap.size ≤ k_)) (fun _ => False) rfl rfl ?aP (fun _ hk => hk.elim) ?aF ?aO ?aB ?aS ?aL ?_; (case aP => exact k42_mkM _ _ _ (⟨1, wrap64 (t151), (⟨#[]⟩ : ByteArray)⟩ : S42)); (case aB => exact (by repeat (first | (with_reducible first | exact HB.out | apply below_alloc | apply pw_below_drewN | apply below_drew1) | exact HB.out))); (case aF => exact (fun k_ hk => (Nat.le_trans (below_size (by repeat (first | (with_reducible first | exact HB.out | apply below_alloc | apply pw_below_drewN | apply below_drew1) | exact HB.out))) hk))); (case aO => exact (by (with_reducible repeat (first | apply Kd.R_alloc | apply Kd.R_drewN | apply Kd.R_drew)); exact HO_4.out)); (case aS => exact (below_size (by repeat (first | (with_reducible first | exact HB.out | apply below_alloc | apply pw_below_drewN | apply below_drew1) | exact HB.out)))); (case aL => have := LMc12.out; omega); intro v153 w20 ho hb hg hat; rw [← Ny152.out] at ho; have n0_ := Aside0.mk (Kd.V_afterv (ok := (fun k_ => (P0_ k_ ∨ w.heap.size ≤ k_))) (by (with_reducible repeat (first | apply Kd.V_alloc | apply Kd.V_drewN | apply Kd.V_drew)); exact HO_6.out) hg hat); have n1_ := Aside0.mk (Kd.V_afterv (ok := (fun k_ => (P0_ k_ ∨ w.heap.size ≤ k_))) (by (with_reducible repeat (first | apply Kd.V_alloc | apply Kd.V_drewN | apply Kd.V_drew)); exact HO150.out) hg hat); have n2_ := Aside0.mk (hb); have n3_ := Aside0.mk (ho); clear HO_6; clear HO150; clear HB; clear HO_4; have HO_6 := n0_; have HO150 := n1_; have HB := n2_; have HO154 := n3_; clear n0_ n1_ n2_ n3_; clear ho hb hg hat; have q21 : (8 : Int) ≤ ((y141.length : Int) : Int) := of_decide_eq_true (by first | (with_reducible assumption) | assumption); obtain ⟨i021, hi021, _, hsz21, _⟩ := info_parts info5; have hroom21 : y141.length ≤ c7 := (Kd.V_reads' HO_6.out).2.1; have hC21 : Kd.F (Kd.int .u8) _ _ A7 y141.length y141 := (Kd.V_at (base := w.heap.size) HO_6.out).2.2; have hcut21 := cut_from (P := Tryd.prog) 22 5 .i64 Tryd.underlying22 hi021 1 hsz21 A7 y141.length c7 8 (by omega) q21; have hr21 := Kd.F_cut (m := (8 : Int).toNat) (c := c7) hC21 (by omega) hroom21; obtain ⟨A21, hA21⟩ : ∃ A1, A1 = (if c7 = (8 : Int).toNat then A7 else (A7 : Option Addr).map (·.add ((8 : Int).toNat * 1))) := ⟨_, rfl⟩; obtain ⟨c21, hc21⟩ : ∃ c1, c1 = c7 - (8 : Int).toNat := ⟨_, rfl⟩; have hy21 : y155.length = y141.length - (8 : Int).toNat := (by rw [Ny155.out, List.length_drop] <;> omega); rw [show (y141).drop (8 : Int).toNat = y155 from Ny155.out.symm] at hr21; replace hr21 : Kd.F (Kd.int .u8) _ _ A21 y155.length y155 := (by rw [hA21]; exact hr21); rw [← hy21, ← hA21, ← hc21] at hcut21; have HO159 := Aside0.mk (show Kd.V (Kd.int .u8) 5 _ w.heap.size _ (.slice A21 y155.length c21) y155 from Kd.V_mk (by rw [hy21, hc21]; exact Nat.sub_le_sub_right hroom21 _) hr21); have HC159 := Aside0.mk (show y155.length ≤ c21 from by rw [hy21, hc21]; exact Nat.sub_le_sub_right hroom21 _); clear hr21 hC21 hroom21 hi021 hsz21 hc21; have KY21 := Aside0.mk hy21; have KA21 := Aside0.mk hA21; clear hy21 hA21; replace q21 := eq_true q21; obtain ⟨Ao22, co22, eo22⟩ := Kd.R_slice HO154.out; subst eo22))
                        repeat (go_quiet (first | (go_at_call 19; (with_reducible refine (pack_get.calls kj4 _ _ y146 t151 _ ?side1 ?side2 A11.out).mono ?_); (case side1 => repeat (first | exact (Kd.V_reads' HO150.out).2.2 | (with_reducible refine Kd.C_alloc ?_ _) | (with_reducible refine Kd.C_drewN ?_ _) | (with_reducible refine Kd.C_drew ?_))); (case side2 => exact (Kd.V_reads' HO150.out).2.1); rintro e w' ⟨rfl, ⟨nd, rfl⟩⟩; (try first | exact ⟨rfl, _, World.drewN_drewN _ _ _⟩ | exact ⟨rfl, _, Eq.trans (World.drewN_drewN _ _ _) (congrArg (World.drewN _) (Nat.add_assoc _ _ _))⟩)) | ((with_reducible refine gate_builtin (b := .append) (xs := #[.tmp 24, .tmp 30]) rfl ?_); (try (refine gate_guard (by rfl) ?_; dsimp only)); at_builtin; refine Kd.R_append k42 (w0 := w) w.heap.size rfl (.tmp 24) (.tmp 30) 34 42 (.agg #[(.int .i64 0), (.int .i64 0), (.string ⟨#[]⟩)]) 32 rfl Tryd.underlying34 info42 rfl (by decide) (by omega) u4 x4_1 (⟨1, wrap64 (t151), (⟨#[]⟩ : ByteArray)⟩ : S42) [.int .i64 1, .int .i64 (wrap64 (t151)), .string (⟨#[]⟩ : ByteArray)] (fun k_ => (w.heap.size ≤ k_)) (fun _ => False) rfl rfl ?aP (fun _ hk => hk.elim) ?aF ?aO ?aB ?aS ?aL ?_; (case aP => exact k42_mkM _ _ _ (⟨1, wrap64 (t151), (⟨#[]⟩ : ByteArray)⟩ : S42)); (case aB => exact (by repeat (first | (with_reducible first | exact HB.out | apply below_alloc | apply pw_below_drewN | apply below_drew1) | exact HB.out))); (case aF => exact (fun k_ hk => (Nat.le_trans (below_size (by repeat (first | (with_reducible first | exact HB.out | apply below_alloc | apply pw_below_drewN | apply below_drew1) | exact HB.out))) hk))); (case aO => exact (by (with_reducible repeat (first | apply Kd.R_alloc | apply Kd.R_drewN | apply Kd.R_drew)); exact HO_4.out)); (case aS => exact (below_size (by repeat (first | (with_reducible first | exact HB.out | apply below_alloc | apply pw_below_drewN | apply below_drew1) | exact HB.out)))); (case aL => have := LMc12.out; omega); intro v153 w20 ho hb hg hat; rw [← Ny152.out] at ho; have n0_ := Aside0.mk (Kd.V_afterv (ok := (fun k_ => (P0_ k_ ∨ w.heap.size ≤ k_))) (by (with_reducible repeat (first | apply Kd.V_alloc | apply Kd.V_drewN | apply Kd.V_drew)); exact HO_6.out) hg hat); have n1_ := Aside0.mk (Kd.V_afterv (ok := (fun k_ => (P0_ k_ ∨ w.heap.size ≤ k_))) (by (with_reducible repeat (first | apply Kd.V_alloc | apply Kd.V_drewN | apply Kd.V_drew)); exact HO150.out) hg hat); have n2_ := Aside0.mk (hb); have n3_ := Aside0.mk (ho); clear HO_6; clear HO150; clear HB; clear HO_4; have HO_6 := n0_; have HO150 := n1_; have HB := n2_; have HO154 := n3_; clear n0_ n1_ n2_ n3_; clear ho hb hg hat; have q21 : (8 : Int) ≤ ((y141.length : Int) : Int) := of_decide_eq_true (by first | (with_reducible assumption) | assumption); obtain ⟨i021, hi021, _, hsz21, _⟩ := info_parts info5; have hroom21 : y141.length ≤ c7 := (Kd.V_reads' HO_6.out).2.1; have hC21 : Kd.F (Kd.int .u8) _ _ A7 y141.length y141 := (Kd.V_at (base := w.heap.size) HO_6.out).2.2; have hcut21 := cut_from (P := Tryd.prog) 22 5 .i64 Tryd.underlying22 hi021 1 hsz21 A7 y141.length c7 8 (by omega) q21; have hr21 := Kd.F_cut (m := (8 : Int).toNat) (c := c7) hC21 (by omega) hroom21; obtain ⟨A21, hA21⟩ : ∃ A1, A1 = (if c7 = (8 : Int).toNat then A7 else (A7 : Option Addr).map (·.add ((8 : Int).toNat * 1))) := ⟨_, rfl⟩; obtain ⟨c21, hc21⟩ : ∃ c1, c1 = c7 - (8 : Int).toNat := ⟨_, rfl⟩; have hy21 : y155.length = y141.length - (8 : Int).toNat := (by rw [Ny155.out, List.length_drop] <;> omega); rw [show (y141).drop (8 : Int).toNat = y155 from Ny155.out.symm] at hr21; replace hr21 : Kd.F (Kd.int .u8) _ _ A21 y155.length y155 := (by rw [hA21]; exact hr21); rw [← hy21, ← hA21, ← hc21] at hcut21; have HO159 := Aside0.mk (show Kd.V (Kd.int .u8) 5 _ w.heap.size _ (.slice A21 y155.length c21) y155 from Kd.V_mk (by rw [hy21, hc21]; exact Nat.sub_le_sub_right hroom21 _) hr21); have HC159 := Aside0.mk (show y155.length ≤ c21 from by rw [hy21, hc21]; exact Nat.sub_le_sub_right hroom21 _); clear hr21 hC21 hroom21 hi021 hsz21 hc21; have KY21 := Aside0.mk hy21; have KA21 := Aside0.mk hA21; clear hy21 hA21; replace q21 := eq_true q21; obtain ⟨Ao22, co22, eo22⟩ := Kd.R_slice HO154.out; subst eo22)); try go_wp2_with (first | (go_at_call 19; (with_reducible refine (pack_get.calls kj4 _ _ y146 t151 _ ?side1 ?side2 A11.out).mono ?_); (case side1 => repeat (first | exact (Kd.V_reads' HO150.out).2.2 | (with_reducible refine Kd.C_alloc ?_ _) | (with_reducible refine Kd.C_drewN ?_ _) | (with_reducible refine Kd.C_drew ?_))); (case side2 => exact (Kd.V_reads' HO150.out).2.1); rintro e w' ⟨rfl, ⟨nd, rfl⟩⟩; (try first | exact ⟨rfl, _, World.drewN_drewN _ _ _⟩ | exact ⟨rfl, _, Eq.trans (World.drewN_drewN _ _ _) (congrArg (World.drewN _) (Nat.add_assoc _ _ _))⟩)) | ((with_reducible refine gate_builtin (b := .append) (xs := #[.tmp 24, .tmp 30]) rfl ?_); (try (refine gate_guard (by rfl) ?_; dsimp only)); at_builtin; refine Kd.R_append k42 (w0 := w) w.heap.size rfl (.tmp 24) (.tmp 30) 34 42 (.agg #[(.int .i64 0), (.int .i64 0), (.string ⟨#[]⟩)]) 32 rfl Tryd.underlying34 info42 rfl (by decide) (by omega) u4 x4_1 (⟨1, wrap64 (t151), (⟨#[]⟩ : ByteArray)⟩ : S42) [.int .i64 1, .int .i64 (wrap64 (t151)), .string (⟨#[]⟩ : ByteArray)] (fun k_ => (w.heap.size ≤ k_)) (fun _ => False) rfl rfl ?aP (fun _ hk => hk.elim) ?aF ?aO ?aB ?aS ?aL ?_; (case aP => exact k42_mkM _ _ _ (⟨1, wrap64 (t151), (⟨#[]⟩ : ByteArray)⟩ : S42)); (case aB => exact (by repeat (first | (with_reducible first | exact HB.out | apply below_alloc | apply pw_below_drewN | apply below_drew1) | exact HB.out))); (case aF => exact (fun k_ hk => (Nat.le_trans (below_size (by repeat (first | (with_reducible first | exact HB.out | apply below_alloc | apply pw_below_drewN | apply below_drew1) | exact HB.out))) hk))); (case aO => exact (by (with_reducible repeat (first | apply Kd.R_alloc | apply Kd.R_drewN | apply Kd.R_drew)); exact HO_4.out)); (case aS => exact (below_size (by repeat (first | (with_reducible first | exact HB.out | apply below_alloc | apply pw_below_drewN | apply below_drew1) | exact HB.out)))); (case aL => have := LMc12.out; omega); intro v153 w20 ho hb hg hat; rw [← Ny152.out] at ho; have n0_ := Aside0.mk (Kd.V_afterv (ok := (fun k_ => (P0_ k_ ∨ w.heap.size ≤ k_))) (by (with_reducible repeat (first | apply Kd.V_alloc | apply Kd.V_drewN | apply Kd.V_drew)); exact HO_6.out) hg hat); have n1_ := Aside0.mk (Kd.V_afterv (ok := (fun k_ => (P0_ k_ ∨ w.heap.size ≤ k_))) (by (with_reducible repeat (first | apply Kd.V_alloc | apply Kd.V_drewN | apply Kd.V_drew)); exact HO150.out) hg hat); have n2_ := Aside0.mk (hb); have n3_ := Aside0.mk (ho); clear HO_6; clear HO150; clear HB; clear HO_4; have HO_6 := n0_; have HO150 := n1_; have HB := n2_; have HO154 := n3_; clear n0_ n1_ n2_ n3_; clear ho hb hg hat; have q21 : (8 : Int) ≤ ((y141.length : Int) : Int) := of_decide_eq_true (by first | (with_reducible assumption) | assumption); obtain ⟨i021, hi021, _, hsz21, _⟩ := info_parts info5; have hroom21 : y141.length ≤ c7 := (Kd.V_reads' HO_6.out).2.1; have hC21 : Kd.F (Kd.int .u8) _ _ A7 y141.length y141 := (Kd.V_at (base := w.heap.size) HO_6.out).2.2; have hcut21 := cut_from (P := Tryd.prog) 22 5 .i64 Tryd.underlying22 hi021 1 hsz21 A7 y141.length c7 8 (by omega) q21; have hr21 := Kd.F_cut (m := (8 : Int).toNat) (c := c7) hC21 (by omega) hroom21; obtain ⟨A21, hA21⟩ : ∃ A1, A1 = (if c7 = (8 : Int).toNat then A7 else (A7 : Option Addr).map (·.add ((8 : Int).toNat * 1))) := ⟨_, rfl⟩; obtain ⟨c21, hc21⟩ : ∃ c1, c1 = c7 - (8 : Int).toNat := ⟨_, rfl⟩; have hy21 : y155.length = y141.length - (8 : Int).toNat := (by rw [Ny155.out, List.length_drop] <;> omega); rw [show (y141).drop (8 : Int).toNat = y155 from Ny155.out.symm] at hr21; replace hr21 : Kd.F (Kd.int .u8) _ _ A21 y155.length y155 := (by rw [hA21]; exact hr21); rw [← hy21, ← hA21, ← hc21] at hcut21; have HO159 := Aside0.mk (show Kd.V (Kd.int .u8) 5 _ w.heap.size _ (.slice A21 y155.length c21) y155 from Kd.V_mk (by rw [hy21, hc21]; exact Nat.sub_le_sub_right hroom21 _) hr21); have HC159 := Aside0.mk (show y155.length ≤ c21 from by rw [hy21, hc21]; exact Nat.sub_le_sub_right hroom21 _); clear hr21 hC21 hroom21 hi021 hsz21 hc21; have KY21 := Aside0.mk hy21; have KA21 := Aside0.mk hA21; clear hy21 hA21; replace q21 := eq_true q21; obtain ⟨Ao22, co22, eo22⟩ := Kd.R_slice HO154.out; subst eo22)))
                        go_roundg kj4
                        case measure => have := HK1.out; have := HJ4.out; omega
                        case rel => exact ⟨(y155), (y152), H', ⟨by have := HK1.out; have := HJ4.out; omega⟩, ⟨by (with_reducible repeat (first | apply Kd.V_alloc | apply Kd.V_drewN | apply Kd.V_drew)); exact HO159.out⟩, ⟨by (with_reducible repeat (first | apply Kd.R_alloc | apply Kd.R_drewN | apply Kd.R_drew)); exact HO154.out⟩, ⟨by repeat (first | (with_reducible first | exact HB.out | apply below_alloc | apply pw_below_drewN | apply below_drew1) | exact HB.out)⟩⟩
                    · rw [if_neg c12] at H
                      exact absurd H (by simp)
                  · rw [if_neg c10] at H
                    exact absurd H (by simp)
                · replace c9 := Bool.eq_false_iff.mpr c9
                  subst c9
                  have H1 : (if (rd x0_1 0) = 2 then (pack_Decode.j2 kj4 x4_1 y141 (decide ((y141.length : Int) ≥ 2))) else (pack_Decode.j2 kj4 x4_1 y141 false)) = some (r1, r2) := by rw [if_neg (show ¬ (false = true) by decide)] at H; exact H
                  clear H
                  have H := H1
                  clear H1
                  have HC23 := Aside0.mk H
                  clear H
                  go_upto_region 8 with (fail)
                  repeat (go_quiet (fail); go_upto_region 8 with (fail))
                  go_cut [34] (fun v34 wc => ∃ (kq : Nat) (x34_22 : Bool), v34 = .bool x34_22 ∧ Aside0 (pack_Decode.j2 kq x4_1 y141 x34_22 = some (r1, r2)) ∧ Aside0 (kq ≤ kj4) ∧ Aside0 (Kd.R k42 42 wc w.heap.size (fun k_ => (w.heap.size ≤ k_)) u4 x4_1) ∧ Aside0 (Kd.V (Kd.int .u8) 5 wc w.heap.size (fun k_ => (P0_ k_ ∨ w.heap.size ≤ k_) ∧ some k_ ≠ (u4 : Value).ownBlock) (.slice A7 y141.length c7) y141) ∧ Aside0 (Below w.heap.size w wc))
                  case first =>
                    have H := HC23.out
                    clear HC23
                    by_cases c24 : (rd x0_1 0) = 2
                    · rw [if_pos c24] at H
                      have c24b0 : ((rd x0_1 0) == 2) = true := beq_iff_eq.mpr c24
                      have c24b1 : ((rd x0_1 0) != 2) = false := bne_eq_false_iff_eq.mpr c24
                      clear c24
                      (first | rw [c24b0] | (simp only [i64_w, i32_w]; rw [c24b0]) | skip)
                      have H' := Aside0.mk H
                      clear H
                      go_wp2
                      repeat (go_quiet (fail); try go_wp2)
                      go_meet
                      case rel => exact ⟨_, (decide ((y141.length : Int) ≥ 2)), (by first | rfl | (simp; done) | (simp [*]; done)), H', ⟨by have := HK1.out; have := HJ4.out; first | omega | exact Nat.le_refl _⟩, ⟨by (with_reducible repeat (first | apply Kd.R_alloc | apply Kd.R_drewN | apply Kd.R_drew)); exact HO_4.out⟩, ⟨by (with_reducible repeat (first | apply Kd.V_alloc | apply Kd.V_drewN | apply Kd.V_drew)); exact HO_6.out⟩, ⟨by repeat (first | (with_reducible first | exact HB.out | apply below_alloc | apply pw_below_drewN | apply below_drew1) | exact HB.out)⟩⟩
                    · rw [if_neg c24] at H
                      have c24b0 : ((rd x0_1 0) == 2) = false := beq_eq_false_iff_ne.mpr c24
                      have c24b1 : ((rd x0_1 0) != 2) = true := bne_iff_ne.mpr c24
                      (first | rw [c24b0] | (simp only [i64_w, i32_w]; rw [c24b0]) | skip)
                      have H' := Aside0.mk H
                      clear H
                      go_wp2
                      repeat (go_quiet (fail); try go_wp2)
                      go_meet
                      case rel => exact ⟨_, (false), (by first | rfl | (simp; done) | (simp [*]; done)), H', ⟨by have := HK1.out; have := HJ4.out; first | omega | exact Nat.le_refl _⟩, ⟨by (with_reducible repeat (first | apply Kd.R_alloc | apply Kd.R_drewN | apply Kd.R_drew)); exact HO_4.out⟩, ⟨by (with_reducible repeat (first | apply Kd.V_alloc | apply Kd.V_drewN | apply Kd.V_drew)); exact HO_6.out⟩, ⟨by repeat (first | (with_reducible first | exact HB.out | apply below_alloc | apply pw_below_drewN | apply below_drew1) | exact HB.out)⟩⟩
                  case rest =>
                    clear HC23
                    try clear c1
                    try clear p1
                    try clear q1
                    try clear hx1
                    try clear qi1
                    try clear c2
                    try clear c2b0
                    try clear c2b1
                    try clear p2
                    try clear q2
                    try clear c3
                    try clear c3b0
                    try clear c3b1
                    try clear c4
                    try clear c4b0
                    try clear c4b1
                    try clear p6
                    try clear c7
                    try clear q7
                    try clear c8
                    try clear c8b0
                    try clear c8b1
                    try clear c9
                    try clear c10
                    try clear c10b0
                    try clear c10b1
                    try clear c12
                    try clear c13
                    try clear c13b0
                    try clear c14
                    try clear c14b0
                    try clear c14b1
                    try clear p14
                    try clear q14
                    try clear hx14
                    try clear qi14
                    try clear q15
                    try clear c17
                    try clear q17
                    try clear q19
                    try clear c21
                    try clear q21
                    try clear c24
                    try clear c24b0
                    try clear c24b1
                    try clear hx140_0
                    try clear p1
                    try clear p140
                    try clear p2
                    try clear q1
                    try clear q140
                    try clear q15
                    try clear q17
                    try clear q19
                    try clear q21
                    try clear q7
                    obtain ⟨kq, x34_22, rfl, HA, HJ22, HO_4, HO_6, HB⟩ := hcut
                    cases kq with
                    | zero => exact absurd HA.out (by simp [pack_Decode.j2])
                    | succ kj22 =>
                      have H := HA.out
                      clear HA
                      simp only [pack_Decode.j2] at H
                      by_cases c25 : x34_22 = true
                      · subst c25
                        have H1 : (if 2 ≤ (y141.length : Int) then ((pack_get.f kj22 (y141.take 2)).bind fun t165 => (if (wrap64 (t165)) > 50000 then (pack_Decode.j3 kj22 x4_1 y141 (wrap64 (t165)) true) else (pack_Decode.j3 kj22 x4_1 y141 (wrap64 (t165)) (decide ((wrap64 (t165)) > (wrap64 ((y141.length : Int) - 2))))))) else (none)) = some (r1, r2) := by rw [if_pos rfl] at H; exact H
                        clear H
                        have H := H1
                        clear H1
                        by_cases c26 : 2 ≤ (y141.length : Int)
                        · rw [if_pos c26] at H
                          have c26b0 := eq_true c26
                          have c26b1 : decide (2 ≤ (y141.length : Int)) = true := decide_eq_true c26
                          clear c26
                          obtain ⟨y160, hy160⟩ : ∃ y_ : List Int, y_ = (y141.take 2) := ⟨_, rfl⟩
                          replace H : ((pack_get.f kj22 y160).bind fun t165 => (if (wrap64 (t165)) > 50000 then (pack_Decode.j3 kj22 x4_1 y141 (wrap64 (t165)) true) else (pack_Decode.j3 kj22 x4_1 y141 (wrap64 (t165)) (decide ((wrap64 (t165)) > (wrap64 ((y141.length : Int) - 2))))))) = some (r1, r2) := by first | (rw [hy160]; with_reducible exact H) | (have H2_ := (Option.bind_some _ _).symm.trans H; rw [hy160]; with_reducible exact H2_) | (have H2_ := (Option.bind_some _ _).symm.trans H; with_reducible exact H2_) | with_reducible exact H | (rw [hy160]; exact H) | exact H
                          have Ny160 := Aside0.mk hy160
                          clear hy160
                          replace H := Option.bind_eq_some_iff.mp H
                          obtain ⟨t165, A270, H⟩ := H
                          replace H : (if (wrap64 (t165)) > 50000 then (pack_Decode.j3 kj22 x4_1 y141 (wrap64 (t165)) true) else (pack_Decode.j3 kj22 x4_1 y141 (wrap64 (t165)) (decide ((wrap64 (t165)) > (wrap64 ((y141.length : Int) - 2)))))) = some (r1, r2) := H
                          have A27 := Aside0.mk A270
                          clear A270
                          have HC28 := Aside0.mk H
                          clear H
                          have q29 : (2 : Int) ≤ ((y141.length : Int) : Int) := of_decide_eq_true (by first | (with_reducible assumption) | assumption)
                          obtain ⟨i029, hi029, _, hsz29, _⟩ := info_parts info5
                          have hroom29 : y141.length ≤ c7 := (Kd.V_reads' HO_6.out).2.1
                          have hC29 : Kd.F (Kd.int .u8) _ _ A7 y141.length y141 := (Kd.V_at (base := w.heap.size) HO_6.out).2.2
                          have hcut29 := cut_to (P := Tryd.prog) 22 5 .i64 Tryd.underlying22 hi029 A7 y141.length c7 2 (by omega) q29 hroom29
                          have hr29 := Kd.F_take (m := 2) hC29 (by omega)
                          have hy29 : y160.length = (2 : Int).toNat := (by rw [Ny160.out, List.length_take]; omega)
                          rw [← Ny160.out] at hr29
                          rw [← hy29] at hcut29
                          have HO164 := Aside0.mk (show Kd.V (Kd.int .u8) 5 _ w.heap.size _ (.slice A7 y160.length c7) y160 from Kd.V_mk (by omega) hr29)
                          have HC164 := Aside0.mk (show y160.length ≤ c7 from by omega)
                          clear hr29 hC29 hroom29 hi029 hsz29
                          have KY29 := Aside0.mk hy29
                          clear hy29
                          replace q29 := eq_true q29
                          go_upto_region 10 with (first | (go_at_call 19; (with_reducible refine (pack_get.calls kj22 _ _ y160 t165 _ ?side1 ?side2 A27.out).mono ?_); (case side1 => repeat (first | exact (Kd.V_reads' HO164.out).2.2 | (with_reducible refine Kd.C_alloc ?_ _) | (with_reducible refine Kd.C_drewN ?_ _) | (with_reducible refine Kd.C_drew ?_))); (case side2 => exact (Kd.V_reads' HO164.out).2.1); rintro e w' ⟨rfl, ⟨nd, rfl⟩⟩; (try first | exact ⟨rfl, _, World.drewN_drewN _ _ _⟩ | exact ⟨rfl, _, Eq.trans (World.drewN_drewN _ _ _) (congrArg (World.drewN _) (Nat.add_assoc _ _ _))⟩)))
                          repeat (go_quiet (first | (go_at_call 19; (with_reducible refine (pack_get.calls kj22 _ _ y160 t165 _ ?side1 ?side2 A27.out).mono ?_); (case side1 => repeat (first | exact (Kd.V_reads' HO164.out).2.2 | (with_reducible refine Kd.C_alloc ?_ _) | (with_reducible refine Kd.C_drewN ?_ _) | (with_reducible refine Kd.C_drew ?_))); (case side2 => exact (Kd.V_reads' HO164.out).2.1); rintro e w' ⟨rfl, ⟨nd, rfl⟩⟩; (try first | exact ⟨rfl, _, World.drewN_drewN _ _ _⟩ | exact ⟨rfl, _, Eq.trans (World.drewN_drewN _ _ _) (congrArg (World.drewN _) (Nat.add_assoc _ _ _))⟩))); go_upto_region 10 with (first | (go_at_call 19; (with_reducible refine (pack_get.calls kj22 _ _ y160 t165 _ ?side1 ?side2 A27.out).mono ?_); (case side1 => repeat (first | exact (Kd.V_reads' HO164.out).2.2 | (with_reducible refine Kd.C_alloc ?_ _) | (with_reducible refine Kd.C_drewN ?_ _) | (with_reducible refine Kd.C_drew ?_))); (case side2 => exact (Kd.V_reads' HO164.out).2.1); rintro e w' ⟨rfl, ⟨nd, rfl⟩⟩; (try first | exact ⟨rfl, _, World.drewN_drewN _ _ _⟩ | exact ⟨rfl, _, Eq.trans (World.drewN_drewN _ _ _) (congrArg (World.drewN _) (Nat.add_assoc _ _ _))⟩))))
                          (try simp only [Act.put, List.setIfInBounds_toArray, List.set_cons_zero, List.set_cons_succ])
                          go_cut [54] (fun v54 wc => ∃ (kq : Nat) (x54_27 : Bool), v54 = .bool x54_27 ∧ Aside0 (pack_Decode.j3 kq x4_1 y141 (wrap64 (t165)) x54_27 = some (r1, r2)) ∧ Aside0 (kq ≤ kj22) ∧ Aside0 (Kd.R k42 42 wc w.heap.size (fun k_ => (w.heap.size ≤ k_)) u4 x4_1) ∧ Aside0 (Kd.V (Kd.int .u8) 5 wc w.heap.size (fun k_ => (P0_ k_ ∨ w.heap.size ≤ k_) ∧ some k_ ≠ (u4 : Value).ownBlock) (.slice A7 y141.length c7) y141) ∧ Aside0 (Below w.heap.size w wc))
                          case first =>
                            have H := HC28.out
                            clear HC28
                            by_cases c30 : (wrap64 (t165)) > 50000
                            · rw [if_pos c30] at H
                              have c30b0 : decide (50000 < (wrap64 (t165))) = true := decide_eq_true c30
                              clear c30
                              (first | rw [c30b0] | (simp only [i64_w, i32_w]; rw [c30b0]) | skip)
                              have H' := Aside0.mk H
                              clear H
                              go_wp2
                              repeat (go_quiet (fail); try go_wp2)
                              go_meet
                              case rel => exact ⟨_, (true), (by first | rfl | (simp; done) | (simp [*]; done)), H', ⟨by have := HK1.out; have := HJ4.out; have := HJ22.out; first | omega | exact Nat.le_refl _⟩, ⟨by (with_reducible repeat (first | apply Kd.R_alloc | apply Kd.R_drewN | apply Kd.R_drew)); exact HO_4.out⟩, ⟨by (with_reducible repeat (first | apply Kd.V_alloc | apply Kd.V_drewN | apply Kd.V_drew)); exact HO_6.out⟩, ⟨by repeat (first | (with_reducible first | exact HB.out | apply below_alloc | apply pw_below_drewN | apply below_drew1) | exact HB.out)⟩⟩
                            · rw [if_neg c30] at H
                              have c30b0 : decide (50000 < (wrap64 (t165))) = false := decide_eq_false c30
                              clear c30
                              (first | rw [c30b0] | (simp only [i64_w, i32_w]; rw [c30b0]) | skip)
                              have H' := Aside0.mk H
                              clear H
                              go_wp2
                              repeat (go_quiet (fail); try go_wp2)
                              go_meet
                              case rel => exact ⟨_, (decide ((wrap64 (t165)) > (wrap64 ((y141.length : Int) - 2)))), (by first | rfl | (simp; done) | (simp [*]; done)), H', ⟨by have := HK1.out; have := HJ4.out; have := HJ22.out; first | omega | exact Nat.le_refl _⟩, ⟨by (with_reducible repeat (first | apply Kd.R_alloc | apply Kd.R_drewN | apply Kd.R_drew)); exact HO_4.out⟩, ⟨by (with_reducible repeat (first | apply Kd.V_alloc | apply Kd.V_drewN | apply Kd.V_drew)); exact HO_6.out⟩, ⟨by repeat (first | (with_reducible first | exact HB.out | apply below_alloc | apply pw_below_drewN | apply below_drew1) | exact HB.out)⟩⟩
                          case rest =>
                            clear HC28
                            try clear c1
                            try clear p1
                            try clear q1
                            try clear hx1
                            try clear qi1
                            try clear c2
                            try clear c2b0
                            try clear c2b1
                            try clear p2
                            try clear q2
                            try clear c3
                            try clear c3b0
                            try clear c3b1
                            try clear c4
                            try clear c4b0
                            try clear c4b1
                            try clear p6
                            try clear c7
                            try clear q7
                            try clear c8
                            try clear c8b0
                            try clear c8b1
                            try clear c9
                            try clear c10
                            try clear c10b0
                            try clear c10b1
                            try clear c12
                            try clear c13
                            try clear c13b0
                            try clear c14
                            try clear c14b0
                            try clear c14b1
                            try clear p14
                            try clear q14
                            try clear hx14
                            try clear qi14
                            try clear q15
                            try clear c17
                            try clear q17
                            try clear q19
                            try clear c21
                            try clear q21
                            try clear c24
                            try clear c24b0
                            try clear c24b1
                            try clear c25
                            try clear c26
                            try clear c26b0
                            try clear c26b1
                            try clear q29
                            try clear c30
                            try clear c30b0
                            try clear hx140_0
                            try clear p1
                            try clear p14
                            try clear p140
                            try clear p2
                            try clear p6
                            try clear q1
                            try clear q14
                            try clear q140
                            try clear q15
                            try clear q17
                            try clear q19
                            try clear q2
                            try clear q21
                            try clear q29
                            try clear q7
                            obtain ⟨kq, x54_27, rfl, HA, HJ27, HO_4, HO_6, HB⟩ := hcut
                            cases kq with
                            | zero => exact absurd HA.out (by simp [pack_Decode.j3])
                            | succ kj27 =>
                              have H := HA.out
                              clear HA
                              simp only [pack_Decode.j3] at H
                              by_cases c31 : x54_27 = true
                              · subst c31
                                have H1 : (some (([] : List (S42)), 2)) = some (r1, r2) := by rw [if_pos rfl] at H; exact H
                                clear H
                                have H := H1
                                clear H1
                                simp only [Option.some.injEq, Prod.mk.injEq] at H
                                obtain ⟨rfl, rfl⟩ := H
                                go_wp2
                                repeat (go_quiet (fail); try go_wp2)
                                go_ret2
                                exact ⟨_, by first | rfl | (simp [errW_none, errW_some] <;> rfl) | (simp [*, errW_none, errW_some] <;> rfl), by first | exact Kd.R_nil _ _ _ _ _ | exact Kd.N_nil _ _ _ _ _ | exact Kd.V_nil _ _ _ _ _ | exact Kd.Q_nil _ _ _ _ _ | exact Kd.S_nil _ _ _ _ _, by repeat (first | (with_reducible first | exact HB.out | apply below_alloc | apply pw_below_drewN | apply below_drew1) | exact HB.out)⟩
                              · replace c31 := Bool.eq_false_iff.mpr c31
                                subst c31
                                have H1 : (if 2 ≤ (wrap64 (2 + (wrap64 (t165)))) then (if (wrap64 (2 + (wrap64 (t165)))) ≤ (y141.length : Int) then (if x4_1.length < 4398046511104 then ((some (x4_1 ++ [(⟨2, 0, strOfNums ((y141.take ((wrap64 (2 + (wrap64 (t165)))) : Int).toNat).drop 2)⟩ : S42)] : List (S42))).bind fun y171 => (if 0 ≤ (wrap64 (2 + (wrap64 (t165)))) then (if (y171.length : Int) > 4000 then (some (([] : List (S42)), 2)) else (pack_Decode.l0 kj27 (y141.drop ((wrap64 (2 + (wrap64 (t165)))) : Int).toNat) y171)) else (none))) else (none)) else (none)) else (none)) = some (r1, r2) := by rw [if_neg (show ¬ (false = true) by decide)] at H; exact H
                                clear H
                                have H := H1
                                clear H1
                                by_cases c32 : 2 ≤ (wrap64 (2 + (wrap64 (t165))))
                                · rw [if_pos c32] at H
                                  have c32b0 := eq_true c32
                                  have c32b1 : decide (2 ≤ (wrap64 (2 + (wrap64 (t165))))) = true := decide_eq_true c32
                                  by_cases c33 : (wrap64 (2 + (wrap64 (t165)))) ≤ (y141.length : Int)
                                  · rw [if_pos c33] at H
                                    have c33b0 := eq_true c33
                                    have c33b1 : decide ((wrap64 (2 + (wrap64 (t165)))) ≤ (y141.length : Int)) = true := decide_eq_true c33
                                    obtain ⟨y166, hy166⟩ : ∃ y_ : List Int, y_ = ((y141.take ((wrap64 (2 + (wrap64 (t165)))) : Int).toNat).drop 2) := ⟨_, rfl⟩
                                    replace H : (if x4_1.length < 4398046511104 then ((some (x4_1 ++ [(⟨2, 0, strOfNums y166⟩ : S42)] : List (S42))).bind fun y171 => (if 0 ≤ (wrap64 (2 + (wrap64 (t165)))) then (if (y171.length : Int) > 4000 then (some (([] : List (S42)), 2)) else (pack_Decode.l0 kj27 (y141.drop ((wrap64 (2 + (wrap64 (t165)))) : Int).toNat) y171)) else (none))) else (none)) = some (r1, r2) := by first | (rw [hy166]; with_reducible exact H) | (have H2_ := (Option.bind_some _ _).symm.trans H; rw [hy166]; with_reducible exact H2_) | (have H2_ := (Option.bind_some _ _).symm.trans H; with_reducible exact H2_) | with_reducible exact H | (rw [hy166]; exact H) | exact H
                                    have Ny166 := Aside0.mk hy166
                                    clear hy166
                                    by_cases c34 : x4_1.length < 4398046511104
                                    · rw [if_pos c34] at H
                                      have LMc34 := Aside0.mk c34
                                      clear c34
                                      obtain ⟨y171, hy171⟩ : ∃ y_ : List (S42), y_ = (x4_1 ++ [(⟨2, 0, strOfNums y166⟩ : S42)]) := ⟨_, rfl⟩
                                      replace H : (if 0 ≤ (wrap64 (2 + (wrap64 (t165)))) then (if (y171.length : Int) > 4000 then (some (([] : List (S42)), 2)) else (pack_Decode.l0 kj27 (y141.drop ((wrap64 (2 + (wrap64 (t165)))) : Int).toNat) y171)) else (none)) = some (r1, r2) := by first | (rw [hy171]; with_reducible exact H) | (have H2_ := (Option.bind_some _ _).symm.trans H; rw [hy171]; with_reducible exact H2_) | (have H2_ := (Option.bind_some _ _).symm.trans H; with_reducible exact H2_) | with_reducible exact H | (rw [hy171]; exact H) | exact H
                                      have Ny171 := Aside0.mk hy171
                                      clear hy171
                                      obtain ⟨ji35, hji35⟩ : ∃ j_ : Int, (wrap64 (2 + (wrap64 (t165)))) = j_ := ⟨_, rfl⟩
                                      replace H : (if 0 ≤ (ji35) then (if (y171.length : Int) > 4000 then (some (([] : List (S42)), 2)) else (pack_Decode.l0 kj27 (y141.drop ((ji35) : Int).toNat) y171)) else (none)) = some (r1, r2) := by first | (rw [hji35] at H; exact H) | (simp only [hji35] at H ⊢; exact H)
                                      (try rw [hji35] at c32b0)
                                      (try rw [hji35] at c32b1)
                                      (try rw [hji35] at c32)
                                      (try rw [hji35] at c33b0)
                                      (try rw [hji35] at c33b1)
                                      (try rw [hji35] at c33)
                                      (try rw [hji35] at Ny166)
                                      (try rw [hji35] at Ny166)
                                      have hji35w : (IntKind.i64.wrap (2 + (wrap64 (t165)))) = ji35 := (i64_w _).trans hji35
                                      by_cases c36 : 0 ≤ (ji35)
                                      · rw [if_pos c36] at H
                                        have c36b0 := eq_true c36
                                        have c36b1 : decide (0 ≤ (ji35)) = true := decide_eq_true c36
                                        clear c36
                                        have c37b0 := eq_true (of_decide_eq_true (by first | (with_reducible assumption) | assumption) : (ji35) ≤ (y141.length : Int))
                                        obtain ⟨y174, hy174⟩ : ∃ y_ : List Int, y_ = (y141.drop ((ji35) : Int).toNat) := ⟨_, rfl⟩
                                        replace H : (if (y171.length : Int) > 4000 then (some (([] : List (S42)), 2)) else (pack_Decode.l0 kj27 y174 y171)) = some (r1, r2) := by first | (rw [hy174]; with_reducible exact H) | (have H2_ := (Option.bind_some _ _).symm.trans H; rw [hy174]; with_reducible exact H2_) | (have H2_ := (Option.bind_some _ _).symm.trans H; with_reducible exact H2_) | with_reducible exact H | (rw [hy174]; exact H) | exact H
                                        have Ny174 := Aside0.mk hy174
                                        clear hy174
                                        by_cases c38 : (y171.length : Int) > 4000
                                        · rw [if_pos c38] at H
                                          have c38b0 : decide (4000 < (y171.length : Int)) = true := decide_eq_true c38
                                          have c38b1 : decide (4000 < y171.length) = true := decide_eq_true (by omega)
                                          clear c38
                                          simp only [Option.some.injEq, Prod.mk.injEq] at H
                                          obtain ⟨rfl, rfl⟩ := H
                                          have q39 : ((ji35) : Int) ≤ ((y141.length : Int) : Int) := of_decide_eq_true (by first | (with_reducible assumption) | assumption)
                                          obtain ⟨i039, hi039, _, hsz39, _⟩ := info_parts info5
                                          have hroom39 : y141.length ≤ c7 := (Kd.V_reads' HO_6.out).2.1
                                          have hC39 : Kd.F (Kd.int .u8) _ _ A7 y141.length y141 := (Kd.V_at (base := w.heap.size) HO_6.out).2.2
                                          have ql39 : (2 : Int) ≤ ((ji35) : Int) := of_decide_eq_true (by first | (with_reducible assumption) | assumption)
                                          have hcut39 := cut_mid (P := Tryd.prog) 22 5 .i64 .i64 Tryd.underlying22 hi039 1 hsz39 A7 y141.length c7 2 (ji35) (by omega) ql39 q39 hroom39
                                          have hr39 := Kd.F_mid (lo := (2 : Int).toNat) (hi := ((ji35) : Int).toNat) (c := c7) hC39 (by omega) (by omega) hroom39
                                          obtain ⟨A39, hA39⟩ : ∃ A1, A1 = (if c7 = (2 : Int).toNat then A7 else (A7 : Option Addr).map (·.add ((2 : Int).toNat * 1))) := ⟨_, rfl⟩
                                          obtain ⟨c39, hc39⟩ : ∃ c1, c1 = c7 - (2 : Int).toNat := ⟨_, rfl⟩
                                          have hy39 : y166.length = ((ji35) : Int).toNat - (2 : Int).toNat := (by rw [Ny166.out, List.length_drop, List.length_take] <;> omega)
                                          rw [show ((y141).take ((ji35) : Int).toNat).drop (2 : Int).toNat = y166 from Ny166.out.symm] at hr39
                                          replace hr39 : Kd.F (Kd.int .u8) _ _ A39 y166.length y166 := (by rw [hA39]; exact hr39)
                                          rw [← hy39, ← hA39, ← hc39] at hcut39
                                          have HO170 := Aside0.mk (show Kd.V (Kd.int .u8) 5 _ w.heap.size _ (.slice A39 y166.length c39) y166 from Kd.V_mk (by rw [hy39, hc39]; exact Nat.sub_le_sub_right (Nat.le_trans (by omega) hroom39) _) hr39)
                                          have HC170 := Aside0.mk (show y166.length ≤ c39 from by rw [hy39, hc39]; exact Nat.sub_le_sub_right (Nat.le_trans (by omega) hroom39) _)
                                          clear hr39 hC39 hroom39 hi039 hsz39 hc39
                                          have KY39 := Aside0.mk hy39
                                          have KA39 := Aside0.mk hA39
                                          clear hy39 hA39
                                          replace q39 := eq_true q39
                                          have hcv40 := fun c_ => Kd.C_string (c := c_) (P := Tryd.prog) Tryd.underlying22 Tryd.underlying5 Tryd.underlying9 (Kd.V_reads' HO170.out).2.2
                                          go_wp2_with (first | ((with_reducible refine gate_builtin (b := .append) (xs := #[.tmp 55, .tmp 62]) rfl ?_); (try (refine gate_guard (by rfl) ?_; dsimp only)); at_builtin; refine Kd.R_append k42 (w0 := w) w.heap.size rfl (.tmp 55) (.tmp 62) 34 42 (.agg #[(.int .i64 0), (.int .i64 0), (.string ⟨#[]⟩)]) 32 rfl Tryd.underlying34 info42 rfl (by decide) (by omega) u4 x4_1 (⟨2, 0, strOfNums y166⟩ : S42) [.int .i64 2, .int .i64 0, .string (strOfNums y166)] (fun k_ => (w.heap.size ≤ k_)) (fun _ => False) rfl rfl ?aP (fun _ hk => hk.elim) ?aF ?aO ?aB ?aS ?aL ?_; (case aP => exact k42_mkM _ _ _ (⟨2, 0, strOfNums y166⟩ : S42)); (case aB => exact (by repeat (first | (with_reducible first | exact HB.out | apply below_alloc | apply pw_below_drewN | apply below_drew1) | exact HB.out))); (case aF => exact (fun k_ hk => (Nat.le_trans (below_size (by repeat (first | (with_reducible first | exact HB.out | apply below_alloc | apply pw_below_drewN | apply below_drew1) | exact HB.out))) hk))); (case aO => exact (by (with_reducible repeat (first | apply Kd.R_alloc | apply Kd.R_drewN | apply Kd.R_drew)); exact HO_4.out)); (case aS => exact (below_size (by repeat (first | (with_reducible first | exact HB.out | apply below_alloc | apply pw_below_drewN | apply below_drew1) | exact HB.out)))); (case aL => have := LMc34.out; omega); intro v172 w41 ho hb hg hat; rw [← Ny171.out] at ho; have n0_ := Aside0.mk (Kd.V_afterv (ok := (fun k_ => (P0_ k_ ∨ w.heap.size ≤ k_))) (by (with_reducible repeat (first | apply Kd.V_alloc | apply Kd.V_drewN | apply Kd.V_drew)); exact HO_6.out) hg hat); have n1_ := Aside0.mk (Kd.V_afterv (ok := (fun k_ => (P0_ k_ ∨ w.heap.size ≤ k_))) (by (with_reducible repeat (first | apply Kd.V_alloc | apply Kd.V_drewN | apply Kd.V_drew)); exact HO170.out) hg hat); have n2_ := Aside0.mk (hb); have n3_ := Aside0.mk (ho); clear HO_6; clear HO170; clear HB; clear HO_4; have HO_6 := n0_; have HO170 := n1_; have HB := n2_; have HO173 := n3_; clear n0_ n1_ n2_ n3_; clear ho hb hg hat; have q42 : ((ji35) : Int) ≤ ((y141.length : Int) : Int) := of_decide_eq_true (by first | (with_reducible assumption) | assumption); obtain ⟨i042, hi042, _, hsz42, _⟩ := info_parts info5; have hroom42 : y141.length ≤ c7 := (Kd.V_reads' HO_6.out).2.1; have hC42 : Kd.F (Kd.int .u8) _ _ A7 y141.length y141 := (Kd.V_at (base := w.heap.size) HO_6.out).2.2; have q042 : (0 : Int) ≤ ((ji35) : Int) := of_decide_eq_true (by first | (with_reducible assumption) | assumption); have hcut42 := cut_from (P := Tryd.prog) 22 5 .i64 Tryd.underlying22 hi042 1 hsz42 A7 y141.length c7 (ji35) q042 q42; have hr42 := Kd.F_cut (m := ((ji35) : Int).toNat) (c := c7) hC42 (by omega) hroom42; obtain ⟨A42, hA42⟩ : ∃ A1, A1 = (if c7 = ((ji35) : Int).toNat then A7 else (A7 : Option Addr).map (·.add (((ji35) : Int).toNat * 1))) := ⟨_, rfl⟩; obtain ⟨c42, hc42⟩ : ∃ c1, c1 = c7 - ((ji35) : Int).toNat := ⟨_, rfl⟩; have hy42 : y174.length = y141.length - ((ji35) : Int).toNat := (by rw [Ny174.out, List.length_drop] <;> omega); rw [show (y141).drop ((ji35) : Int).toNat = y174 from Ny174.out.symm] at hr42; replace hr42 : Kd.F (Kd.int .u8) _ _ A42 y174.length y174 := (by rw [hA42]; exact hr42); rw [← hy42, ← hA42, ← hc42] at hcut42; have HO178 := Aside0.mk (show Kd.V (Kd.int .u8) 5 _ w.heap.size _ (.slice A42 y174.length c42) y174 from Kd.V_mk (by rw [hy42, hc42]; exact Nat.sub_le_sub_right hroom42 _) hr42); have HC178 := Aside0.mk (show y174.length ≤ c42 from by rw [hy42, hc42]; exact Nat.sub_le_sub_right hroom42 _); clear hr42 hC42 hroom42 hi042 hsz42 hc42; have KY42 := Aside0.mk hy42; have KA42 := Aside0.mk hA42; clear hy42 hA42; replace q42 := eq_true q42; obtain ⟨Ao43, co43, eo43⟩ := Kd.R_slice HO173.out; subst eo43))
                                          repeat (go_quiet (first | ((with_reducible refine gate_builtin (b := .append) (xs := #[.tmp 55, .tmp 62]) rfl ?_); (try (refine gate_guard (by rfl) ?_; dsimp only)); at_builtin; refine Kd.R_append k42 (w0 := w) w.heap.size rfl (.tmp 55) (.tmp 62) 34 42 (.agg #[(.int .i64 0), (.int .i64 0), (.string ⟨#[]⟩)]) 32 rfl Tryd.underlying34 info42 rfl (by decide) (by omega) u4 x4_1 (⟨2, 0, strOfNums y166⟩ : S42) [.int .i64 2, .int .i64 0, .string (strOfNums y166)] (fun k_ => (w.heap.size ≤ k_)) (fun _ => False) rfl rfl ?aP (fun _ hk => hk.elim) ?aF ?aO ?aB ?aS ?aL ?_; (case aP => exact k42_mkM _ _ _ (⟨2, 0, strOfNums y166⟩ : S42)); (case aB => exact (by repeat (first | (with_reducible first | exact HB.out | apply below_alloc | apply pw_below_drewN | apply below_drew1) | exact HB.out))); (case aF => exact (fun k_ hk => (Nat.le_trans (below_size (by repeat (first | (with_reducible first | exact HB.out | apply below_alloc | apply pw_below_drewN | apply below_drew1) | exact HB.out))) hk))); (case aO => exact (by (with_reducible repeat (first | apply Kd.R_alloc | apply Kd.R_drewN | apply Kd.R_drew)); exact HO_4.out)); (case aS => exact (below_size (by repeat (first | (with_reducible first | exact HB.out | apply below_alloc | apply pw_below_drewN | apply below_drew1) | exact HB.out)))); (case aL => have := LMc34.out; omega); intro v172 w41 ho hb hg hat; rw [← Ny171.out] at ho; have n0_ := Aside0.mk (Kd.V_afterv (ok := (fun k_ => (P0_ k_ ∨ w.heap.size ≤ k_))) (by (with_reducible repeat (first | apply Kd.V_alloc | apply Kd.V_drewN | apply Kd.V_drew)); exact HO_6.out) hg hat); have n1_ := Aside0.mk (Kd.V_afterv (ok := (fun k_ => (P0_ k_ ∨ w.heap.size ≤ k_))) (by (with_reducible repeat (first | apply Kd.V_alloc | apply Kd.V_drewN | apply Kd.V_drew)); exact HO170.out) hg hat); have n2_ := Aside0.mk (hb); have n3_ := Aside0.mk (ho); clear HO_6; clear HO170; clear HB; clear HO_4; have HO_6 := n0_; have HO170 := n1_; have HB := n2_; have HO173 := n3_; clear n0_ n1_ n2_ n3_; clear ho hb hg hat; have q42 : ((ji35) : Int) ≤ ((y141.length : Int) : Int) := of_decide_eq_true (by first | (with_reducible assumption) | assumption); obtain ⟨i042, hi042, _, hsz42, _⟩ := info_parts info5; have hroom42 : y141.length ≤ c7 := (Kd.V_reads' HO_6.out).2.1; have hC42 : Kd.F (Kd.int .u8) _ _ A7 y141.length y141 := (Kd.V_at (base := w.heap.size) HO_6.out).2.2; have q042 : (0 : Int) ≤ ((ji35) : Int) := of_decide_eq_true (by first | (with_reducible assumption) | assumption); have hcut42 := cut_from (P := Tryd.prog) 22 5 .i64 Tryd.underlying22 hi042 1 hsz42 A7 y141.length c7 (ji35) q042 q42; have hr42 := Kd.F_cut (m := ((ji35) : Int).toNat) (c := c7) hC42 (by omega) hroom42; obtain ⟨A42, hA42⟩ : ∃ A1, A1 = (if c7 = ((ji35) : Int).toNat then A7 else (A7 : Option Addr).map (·.add (((ji35) : Int).toNat * 1))) := ⟨_, rfl⟩; obtain ⟨c42, hc42⟩ : ∃ c1, c1 = c7 - ((ji35) : Int).toNat := ⟨_, rfl⟩; have hy42 : y174.length = y141.length - ((ji35) : Int).toNat := (by rw [Ny174.out, List.length_drop] <;> omega); rw [show (y141).drop ((ji35) : Int).toNat = y174 from Ny174.out.symm] at hr42; replace hr42 : Kd.F (Kd.int .u8) _ _ A42 y174.length y174 := (by rw [hA42]; exact hr42); rw [← hy42, ← hA42, ← hc42] at hcut42; have HO178 := Aside0.mk (show Kd.V (Kd.int .u8) 5 _ w.heap.size _ (.slice A42 y174.length c42) y174 from Kd.V_mk (by rw [hy42, hc42]; exact Nat.sub_le_sub_right hroom42 _) hr42); have HC178 := Aside0.mk (show y174.length ≤ c42 from by rw [hy42, hc42]; exact Nat.sub_le_sub_right hroom42 _); clear hr42 hC42 hroom42 hi042 hsz42 hc42; have KY42 := Aside0.mk hy42; have KA42 := Aside0.mk hA42; clear hy42 hA42; replace q42 := eq_true q42; obtain ⟨Ao43, co43, eo43⟩ := Kd.R_slice HO173.out; subst eo43)); try go_wp2_with (first | ((with_reducible refine gate_builtin (b := .append) (xs := #[.tmp 55, .tmp 62]) rfl ?_); (try (refine gate_guard (by rfl) ?_; dsimp only)); at_builtin; refine Kd.R_append k42 (w0 := w) w.heap.size rfl (.tmp 55) (.tmp 62) 34 42 (.agg #[(.int .i64 0), (.int .i64 0), (.string ⟨#[]⟩)]) 32 rfl Tryd.underlying34 info42 rfl (by decide) (by omega) u4 x4_1 (⟨2, 0, strOfNums y166⟩ : S42) [.int .i64 2, .int .i64 0, .string (strOfNums y166)] (fun k_ => (w.heap.size ≤ k_)) (fun _ => False) rfl rfl ?aP (fun _ hk => hk.elim) ?aF ?aO ?aB ?aS ?aL ?_; (case aP => exact k42_mkM _ _ _ (⟨2, 0, strOfNums y166⟩ : S42)); (case aB => exact (by repeat (first | (with_reducible first | exact HB.out | apply below_alloc | apply pw_below_drewN | apply below_drew1) | exact HB.out))); (case aF => exact (fun k_ hk => (Nat.le_trans (below_size (by repeat (first | (with_reducible first | exact HB.out | apply below_alloc | apply pw_below_drewN | apply below_drew1) | exact HB.out))) hk))); (case aO => exact (by (with_reducible repeat (first | apply Kd.R_alloc | apply Kd.R_drewN | apply Kd.R_drew)); exact HO_4.out)); (case aS => exact (below_size (by repeat (first | (with_reducible first | exact HB.out | apply below_alloc | apply pw_below_drewN | apply below_drew1) | exact HB.out)))); (case aL => have := LMc34.out; omega); intro v172 w41 ho hb hg hat; rw [← Ny171.out] at ho; have n0_ := Aside0.mk (Kd.V_afterv (ok := (fun k_ => (P0_ k_ ∨ w.heap.size ≤ k_))) (by (with_reducible repeat (first | apply Kd.V_alloc | apply Kd.V_drewN | apply Kd.V_drew)); exact HO_6.out) hg hat); have n1_ := Aside0.mk (Kd.V_afterv (ok := (fun k_ => (P0_ k_ ∨ w.heap.size ≤ k_))) (by (with_reducible repeat (first | apply Kd.V_alloc | apply Kd.V_drewN | apply Kd.V_drew)); exact HO170.out) hg hat); have n2_ := Aside0.mk (hb); have n3_ := Aside0.mk (ho); clear HO_6; clear HO170; clear HB; clear HO_4; have HO_6 := n0_; have HO170 := n1_; have HB := n2_; have HO173 := n3_; clear n0_ n1_ n2_ n3_; clear ho hb hg hat; have q42 : ((ji35) : Int) ≤ ((y141.length : Int) : Int) := of_decide_eq_true (by first | (with_reducible assumption) | assumption); obtain ⟨i042, hi042, _, hsz42, _⟩ := info_parts info5; have hroom42 : y141.length ≤ c7 := (Kd.V_reads' HO_6.out).2.1; have hC42 : Kd.F (Kd.int .u8) _ _ A7 y141.length y141 := (Kd.V_at (base := w.heap.size) HO_6.out).2.2; have q042 : (0 : Int) ≤ ((ji35) : Int) := of_decide_eq_true (by first | (with_reducible assumption) | assumption); have hcut42 := cut_from (P := Tryd.prog) 22 5 .i64 Tryd.underlying22 hi042 1 hsz42 A7 y141.length c7 (ji35) q042 q42; have hr42 := Kd.F_cut (m := ((ji35) : Int).toNat) (c := c7) hC42 (by omega) hroom42; obtain ⟨A42, hA42⟩ : ∃ A1, A1 = (if c7 = ((ji35) : Int).toNat then A7 else (A7 : Option Addr).map (·.add (((ji35) : Int).toNat * 1))) := ⟨_, rfl⟩; obtain ⟨c42, hc42⟩ : ∃ c1, c1 = c7 - ((ji35) : Int).toNat := ⟨_, rfl⟩; have hy42 : y174.length = y141.length - ((ji35) : Int).toNat := (by rw [Ny174.out, List.length_drop] <;> omega); rw [show (y141).drop ((ji35) : Int).toNat = y174 from Ny174.out.symm] at hr42; replace hr42 : Kd.F (Kd.int .u8) _ _ A42 y174.length y174 := (by rw [hA42]; exact hr42); rw [← hy42, ← hA42, ← hc42] at hcut42; have HO178 := Aside0.mk (show Kd.V (Kd.int .u8) 5 _ w.heap.size _ (.slice A42 y174.length c42) y174 from Kd.V_mk (by rw [hy42, hc42]; exact Nat.sub_le_sub_right hroom42 _) hr42); have HC178 := Aside0.mk (show y174.length ≤ c42 from by rw [hy42, hc42]; exact Nat.sub_le_sub_right hroom42 _); clear hr42 hC42 hroom42 hi042 hsz42 hc42; have KY42 := Aside0.mk hy42; have KA42 := Aside0.mk hA42; clear hy42 hA42; replace q42 := eq_true q42; obtain ⟨Ao43, co43, eo43⟩ := Kd.R_slice HO173.out; subst eo43)))
                                          go_ret2
                                          exact ⟨_, by first | rfl | (simp [errW_none, errW_some] <;> rfl) | (simp only [← hji35]; first | rfl | (simp [errW_none, errW_some] <;> rfl)) | (simp [*, errW_none, errW_some] <;> rfl), by first | exact Kd.R_nil _ _ _ _ _ | exact Kd.N_nil _ _ _ _ _ | exact Kd.V_nil _ _ _ _ _ | exact Kd.Q_nil _ _ _ _ _ | exact Kd.S_nil _ _ _ _ _, by repeat (first | (with_reducible first | exact HB.out | apply below_alloc | apply pw_below_drewN | apply below_drew1) | exact HB.out)⟩
                                        · rw [if_neg c38] at H
                                          have c38b0 : decide (4000 < (y171.length : Int)) = false := decide_eq_false c38
                                          have c38b1 : decide (4000 < y171.length) = false := decide_eq_false (by omega)
                                          clear c38
                                          have H' := Aside0.mk H
                                          clear H
                                          have q44 : ((ji35) : Int) ≤ ((y141.length : Int) : Int) := of_decide_eq_true (by first | (with_reducible assumption) | assumption)
                                          obtain ⟨i044, hi044, _, hsz44, _⟩ := info_parts info5
                                          have hroom44 : y141.length ≤ c7 := (Kd.V_reads' HO_6.out).2.1
                                          have hC44 : Kd.F (Kd.int .u8) _ _ A7 y141.length y141 := (Kd.V_at (base := w.heap.size) HO_6.out).2.2
                                          have ql44 : (2 : Int) ≤ ((ji35) : Int) := of_decide_eq_true (by first | (with_reducible assumption) | assumption)
                                          have hcut44 := cut_mid (P := Tryd.prog) 22 5 .i64 .i64 Tryd.underlying22 hi044 1 hsz44 A7 y141.length c7 2 (ji35) (by omega) ql44 q44 hroom44
                                          have hr44 := Kd.F_mid (lo := (2 : Int).toNat) (hi := ((ji35) : Int).toNat) (c := c7) hC44 (by omega) (by omega) hroom44
                                          obtain ⟨A44, hA44⟩ : ∃ A1, A1 = (if c7 = (2 : Int).toNat then A7 else (A7 : Option Addr).map (·.add ((2 : Int).toNat * 1))) := ⟨_, rfl⟩
                                          obtain ⟨c44, hc44⟩ : ∃ c1, c1 = c7 - (2 : Int).toNat := ⟨_, rfl⟩
                                          have hy44 : y166.length = ((ji35) : Int).toNat - (2 : Int).toNat := (by rw [Ny166.out, List.length_drop, List.length_take] <;> omega)
                                          rw [show ((y141).take ((ji35) : Int).toNat).drop (2 : Int).toNat = y166 from Ny166.out.symm] at hr44
                                          replace hr44 : Kd.F (Kd.int .u8) _ _ A44 y166.length y166 := (by rw [hA44]; exact hr44)
                                          rw [← hy44, ← hA44, ← hc44] at hcut44
                                          have HO170 := Aside0.mk (show Kd.V (Kd.int .u8) 5 _ w.heap.size _ (.slice A44 y166.length c44) y166 from Kd.V_mk (by rw [hy44, hc44]; exact Nat.sub_le_sub_right (Nat.le_trans (by omega) hroom44) _) hr44)
                                          have HC170 := Aside0.mk (show y166.length ≤ c44 from by rw [hy44, hc44]; exact Nat.sub_le_sub_right (Nat.le_trans (by omega) hroom44) _)
                                          clear hr44 hC44 hroom44 hi044 hsz44 hc44
                                          have KY44 := Aside0.mk hy44
                                          have KA44 := Aside0.mk hA44
                                          clear hy44 hA44
                                          replace q44 := eq_true q44
                                          have hcv45 := fun c_ => Kd.C_string (c := c_) (P := Tryd.prog) Tryd.underlying22 Tryd.underlying5 Tryd.underlying9 (Kd.V_reads' HO170.out).2.2
                                          go_wp2_with (first | ((with_reducible refine gate_builtin (b := .append) (xs := #[.tmp 55, .tmp 62]) rfl ?_); (try (refine gate_guard (by rfl) ?_; dsimp only)); at_builtin; refine Kd.R_append k42 (w0 := w) w.heap.size rfl (.tmp 55) (.tmp 62) 34 42 (.agg #[(.int .i64 0), (.int .i64 0), (.string ⟨#[]⟩)]) 32 rfl Tryd.underlying34 info42 rfl (by decide) (by omega) u4 x4_1 (⟨2, 0, strOfNums y166⟩ : S42) [.int .i64 2, .int .i64 0, .string (strOfNums y166)] (fun k_ => (w.heap.size ≤ k_)) (fun _ => False) rfl rfl ?aP (fun _ hk => hk.elim) ?aF ?aO ?aB ?aS ?aL ?_; (case aP => exact k42_mkM _ _ _ (⟨2, 0, strOfNums y166⟩ : S42)); (case aB => exact (by repeat (first | (with_reducible first | exact HB.out | apply below_alloc | apply pw_below_drewN | apply below_drew1) | exact HB.out))); (case aF => exact (fun k_ hk => (Nat.le_trans (below_size (by repeat (first | (with_reducible first | exact HB.out | apply below_alloc | apply pw_below_drewN | apply below_drew1) | exact HB.out))) hk))); (case aO => exact (by (with_reducible repeat (first | apply Kd.R_alloc | apply Kd.R_drewN | apply Kd.R_drew)); exact HO_4.out)); (case aS => exact (below_size (by repeat (first | (with_reducible first | exact HB.out | apply below_alloc | apply pw_below_drewN | apply below_drew1) | exact HB.out)))); (case aL => have := LMc34.out; omega); intro v172 w46 ho hb hg hat; rw [← Ny171.out] at ho; have n0_ := Aside0.mk (Kd.V_afterv (ok := (fun k_ => (P0_ k_ ∨ w.heap.size ≤ k_))) (by (with_reducible repeat (first | apply Kd.V_alloc | apply Kd.V_drewN | apply Kd.V_drew)); exact HO_6.out) hg hat); have n1_ := Aside0.mk (Kd.V_afterv (ok := (fun k_ => (P0_ k_ ∨ w.heap.size ≤ k_))) (by (with_reducible repeat (first | apply Kd.V_alloc | apply Kd.V_drewN | apply Kd.V_drew)); exact HO170.out) hg hat); have n2_ := Aside0.mk (hb); have n3_ := Aside0.mk (ho); clear HO_6; clear HO170; clear HB; clear HO_4; have HO_6 := n0_; have HO170 := n1_; have HB := n2_; have HO173 := n3_; clear n0_ n1_ n2_ n3_; clear ho hb hg hat; have q47 : ((ji35) : Int) ≤ ((y141.length : Int) : Int) := of_decide_eq_true (by first | (with_reducible assumption) | assumption); obtain ⟨i047, hi047, _, hsz47, _⟩ := info_parts info5; have hroom47 : y141.length ≤ c7 := (Kd.V_reads' HO_6.out).2.1; have hC47 : Kd.F (Kd.int .u8) _ _ A7 y141.length y141 := (Kd.V_at (base := w.heap.size) HO_6.out).2.2; have q047 : (0 : Int) ≤ ((ji35) : Int) := of_decide_eq_true (by first | (with_reducible assumption) | assumption); have hcut47 := cut_from (P := Tryd.prog) 22 5 .i64 Tryd.underlying22 hi047 1 hsz47 A7 y141.length c7 (ji35) q047 q47; have hr47 := Kd.F_cut (m := ((ji35) : Int).toNat) (c := c7) hC47 (by omega) hroom47; obtain ⟨A47, hA47⟩ : ∃ A1, A1 = (if c7 = ((ji35) : Int).toNat then A7 else (A7 : Option Addr).map (·.add (((ji35) : Int).toNat * 1))) := ⟨_, rfl⟩; obtain ⟨c47, hc47⟩ : ∃ c1, c1 = c7 - ((ji35) : Int).toNat := ⟨_, rfl⟩; have hy47 : y174.length = y141.length - ((ji35) : Int).toNat := (by rw [Ny174.out, List.length_drop] <;> omega); rw [show (y141).drop ((ji35) : Int).toNat = y174 from Ny174.out.symm] at hr47; replace hr47 : Kd.F (Kd.int .u8) _ _ A47 y174.length y174 := (by rw [hA47]; exact hr47); rw [← hy47, ← hA47, ← hc47] at hcut47; have HO178 := Aside0.mk (show Kd.V (Kd.int .u8) 5 _ w.heap.size _ (.slice A47 y174.length c47) y174 from Kd.V_mk (by rw [hy47, hc47]; exact Nat.sub_le_sub_right hroom47 _) hr47); have HC178 := Aside0.mk (show y174.length ≤ c47 from by rw [hy47, hc47]; exact Nat.sub_le_sub_right hroom47 _); clear hr47 hC47 hroom47 hi047 hsz47 hc47; have KY47 := Aside0.mk hy47; have KA47 := Aside0.mk hA47; clear hy47 hA47; replace q47 := eq_true q47; obtain ⟨Ao48, co48, eo48⟩ := Kd.R_slice HO173.out; subst eo48))
                                          repeat (go_quiet (first | ((with_reducible refine gate_builtin (b := .append) (xs := #[.tmp 55, .tmp 62]) rfl ?_); (try (refine gate_guard (by rfl) ?_; dsimp only)); at_builtin; refine Kd.R_append k42 (w0 := w) w.heap.size rfl (.tmp 55) (.tmp 62) 34 42 (.agg #[(.int .i64 0), (.int .i64 0), (.string ⟨#[]⟩)]) 32 rfl Tryd.underlying34 info42 rfl (by decide) (by omega) u4 x4_1 (⟨2, 0, strOfNums y166⟩ : S42) [.int .i64 2, .int .i64 0, .string (strOfNums y166)] (fun k_ => (w.heap.size ≤ k_)) (fun _ => False) rfl rfl ?aP (fun _ hk => hk.elim) ?aF ?aO ?aB ?aS ?aL ?_; (case aP => exact k42_mkM _ _ _ (⟨2, 0, strOfNums y166⟩ : S42)); (case aB => exact (by repeat (first | (with_reducible first | exact HB.out | apply below_alloc | apply pw_below_drewN | apply below_drew1) | exact HB.out))); (case aF => exact (fun k_ hk => (Nat.le_trans (below_size (by repeat (first | (with_reducible first | exact HB.out | apply below_alloc | apply pw_below_drewN | apply below_drew1) | exact HB.out))) hk))); (case aO => exact (by (with_reducible repeat (first | apply Kd.R_alloc | apply Kd.R_drewN | apply Kd.R_drew)); exact HO_4.out)); (case aS => exact (below_size (by repeat (first | (with_reducible first | exact HB.out | apply below_alloc | apply pw_below_drewN | apply below_drew1) | exact HB.out)))); (case aL => have := LMc34.out; omega); intro v172 w46 ho hb hg hat; rw [← Ny171.out] at ho; have n0_ := Aside0.mk (Kd.V_afterv (ok := (fun k_ => (P0_ k_ ∨ w.heap.size ≤ k_))) (by (with_reducible repeat (first | apply Kd.V_alloc | apply Kd.V_drewN | apply Kd.V_drew)); exact HO_6.out) hg hat); have n1_ := Aside0.mk (Kd.V_afterv (ok := (fun k_ => (P0_ k_ ∨ w.heap.size ≤ k_))) (by (with_reducible repeat (first | apply Kd.V_alloc | apply Kd.V_drewN | apply Kd.V_drew)); exact HO170.out) hg hat); have n2_ := Aside0.mk (hb); have n3_ := Aside0.mk (ho); clear HO_6; clear HO170; clear HB; clear HO_4; have HO_6 := n0_; have HO170 := n1_; have HB := n2_; have HO173 := n3_; clear n0_ n1_ n2_ n3_; clear ho hb hg hat; have q47 : ((ji35) : Int) ≤ ((y141.length : Int) : Int) := of_decide_eq_true (by first | (with_reducible assumption) | assumption); obtain ⟨i047, hi047, _, hsz47, _⟩ := info_parts info5; have hroom47 : y141.length ≤ c7 := (Kd.V_reads' HO_6.out).2.1; have hC47 : Kd.F (Kd.int .u8) _ _ A7 y141.length y141 := (Kd.V_at (base := w.heap.size) HO_6.out).2.2; have q047 : (0 : Int) ≤ ((ji35) : Int) := of_decide_eq_true (by first | (with_reducible assumption) | assumption); have hcut47 := cut_from (P := Tryd.prog) 22 5 .i64 Tryd.underlying22 hi047 1 hsz47 A7 y141.length c7 (ji35) q047 q47; have hr47 := Kd.F_cut (m := ((ji35) : Int).toNat) (c := c7) hC47 (by omega) hroom47; obtain ⟨A47, hA47⟩ : ∃ A1, A1 = (if c7 = ((ji35) : Int).toNat then A7 else (A7 : Option Addr).map (·.add (((ji35) : Int).toNat * 1))) := ⟨_, rfl⟩; obtain ⟨c47, hc47⟩ : ∃ c1, c1 = c7 - ((ji35) : Int).toNat := ⟨_, rfl⟩; have hy47 : y174.length = y141.length - ((ji35) : Int).toNat := (by rw [Ny174.out, List.length_drop] <;> omega); rw [show (y141).drop ((ji35) : Int).toNat = y174 from Ny174.out.symm] at hr47; replace hr47 : Kd.F (Kd.int .u8) _ _ A47 y174.length y174 := (by rw [hA47]; exact hr47); rw [← hy47, ← hA47, ← hc47] at hcut47; have HO178 := Aside0.mk (show Kd.V (Kd.int .u8) 5 _ w.heap.size _ (.slice A47 y174.length c47) y174 from Kd.V_mk (by rw [hy47, hc47]; exact Nat.sub_le_sub_right hroom47 _) hr47); have HC178 := Aside0.mk (show y174.length ≤ c47 from by rw [hy47, hc47]; exact Nat.sub_le_sub_right hroom47 _); clear hr47 hC47 hroom47 hi047 hsz47 hc47; have KY47 := Aside0.mk hy47; have KA47 := Aside0.mk hA47; clear hy47 hA47; replace q47 := eq_true q47; obtain ⟨Ao48, co48, eo48⟩ := Kd.R_slice HO173.out; subst eo48)); try go_wp2_with (first | ((with_reducible refine gate_builtin (b := .append) (xs := #[.tmp 55, .tmp 62]) rfl ?_); (try (refine gate_guard (by rfl) ?_; dsimp only)); at_builtin; refine Kd.R_append k42 (w0 := w) w.heap.size rfl (.tmp 55) (.tmp 62) 34 42 (.agg #[(.int .i64 0), (.int .i64 0), (.string ⟨#[]⟩)]) 32 rfl Tryd.underlying34 info42 rfl (by decide) (by omega) u4 x4_1 (⟨2, 0, strOfNums y166⟩ : S42) [.int .i64 2, .int .i64 0, .string (strOfNums y166)] (fun k_ => (w.heap.size ≤ k_)) (fun _ => False) rfl rfl ?aP (fun _ hk => hk.elim) ?aF ?aO ?aB ?aS ?aL ?_; (case aP => exact k42_mkM _ _ _ (⟨2, 0, strOfNums y166⟩ : S42)); (case aB => exact (by repeat (first | (with_reducible first | exact HB.out | apply below_alloc | apply pw_below_drewN | apply below_drew1) | exact HB.out))); (case aF => exact (fun k_ hk => (Nat.le_trans (below_size (by repeat (first | (with_reducible first | exact HB.out | apply below_alloc | apply pw_below_drewN | apply below_drew1) | exact HB.out))) hk))); (case aO => exact (by (with_reducible repeat (first | apply Kd.R_alloc | apply Kd.R_drewN | apply Kd.R_drew)); exact HO_4.out)); (case aS => exact (below_size (by repeat (first | (with_reducible first | exact HB.out | apply below_alloc | apply pw_below_drewN | apply below_drew1) | exact HB.out)))); (case aL => have := LMc34.out; omega); intro v172 w46 ho hb hg hat; rw [← Ny171.out] at ho; have n0_ := Aside0.mk (Kd.V_afterv (ok := (fun k_ => (P0_ k_ ∨ w.heap.size ≤ k_))) (by (with_reducible repeat (first | apply Kd.V_alloc | apply Kd.V_drewN | apply Kd.V_drew)); exact HO_6.out) hg hat); have n1_ := Aside0.mk (Kd.V_afterv (ok := (fun k_ => (P0_ k_ ∨ w.heap.size ≤ k_))) (by (with_reducible repeat (first | apply Kd.V_alloc | apply Kd.V_drewN | apply Kd.V_drew)); exact HO170.out) hg hat); have n2_ := Aside0.mk (hb); have n3_ := Aside0.mk (ho); clear HO_6; clear HO170; clear HB; clear HO_4; have HO_6 := n0_; have HO170 := n1_; have HB := n2_; have HO173 := n3_; clear n0_ n1_ n2_ n3_; clear ho hb hg hat; have q47 : ((ji35) : Int) ≤ ((y141.length : Int) : Int) := of_decide_eq_true (by first | (with_reducible assumption) | assumption); obtain ⟨i047, hi047, _, hsz47, _⟩ := info_parts info5; have hroom47 : y141.length ≤ c7 := (Kd.V_reads' HO_6.out).2.1; have hC47 : Kd.F (Kd.int .u8) _ _ A7 y141.length y141 := (Kd.V_at (base := w.heap.size) HO_6.out).2.2; have q047 : (0 : Int) ≤ ((ji35) : Int) := of_decide_eq_true (by first | (with_reducible assumption) | assumption); have hcut47 := cut_from (P := Tryd.prog) 22 5 .i64 Tryd.underlying22 hi047 1 hsz47 A7 y141.length c7 (ji35) q047 q47; have hr47 := Kd.F_cut (m := ((ji35) : Int).toNat) (c := c7) hC47 (by omega) hroom47; obtain ⟨A47, hA47⟩ : ∃ A1, A1 = (if c7 = ((ji35) : Int).toNat then A7 else (A7 : Option Addr).map (·.add (((ji35) : Int).toNat * 1))) := ⟨_, rfl⟩; obtain ⟨c47, hc47⟩ : ∃ c1, c1 = c7 - ((ji35) : Int).toNat := ⟨_, rfl⟩; have hy47 : y174.length = y141.length - ((ji35) : Int).toNat := (by rw [Ny174.out, List.length_drop] <;> omega); rw [show (y141).drop ((ji35) : Int).toNat = y174 from Ny174.out.symm] at hr47; replace hr47 : Kd.F (Kd.int .u8) _ _ A47 y174.length y174 := (by rw [hA47]; exact hr47); rw [← hy47, ← hA47, ← hc47] at hcut47; have HO178 := Aside0.mk (show Kd.V (Kd.int .u8) 5 _ w.heap.size _ (.slice A47 y174.length c47) y174 from Kd.V_mk (by rw [hy47, hc47]; exact Nat.sub_le_sub_right hroom47 _) hr47); have HC178 := Aside0.mk (show y174.length ≤ c47 from by rw [hy47, hc47]; exact Nat.sub_le_sub_right hroom47 _); clear hr47 hC47 hroom47 hi047 hsz47 hc47; have KY47 := Aside0.mk hy47; have KA47 := Aside0.mk hA47; clear hy47 hA47; replace q47 := eq_true q47; obtain ⟨Ao48, co48, eo48⟩ := Kd.R_slice HO173.out; subst eo48)))
                                          go_roundg kj27
                                          case measure => have := HK1.out; have := HJ4.out; have := HJ22.out; have := HJ27.out; omega
                                          case rel => exact ⟨(y174), (y171), H', ⟨by have := HK1.out; have := HJ4.out; have := HJ22.out; have := HJ27.out; omega⟩, ⟨by (with_reducible repeat (first | apply Kd.V_alloc | apply Kd.V_drewN | apply Kd.V_drew)); exact HO178.out⟩, ⟨by (with_reducible repeat (first | apply Kd.R_alloc | apply Kd.R_drewN | apply Kd.R_drew)); exact HO173.out⟩, ⟨by repeat (first | (with_reducible first | exact HB.out | apply below_alloc | apply pw_below_drewN | apply below_drew1) | exact HB.out)⟩⟩
                                      · rw [if_neg c36] at H
                                        exact absurd H (by simp)
                                    · rw [if_neg c34] at H
                                      exact absurd H (by simp)
                                  · rw [if_neg c33] at H
                                    exact absurd H (by simp)
                                · rw [if_neg c32] at H
                                  exact absurd H (by simp)
                        · rw [if_neg c26] at H
                          exact absurd H (by simp)
                      · replace c25 := Bool.eq_false_iff.mpr c25
                        subst c25
                        have H1 : (some (([] : List (S42)), 2)) = some (r1, r2) := by rw [if_neg (show ¬ (false = true) by decide)] at H; exact H
                        clear H
                        have H := H1
                        clear H1
                        simp only [Option.some.injEq, Prod.mk.injEq] at H
                        obtain ⟨rfl, rfl⟩ := H
                        go_wp2
                        repeat (go_quiet (fail); try go_wp2)
                        go_ret2
                        exact ⟨_, by first | rfl | (simp [errW_none, errW_some] <;> rfl) | (simp [*, errW_none, errW_some] <;> rfl), by first | exact Kd.R_nil _ _ _ _ _ | exact Kd.N_nil _ _ _ _ _ | exact Kd.V_nil _ _ _ _ _ | exact Kd.Q_nil _ _ _ _ _ | exact Kd.S_nil _ _ _ _ _, by repeat (first | (with_reducible first | exact HB.out | apply below_alloc | apply pw_below_drewN | apply below_drew1) | exact HB.out)⟩
          · rw [if_neg c4] at H
            exact absurd H (by simp)
        · rw [if_neg c3] at H
          exact absurd H (by simp)
      · rw [if_neg c2] at H
        have c2b0 : decide (0 < (x0_1.length : Int)) = false := decide_eq_false c2
        have c2b1 : decide (0 < x0_1.length) = false := decide_eq_false (by omega)
        clear c2
        simp only [Option.some.injEq, Prod.mk.injEq] at H
        obtain ⟨rfl, rfl⟩ := H
        obtain ⟨Ao49, co49, eo49⟩ := Kd.V_slice HO_0.out
        subst eo49
        go_wp2
        repeat (go_quiet (fail); try go_wp2)
        go_ret2
        exact ⟨_, by first | rfl | (simp [errW_none, errW_some] <;> rfl) | (simp [*, errW_none, errW_some] <;> rfl), by (with_reducible repeat (first | apply Kd.R_alloc | apply Kd.R_drewN | apply Kd.R_drew)); exact HO_4.out, by repeat (first | (with_reducible first | exact HB.out | apply below_alloc | apply pw_below_drewN | apply below_drew1) | exact HB.out)⟩

end Go.Proofs.YtgjhhbljbnbjkaaDoor.PA
