-- Laid by a program of this work over the seat's translation.
import Derived.Test.YtgjhhbljbnbjkaaDoorPAx0
import Derived.Test.YtgjhhbljbnbjkaaDoorPAx2
namespace Go.Proofs.YtgjhhbljbnbjkaaDoor.PA
open Go.RowKit Go.Proofs.YtgjhhbljbnbjkaaDoorW.PrintWords Go.Proofs.YtgjhhbljbnbjkaaDoorW.PrintLast Go.Proofs.YtgjhhbljbnbjkaaDoorW.PrintMore
attribute [local go_sem] max2_int min2_int max_two min_two max_three min_three max_four min_four   -- for this text's walks alone
set_option linter.unusedVariables false
set_option linter.unusedSimpArgs false

/-! ### pack_put: function 22 -/
def pack_put.l0 : Nat → List Int → Int → Int → Int → Option (List Int)
  | 0, _, _, _, _ => none
  | k + 1, x0, x1, x7, x8 => if x8 < x7 then (if x0.length < 140737488355328 then (pack_put.l0 k (x0 ++ [(x1) % 256]) (x1 / 256) x7 (wrap64 (x8 + 1))) else (none)) else (some x0)
def pack_put.f (k : Nat) (l0 : List Int) (a1 : Int) (a2 : Int) : Option (List Int) := pack_put.l0 k l0 a1 a2 0
theorem pack_put.mono_l : ∀ k, (∀ y0 y1 y2 y3, LeO (pack_put.l0 k y0 y1 y2 y3) (pack_put.l0 (k + 1) y0 y1 y2 y3))
  | 0 => fun _ _ _ _ r h => by simp [pack_put.l0] at h
  | k + 1 => by
    have ih0 := pack_put.mono_l k
    · intro y0 y1 y2 y3
      unfold pack_put.l0
      repeat' first
      | (with_reducible exact ih0 _ _ _ _)
      | (with_reducible exact LeO.refl _)
      | (with_reducible exact LeO.none _)
      | (with_reducible refine LeO.ite ?_ ?_)
      | (with_reducible refine LeO.bind ?_ (fun _ => ?_))
      | exact ih0 _ _ _ _
      | exact LeO.none _
      | refine LeO.ite ?_ ?_
      | refine LeO.bind ?_ (fun _ => ?_)
theorem pack_put.mono : ∀ a0 a1 a2 k, LeO (pack_put.f k a0 a1 a2) (pack_put.f (k + 1) a0 a1 a2) := by
  intro a0 a1 a2 k
  have ih0 := pack_put.mono_l k
  unfold pack_put.f
  repeat' first
      | (with_reducible exact ih0 _ _ _ _)
      | (with_reducible exact LeO.refl _)
      | (with_reducible exact LeO.none _)
      | (with_reducible refine LeO.ite ?_ ?_)
      | (with_reducible refine LeO.bind ?_ (fun _ => ?_))
      | exact ih0 _ _ _ _
      | exact LeO.none _
      | refine LeO.ite ?_ ?_
      | refine LeO.bind ?_ (fun _ => ?_)
set_option maxHeartbeats 8000000 in
set_option maxRecDepth 100000 in
theorem pack_put.calls (k : Nat) (P0_ : Nat → Prop) (u9000_ : Value) (l0 : List Int) (a1 : Int) (a2 : Int) (r : List Int) (w0 w : World) (hB : Below w0.heap.size w0 w) (ho0 : Kd.R (Kd.int .u8) 5 w w0.heap.size P0_ u9000_ l0) (h : pack_put.f k l0 a1 a2 = some r) :
    Calls Tryd.prog 22 #[u9000_, .int .u64 a1, .int .i64 a2] w fun e w' => ∃ v0_ : Value, e = .returned (v0_) ∧ Kd.R (Kd.int .u8) 5 w' w0.heap.size (fun k_ => (P0_ k_ ∨ w.heap.size ≤ k_)) v0_ r ∧ Below w0.heap.size w0 w' ∧ Kept w w' (fun k_ => P0_ k_) := by
  have HO0 := Aside0.mk (show Kd.R (Kd.int .u8) 5 w w0.heap.size (fun k_ => (P0_ k_ ∨ w.heap.size ≤ k_)) u9000_ l0 from Kd.R_mono ho0 (fun k_ hk => (.inl hk)))
  have HK := Aside0.mk (Kept.refl w (fun k_ => P0_ k_))
  have HW0 := Aside0.mk hB.size
  have HB := Aside0.mk hB
  clear hB
  have H : (pack_put.l0 k l0 a1 a2 0) = some r := h
  clear h
  have H' := Aside0.mk H
  clear H
  go_enter Tryd.func22, Tryd.ntmps22
  go_wp2
  go_loopg [0, 1, 8] k (fun kq v0 v1 v8 w' => ∃ (x0_1 : List Int) (x1_1 : Int) (x8_1 : Int), v1 = .int .u64 x1_1 ∧ v8 = .int .i64 x8_1 ∧ Aside0 (pack_put.l0 kq x0_1 x1_1 a2 x8_1 = some r) ∧ Aside0 (kq ≤ k) ∧ Aside0 (Kd.R (Kd.int .u8) 5 w' w0.heap.size (fun k_ => (P0_ k_ ∨ w.heap.size ≤ k_)) v0 x0_1) ∧ Aside0 (Kept w w' (fun k_ => P0_ k_)) ∧ Aside0 (Below w0.heap.size w0 w'))
  case atStart => exact ⟨(l0), (a1), (0), (by first | rfl | (simp; done) | (simp [*]; done)), (by first | rfl | (simp; done) | (simp [*]; done)), H', ⟨Nat.le_refl _⟩, ⟨by (with_reducible repeat (first | apply Kd.R_alloc | apply Kd.R_drewN | apply Kd.R_drew)); exact HO0.out⟩, ⟨by repeat (first | (with_reducible first | exact HK.out | apply Kept.alloc | apply Kept.drewN | apply Kept.drew) | exact HK.out)⟩, ⟨by repeat (first | (with_reducible first | exact HB.out | apply below_alloc | apply pw_below_drewN | apply below_drew1) | exact HB.out)⟩⟩
  case round =>
    clear H'
    try clear c2
    try clear p2
    obtain ⟨x0_1, x1_1, x8_1, rfl, rfl, HA, HK1, HO_0, HK, HB⟩ := hrel
    cases gk with
    | zero => exact absurd HA.out (by simp [pack_put.l0])
    | succ k1 =>
      have H := HA.out
      clear HA
      simp only [pack_put.l0] at H
      by_cases c4 : x8_1 < a2
      · rw [if_pos c4] at H
        have c4b0 : decide (x8_1 < a2) = true := decide_eq_true c4
        clear c4
        by_cases c5 : x0_1.length < 140737488355328
        · rw [if_pos c5] at H
          have LMc5 := Aside0.mk c5
          clear c5
          obtain ⟨y101, hy101⟩ : ∃ y_ : List Int, y_ = (x0_1 ++ [(x1_1) % 256]) := ⟨_, rfl⟩
          replace H : (pack_put.l0 k1 y101 (x1_1 / 256) a2 (wrap64 (x8_1 + 1))) = some r := by first | (rw [hy101]; with_reducible exact H) | (have H2_ := (Option.bind_some _ _).symm.trans H; rw [hy101]; with_reducible exact H2_) | (have H2_ := (Option.bind_some _ _).symm.trans H; with_reducible exact H2_) | with_reducible exact H | (rw [hy101]; exact H) | exact H
          have Ny101 := Aside0.mk hy101
          clear hy101
          have H' := Aside0.mk H
          clear H
          go_wp2_with (first | ((with_reducible refine gate_builtin (b := .append) (xs := #[.tmp 10, .tmp 13]) rfl ?_); at_builtin; refine Kd.R_append (Kd.int .u8) (w0 := w0) w0.heap.size rfl (.tmp 10) (.tmp 13) 22 5 (.int .u8 0) 1 rfl Tryd.underlying22 info5 rfl (by decide) (by omega) u0 x0_1 ((x1_1) % 256) [.int .u8 ((x1_1) % 256)] (fun k_ => (P0_ k_ ∨ w.heap.size ≤ k_)) (fun _ => False) rfl rfl ?aP (fun _ hk => hk.elim) ?aF ?aO ?aB ?aS ?aL ?_; (case aP => exact rfl); (case aB => exact (by repeat (first | (with_reducible first | exact HB.out | apply below_alloc | apply pw_below_drewN | apply below_drew1) | exact HB.out))); (case aF => exact (fun k_ hk => (.inr (Nat.le_trans (by first | exact HK.out.1 | exact (show Kept w _ (fun k_ => P0_ k_) from by repeat (first | (with_reducible first | exact HK.out | apply Kept.alloc | apply Kept.drewN | apply Kept.drew) | exact HK.out)).1) hk)))); (case aO => exact (by (with_reducible repeat (first | apply Kd.R_alloc | apply Kd.R_drewN | apply Kd.R_drew)); exact HO_0.out)); (case aS => exact (below_size (by repeat (first | (with_reducible first | exact HB.out | apply below_alloc | apply pw_below_drewN | apply below_drew1) | exact HB.out)))); (case aL => have := LMc5.out; omega); intro v102 w6 ho hb hg hat; rw [← Ny101.out] at ho; have n0_ := Aside0.mk (hb); have n1_ := Aside0.mk (Kept.of_grown (S := (fun k_ => P0_ k_)) hg (by repeat (first | (with_reducible first | exact HK.out | apply Kept.alloc | apply Kept.drewN | apply Kept.drew) | exact HK.out)) (fun k_ e_ => (HO_0.out.1 k_ e_))); have n2_ := Aside0.mk (ho); clear HB; clear HK; clear HO_0; have HB := n0_; have HK := n1_; have HO103 := n2_; clear n0_ n1_ n2_; clear ho hb hg hat))
          go_roundg k1
          case measure => have := HK1.out; omega
          case rel => exact ⟨(y101), (x1_1 / 256), (wrap64 (x8_1 + 1)), (by first | rfl | (simp; done) | (simp [*]; done)), (by first | rfl | (simp; done) | (simp [*]; done)), H', ⟨by have := HK1.out; omega⟩, ⟨by (with_reducible repeat (first | apply Kd.R_alloc | apply Kd.R_drewN | apply Kd.R_drew)); exact HO103.out⟩, ⟨by repeat (first | (with_reducible first | exact HK.out | apply Kept.alloc | apply Kept.drewN | apply Kept.drew) | exact HK.out)⟩, ⟨by repeat (first | (with_reducible first | exact HB.out | apply below_alloc | apply pw_below_drewN | apply below_drew1) | exact HB.out)⟩⟩
        · rw [if_neg c5] at H
          exact absurd H (by simp)
      · rw [if_neg c4] at H
        have c4b0 : decide (x8_1 < a2) = false := decide_eq_false c4
        clear c4
        obtain rfl := Option.some.inj H
        go_wp2
        go_ret
        exact ⟨_, by first | rfl | (simp [errW_none, errW_some] <;> rfl) | (simp [*, errW_none, errW_some] <;> rfl), by (with_reducible repeat (first | apply Kd.R_alloc | apply Kd.R_drewN | apply Kd.R_drew)); exact HO_0.out, by repeat (first | (with_reducible first | exact HB.out | apply below_alloc | apply pw_below_drewN | apply below_drew1) | exact HB.out), by repeat (first | (with_reducible first | exact HK.out | apply Kept.alloc | apply Kept.drewN | apply Kept.drew) | exact HK.out)⟩

/-! ### pack_Encode: function 15 (by hand) -/
theorem put_tells (n : Nat) (hn : (n : Int) ≤ 1000) : ∀ (d k : Nat) (x : Int) (acc : List Int) (i : Int), 0 ≤ i → i + d = n → d < k → acc.length + d ≤ 140737488355328 →
    pack_put.l0 k acc x n i = some (acc ++ leB x d) := by
  intro d
  induction d with
  | zero =>
    intro k x acc i hi hd hk ha
    obtain ⟨k, rfl⟩ : ∃ m, k = m + 1 := ⟨k - 1, by omega⟩
    simp only [pack_put.l0]
    rw [if_neg (by omega)]
    simp [leB]
  | succ d ih =>
    intro k x acc i hi hd hk ha
    obtain ⟨k, rfl⟩ : ∃ m, k = m + 1 := ⟨k - 1, by omega⟩
    simp only [pack_put.l0]
    rw [if_pos (by omega), if_pos (by omega), show wrap64 (i + 1) = i + 1 by unfold wrap64; omega]
    rw [ih k (x / 256) (acc ++ [x % 256]) (i + 1) (by omega) (by omega) (by omega) (by simp; omega)]
    simp [leB]
theorem put_val (acc : List Int) (x : Int) (n : Nat) (hn : n ≤ 8) (ha : acc.length + n ≤ 140737488355328) : pack_put.f 10 acc x n = some (acc ++ leB x n) := by
  rw [pack_put.f, put_tells n (by omega) n 10 x acc 0 (by omega) (by omega) (by omega) (by omega)]

theorem put_len (acc : List Int) (n : Nat) (h : n ≤ 50000) (ha : acc.length + 2 ≤ 140737488355328) : pack_put.f 10 acc (IntKind.u64.wrap (n : Int)) 2 = some (acc ++ leB (n : Int) 2) := by
  rw [u64_id _ (by omega) (by omega)]
  exact put_val acc (n : Int) 2 (by omega) ha
theorem check_ok {l : List S42} (h : pack_checkV l = 0) : encOk l = true ∧ ∀ x ∈ l, okB x = true := by
  unfold pack_checkV at h
  by_cases h1 : 4000 < (l.length : Int)
  · rw [if_pos h1] at h; cases h
  rw [if_neg h1] at h
  by_cases h2 : l.any longB = true
  · rw [if_pos h2] at h; cases h
  rw [if_neg h2] at h
  by_cases h3 : l.all okB = true
  · refine ⟨?_, fun x hx => List.all_eq_true.1 h3 x hx⟩
    simp only [encOk, Bool.and_eq_true, decide_eq_true_eq, List.all_eq_true, Bool.or_eq_true, beq_iff_eq]
    refine ⟨by omega, fun x hx => ?_⟩
    have ho := List.all_eq_true.1 h3 x hx
    have hl : longB x = false := by
      cases hh : longB x
      · rfl
      · exact absurd (List.any_eq_true.2 ⟨x, hx, hh⟩) h2
    by_cases k1 : x.f0 = 1
    · exact .inl k1
    · right
      by_cases k2 : x.f0 = 2
      · simp only [longB, k2, Bool.and_eq_false_iff, decide_eq_false_iff_not] at hl
        rcases hl with hl | hl
        · cases hl
        · omega
      · rw [okB_3 k1 k2] at ho; cases ho
  · rw [if_neg h3] at h; cases h
theorem kind_ok {x : S42} (h : okB x = true) (h1 : ¬ x.f0 = 1) : x.f0 = 2 := by
  by_cases k2 : x.f0 = 2
  · exact k2
  · rw [okB_3 h1 k2] at h; cases h
def pack_Encode.f (l0 : List (S42)) : Option (List Int × Int) := some (if pack_checkV l0 = 0 then encL l0 else [], pack_checkV l0)
set_option maxHeartbeats 4000000 in
set_option maxRecDepth 100000 in
theorem pack_Encode.calls (A0 : Option Addr) (c0 : Nat) (l0 : List (S42)) (r1 : List Int) (r2 : Int) (w : World) (hr0 : Kd.C k42 w A0 l0.length l0) (hc0 : l0.length ≤ c0) (h : pack_Encode.f l0 = some (r1, r2)) :
    Calls Tryd.prog 15 #[.slice A0 l0.length c0] w fun e w' => ∃ v0_ : Value, e = .returned (.tuple #[v0_, .int .i64 r2]) ∧ Kd.R (Kd.int .u8) 5 w' w.heap.size (fun _ => True) v0_ r1 ∧ Below w.heap.size w w' := by
  simp only [pack_Encode.f, Option.some.injEq, Prod.mk.injEq] at h
  obtain ⟨h1, h2⟩ := h
  have HR := Aside0.mk hr0
  have HC := Aside0.mk hc0
  have H1 := Aside0.mk h1
  have H2 := Aside0.mk h2
  clear h1 h2 hr0 hc0
  go_enter Tryd.func15, Tryd.ntmps15
  go_wp2_with fail
  refine (pack_check.calls A0 c0 l0 _ w HR.out HC.out rfl).mono ?_
  rintro e w1 ⟨rfl, hb⟩
  by_cases h0 : pack_checkV l0 = 0
  · rw [h0]
    have HB0 := Aside0.mk hb
    clear hb
    have hlen : l0.length ≤ 4000 := (encOk_iff (check_ok h0).1).1
    have HK := Aside0.mk (check_ok h0)
    have H0 := Aside0.mk h0
    clear h0
    go_wp2
    go_loopw [5, 7, 15] (fun v5 _ v w' => ∃ i : Int, 0 ≤ i ∧ i ≤ l0.length ∧ v = .int .i64 i ∧ Aside0 (Kd.R (Kd.int .u8) 5 w' w.heap.size (fun _ => True) v5 (encL (l0.take i.toNat))) ∧ Aside0 (Below w.heap.size w w')) (fun _ _ v _ => (l0.length - intOf v).toNat)
    case atStart => exact ⟨0, by omega, by omega, rfl, ⟨by simpa [encL] using Kd.R_nil _ _ _ _ _⟩, HB0⟩
    case round =>
      clear HB0
      obtain ⟨i, hi0, hi1, rfl, HO, HB⟩ := hrel
      by_cases hlt : i < l0.length
      · obtain ⟨ad, e, hx0, hx1, hx2⟩ := at_T42 (Kd.C_below HR.out HB.out) i hi0 hlt
        subst e
        have HL := Aside0.mk (encL_take_len HK.out.1 i.toNat)
        have HE := Aside0.mk (encL_take l0 i hi0 hlt)
        have hsz : w.heap.size ≤ wr.heap.size := HB.out.size
        have hown : ∀ k, u5.ownBlock = some k → k < wr.heap.size := fun k hk => own_lt (Kd.own_of_R HO.out) k hk
        have HW := Aside0.mk hown
        clear hown
        by_cases k1 : (rd_T42 l0 i).f0 = 1
        · have HI : Aside0 (encI (rd_T42 l0 i) = 1 :: leB (IntKind.u64.wrap (rd_T42 l0 i).f1) 8) := ⟨by simp only [encI, k1, if_true]⟩
          rw [k1] at hx0
          clear k1
          go_wp2_with (first | (at_builtin; refine Kd.R_append (Kd.int .u8) (w0 := w) w.heap.size rfl (.tmp 19) (.tmp 23) 22 5 (.int .u8 0) 1 rfl Tryd.underlying22 info5 rfl (by decide) (by omega) u5 (encL (l0.take i.toNat)) 1 [.int .u8 1] (fun _ => True) (fun _ => False) rfl (by simp [Act.eval]) ?aP (fun _ hk => hk.elim) ?aF ?aO ?aB ?aS ?aL ?_; (case aP => exact rfl); (case aB => exact below_alloc HB.out _); (case aF => exact (fun _ _ => trivial)); (case aO => exact Kd.R_alloc HO.out _); (case aS => exact (below_alloc HB.out _).size); (case aL => have := HL.out; omega); intro v1 w2 hR hB hg hat; have HO1 := Aside0.mk hR; have HB1 := Aside0.mk hB; have HG1 := Aside0.mk (box_grown hg HW.out);  clear hR hB hg hat; have b0 : w2.cell? ⟨wr.heap.size, 0, none⟩ = some (.int .i64 1) := cell_blk HG1.out 0; have b1 : w2.cell? ⟨wr.heap.size, 1, none⟩ = some (.int .i64 (rd_T42 l0 i).f1) := cell_blk HG1.out 1))
          refine (pack_put.calls 10 (fun _ => True) v1 (encL (l0.take i.toNat) ++ [1]) _ _ _ w w2 HB1.out HO1.out (put_val _ _ 8 (by omega) (by have := HL.out; simp; omega))).mono ?_
          rintro e w3 ⟨v3, rfl, hR, hB, _⟩
          have HO3 := Aside0.mk (Kd.R_mono hR (fun _ _ => trivial))
          have HB3 := Aside0.mk hB
          clear hR hB
          go_wp2
          go_roundw
          case rel => exact ⟨i + 1, by omega, by omega, by first | rfl | go_num, ⟨by rw [HE.out, HI.out]; have h := HO3.out; simpa using h⟩, HB3⟩
          case measure => simp [intOf]; omega
        · have k2 : (rd_T42 l0 i).f0 = 2 := kind_ok (HK.out.2 _ (rd_mem hi0 hlt)) k1
          have HI : Aside0 (encI (rd_T42 l0 i) = 2 :: (leB ((rd_T42 l0 i).f2.size : Int) 2 ++ bytesOf (rd_T42 l0 i).f2)) := ⟨by rw [encI, if_neg k1]⟩
          have hz : (rd_T42 l0 i).f2.size ≤ 50000 := ((encOk_iff HK.out.1).2 _ (rd_mem hi0 hlt)).resolve_left k1
          have HZ := Aside0.mk hz
          have PV := Aside0.mk (put_len (encL (l0.take i.toNat) ++ [2]) (rd_T42 l0 i).f2.size hz (by have := HL.out; simp; omega))
          rw [k2] at hx0
          clear k1 k2
          go_wp2_with (first | (at_builtin; refine Kd.R_append (Kd.int .u8) (w0 := w) w.heap.size rfl (.tmp 19) (.tmp 23) 22 5 (.int .u8 0) 1 rfl Tryd.underlying22 info5 rfl (by decide) (by omega) u5 (encL (l0.take i.toNat)) 2 [.int .u8 2] (fun _ => True) (fun _ => False) rfl (by simp [Act.eval]) ?aP (fun _ hk => hk.elim) ?aF ?aO ?aB ?aS ?aL ?_; (case aP => exact rfl); (case aB => exact below_alloc HB.out _); (case aF => exact (fun _ _ => trivial)); (case aO => exact Kd.R_alloc HO.out _); (case aS => exact (below_alloc HB.out _).size); (case aL => have := HL.out; omega); intro v1 w2 hR hB hg hat; have HO1 := Aside0.mk hR; have HB1 := Aside0.mk hB; have HG1 := Aside0.mk (box_grown hg HW.out); clear hR hB hg hat; have b0 : w2.cell? ⟨wr.heap.size, 0, none⟩ = some (.int .i64 2) := cell_blk HG1.out 0; have b1 : w2.cell? ⟨wr.heap.size, 2, none⟩ = some (.string (rd_T42 l0 i).f2) := cell_blk HG1.out 2))
          go_region_held3 (fun w' => w'.cell? ⟨wr.heap.size, 2, none⟩ = some (.string (rd_T42 l0 i).f2))
            (first | go_keep | (exact cell_blk HG3.out 2) | (exact cell_blk HG4.out 2) | fail)
            (first
              | (go_at_call 22; refine (pack_put.calls 10 (fun k => True ∧ k ≠ wr.heap.size) v1 (encL (l0.take i.toNat) ++ [2]) _ _ _ w _ HB1.out.drew (Kd.R_drew (Kd.R_types HO1.out HG1.out (by intro q hq; simp [Kd.int, Kd.scalar] at hq; omega))) PV.out).mono ?_; rintro e w3 ⟨v3, rfl, hR, hB, hK⟩; have HO3 := Aside0.mk (Kd.R_mono hR (ok' := fun _ => True) (fun _ _ => trivial)); have HB3 := Aside0.mk hB; have HG3 := Aside0.mk (kept_blk hK HG1.out (by simp)); clear hR hB hK)
              | (refine R_append_str_step (w0 := w) w.heap.size (by rfl) (.tmp 38) (.tmp 40) 22 9 5 (by rfl) Tryd.underlying22 Tryd.underlying9 info5 _ (encL (l0.take i.toNat) ++ [2] ++ leB ((rd_T42 l0 i).f2.size : Int) 2) (rd_T42 l0 i).f2 (by rfl) (by rfl) HO3.out HB3.out HB3.out.size ?hL ?_; (case hL => have := HL.out; have := HZ.out; simp [leB_length]; omega); intro v4 w4 hR hB hg; have HG4 := Aside0.mk (grown_blk hg HG3.out (Kd.R_ne HO3.out HG3.out (by decide))); have HO4 := Aside0.mk hR; have HB4 := Aside0.mk hB; clear hR hB hg)
              | fail)
          go_wp2
          go_roundw
          case rel => exact ⟨i + 1, by omega, by omega, by first | rfl | go_num, ⟨by rw [HE.out, HI.out]; have h := HO4.out; simpa using h⟩, HB4⟩
          case measure => simp [intOf]; omega
      · have HT : Aside0 (l0.take i.toNat = l0) := ⟨List.take_of_length_le (by omega)⟩
        go_wp2
        go_ret2
        exact ⟨_, by rw [← H2.out, H0.out]; rfl, by rw [← H1.out, if_pos H0.out]; have h := HO.out; rw [HT.out] at h; exact h, HB.out⟩
  · have HB0 := Aside0.mk hb
    have H0 := Aside0.mk h0
    have hn : (pack_checkV l0 != 0) = true := by simpa using h0
    clear hb h0
    go_wp2
    go_ret2
    exact ⟨_, by rw [← H2.out]; rfl, by rw [← H1.out, if_neg H0.out]; exact Kd.R_nil _ _ _ _ _, HB0.out⟩


end Go.Proofs.YtgjhhbljbnbjkaaDoor.PA
