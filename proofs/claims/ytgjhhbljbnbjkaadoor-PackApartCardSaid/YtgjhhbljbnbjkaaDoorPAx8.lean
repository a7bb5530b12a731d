-- Laid by a program of this work over the seat's translation.
import Derived.Test.YtgjhhbljbnbjkaaDoorPAx0
import Derived.Test.YtgjhhbljbnbjkaaDoorPAx2
import Derived.Test.YtgjhhbljbnbjkaaDoorPAx5
import Derived.Test.YtgjhhbljbnbjkaaDoorPAx7
namespace Go.Proofs.YtgjhhbljbnbjkaaDoor.PA
open Go.RowKit Go.Proofs.YtgjhhbljbnbjkaaDoorW.PrintWords Go.Proofs.YtgjhhbljbnbjkaaDoorW.PrintLast Go.Proofs.YtgjhhbljbnbjkaaDoorW.PrintMore
attribute [local go_sem] max2_int min2_int max_two min_two max_three min_three max_four min_four   -- for this text's walks alone
set_option linter.unusedVariables false
set_option linter.unusedSimpArgs false

/-! ### cisternref03_DocFrame: function 7 (by hand) -/
theorem u64_div (x : Int) (h0 : 0 ≤ x) (h1 : x < 18446744073709551616) : IntKind.u64.wrap (Int.tdiv x 256) = x / 256 := by
  rw [Int.tdiv_eq_ediv_of_nonneg h0]
  simp only [IntKind.wrap, IntKind.signed, IntKind.bits]
  simp
  omega
theorem little_tells (n : Nat) (hn : (n : Int) ≤ 1000) : ∀ (d k : Nat) (x : Int) (acc : List Int) (i : Int), 0 ≤ x → x < 18446744073709551616 → 0 ≤ i → i + d = n → d < k → acc.length + d ≤ 100000 →
    cisternref03_little.l0 k x n acc i = some (strOfNums (acc ++ leB x d)) := by
  intro d
  induction d with
  | zero =>
    intro k x acc i h0 h1 hi hd hk ha
    obtain ⟨k, rfl⟩ : ∃ m, k = m + 1 := ⟨k - 1, by omega⟩
    simp only [cisternref03_little.l0]
    rw [if_neg (by omega)]
    simp [leB]
  | succ d ih =>
    intro k x acc i h0 h1 hi hd hk ha
    obtain ⟨k, rfl⟩ : ∃ m, k = m + 1 := ⟨k - 1, by omega⟩
    simp only [cisternref03_little.l0]
    rw [if_pos (by omega), if_pos (by omega), u64_div x h0 h1, show wrap64 (i + 1) = i + 1 by unfold wrap64; omega]
    rw [ih k (x / 256) (acc ++ [x % 256]) (i + 1) (by omega) (by omega) (by omega) (by omega) (by omega) (by simp; omega)]
    simp [leB]
theorem little_val (x : Int) (n : Nat) (h0 : 0 ≤ x) (h1 : x < 18446744073709551616) (hn : n ≤ 8) : cisternref03_little.f 10 x n = some (strOfNums (leB x n)) := by
  rw [cisternref03_little.f, little_tells n (by omega) n 10 x [] 0 h0 h1 (by omega) (by omega) (by omega) (by simp; omega)]
  simp
theorem little_len (n : Nat) (h : n ≤ 50000) : cisternref03_little.f 10 (IntKind.u64.wrap (n : Int)) 2 = some (strOfNums (leB (n : Int) 2)) := by
  rw [u64_id _ (by omega) (by omega)]
  exact little_val (n : Int) 2 (by omega) (by omega) (by omega)

/-! ### DocFrame -/
theorem strOfNums_append' (a b : List Int) : strOfNums a ++ strOfNums b = strOfNums (a ++ b) := by
  unfold strOfNums
  apply ByteArray.ext
  simp
theorem strOfNums_bytesOf' (s : ByteArray) : strOfNums (bytesOf s) = s := by
  unfold strOfNums bytesOf
  apply ByteArray.ext
  simp [Function.comp_def]
theorem leB_two (n : Nat) (h : n ≤ 60000) : leB (n : Int) 2 = [(n : Int) % 256, (n : Int) / 256] := by
  simp only [leB]
  rw [show (n : Int) / 256 % 256 = (n : Int) / 256 by omega]
theorem frame_str (s : ByteArray) (n : Nat) (h : 2 + s.size ≤ n) (hn : n ≤ 60000) :
    (strOfNums (leB (s.size : Int) 2) ++ s) ++ strOfNums (List.replicate (n - 2 - s.size) 0) = strOfNums (frameL (bytesOf s) n) := by
  conv => lhs; rw [← strOfNums_bytesOf' s]
  rw [strOfNums_append', strOfNums_append', size_strOfNums, bytesOf_length, leB_two _ (by omega)]
  simp [frameL, bytesOf_length]
def cisternref03_DocFrame.f (a0 : ByteArray) (x : Int) : Option (ByteArray × Int) := if a0.size ≤ 140737488355328 ∧ -9223372036854775808 ≤ x ∧ x ≤ 9223372036854775807 then some (strOfNums (frameV (bytesOf a0) x).1, (frameV (bytesOf a0) x).2) else none
set_option maxHeartbeats 2000000 in
set_option maxRecDepth 100000 in
theorem cisternref03_DocFrame.calls (a0 : ByteArray) (x : Int) (r1 : ByteArray) (r2 : Int) (w : World) (h : cisternref03_DocFrame.f a0 x = some (r1, r2)) :
    Calls Tryd.prog 7 #[.string a0, .int .i64 x] w fun e w' => e = .returned (.tuple #[.string r1, .int .i64 r2]) ∧ Below w.heap.size w w' := by
  unfold cisternref03_DocFrame.f at h
  split at h
  · rename_i hh
    obtain ⟨hl, hx1, hx2⟩ := hh
    have h := Option.some.inj h
    unfold frameV at h
    rw [bytesOf_length] at h
    by_cases h1 : x < 2
    · rw [if_pos (.inl h1)] at h
      simp only [Prod.mk.injEq] at h
      obtain ⟨rfl, rfl⟩ := h
      go_enter Tryd.func7, Tryd.ntmps7
      go_wp2_with fail
      go_ret2
      exact ⟨rfl, Below.refl _ _⟩
    have d1 : decide (x < 2) = false := decide_eq_false h1
    by_cases h2 : 60000 < x
    · rw [if_pos (.inr h2)] at h
      simp only [Prod.mk.injEq] at h
      obtain ⟨rfl, rfl⟩ := h
      go_enter Tryd.func7, Tryd.ntmps7
      go_wp2_with fail
      go_ret2
      exact ⟨rfl, Below.refl _ _⟩
    rw [if_neg (by omega)] at h
    obtain ⟨n, rfl⟩ : ∃ n : Nat, x = n := ⟨x.toNat, by omega⟩
    have d2 : decide (60000 < (n : Int)) = false := decide_eq_false h2
    by_cases h3 : (n : Int) - 2 < (a0.size : Int)
    · rw [if_pos h3] at h
      simp only [Prod.mk.injEq] at h
      obtain ⟨rfl, rfl⟩ := h
      go_enter Tryd.func7, Tryd.ntmps7
      go_wp2_with fail
      go_ret2
      exact ⟨rfl, Below.refl _ _⟩
    rw [if_neg h3, Int.toNat_natCast] at h
    simp only [Prod.mk.injEq] at h
    obtain ⟨h4, rfl⟩ := h
    rw [← frame_str a0 n (by omega) (by omega)] at h4
    have H4 := Aside0.mk h4
    have hn : n ≤ 60000 := by omega
    have d3 : decide ((n : Int) - 2 < (a0.size : Int)) = false := decide_eq_false h3
    obtain ⟨m, hm⟩ : ∃ m, m = n - 2 - a0.size := ⟨_, rfl⟩
    rw [← hm] at H4
    have e1 : (n : Int) - 2 - (a0.size : Int) = (m : Int) := by omega
    have E1 := Aside0.mk e1
    have q1 : IntKind.i64.wrap ((n : Int) - 2) = (n : Int) - 2 := IntWalk.i64_in _ (by omega)
    have q2 : IntKind.i64.wrap ((n : Int) - 2 - (a0.size : Int)) = (m : Int) := by rw [← e1]; exact IntWalk.i64_in _ (by omega)
    have q3 : IntKind.u64.wrap (a0.size : Int) = (a0.size : Int) := u64_id _ (by omega) (by omega)
    have LV := Aside0.mk (little_val (a0.size : Int) 2 (by omega) (by omega) (by omega))
    have hmk := print_make_int (P := Tryd.prog) 22 5 (.int .u8 0) 1 Tryd.underlying22 info5 rfl (by decide) (m : Int) (by omega) (by omega)
    rw [Int.toNat_natCast] at hmk
    have MR : ∀ (W : World), Kd.C (Kd.int .u8) (W.alloc (.cells (madeCells #[.int .u8 0] m) 5)) (some ⟨W.heap.size, 0, none⟩) m (List.replicate m 0) := fun W => by
      have h := own_made' W W.heap.size 5 .u8 m (Nat.le_refl _) (by omega)
      have h2 : (Kd.int .u8).R 5 (W.alloc (.cells (madeCells #[.int .u8 0] m) 5)) W.heap.size (fun _ => True) (.slice (some ⟨W.heap.size, 0, none⟩) m m) (List.replicate m 0) := Kd.R_of_own h (fun _ _ => trivial)
      have h3 := (Kd.R_reads' h2).2.2
      rwa [List.length_replicate] at h3
    have MC := Aside0.mk MR
    have mcv : ∀ (W : World) (c : Nat), (convert 22 9 (.slice (some ⟨W.heap.size, 0, none⟩) m c)).run Tryd.prog (W.alloc (.cells (madeCells #[.int .u8 0] m) 5)) = .ok (.string (strOfNums (List.replicate m 0))) (W.alloc (.cells (madeCells #[.int .u8 0] m) 5)) := fun W c => by
      have h := Kd.C_string (P := Tryd.prog) (c := c) Tryd.underlying22 Tryd.underlying5 Tryd.underlying9 (MR W)
      exact h
    have mcv2 : ∀ (W : World) (c : Nat), (convert 22 9 (.slice (some ⟨W.heap.size, 0, none⟩) m c)).run Tryd.prog (W.alloc (.cells (madeCells #[.int .u8 0] m) 5)).drew = .ok (.string (strOfNums (List.replicate m 0))) (W.alloc (.cells (madeCells #[.int .u8 0] m) 5)).drew := fun W c =>
      Kd.C_string (P := Tryd.prog) (c := c) Tryd.underlying22 Tryd.underlying5 Tryd.underlying9 (Kd.C_drew (MR W))
    obtain ⟨y0, hy0⟩ : ∃ y, y = strOfNums (leB (a0.size : Int) 2) := ⟨_, rfl⟩
    obtain ⟨z0, hz0⟩ : ∃ y, y = strOfNums (List.replicate m (0 : Int)) := ⟨_, rfl⟩
    have sy : y0.size = 2 := by rw [hy0, size_strOfNums, leB_length]
    have sz : z0.size = m := by rw [hz0, size_strOfNums, List.length_replicate]
    rw [← hy0, ← hz0] at H4
    have HZ := Aside0.mk hz0
    rw [← hy0] at LV
    simp only [← hz0] at mcv mcv2
    have c1 : y0.size + a0.size ≤ 9223372036854775807 := by omega
    have c2 : (y0 ++ a0).size + z0.size ≤ 9223372036854775807 := by rw [ByteArray.size_append]; omega
    have c1b0 := eq_true c1
    have c1b2 : (9223372036854775807 < y0.size + a0.size) = False := eq_false (Nat.not_lt.2 c1)
    have c2b0 := eq_true c2
    have c2b2 : (9223372036854775807 < (y0 ++ a0).size + z0.size) = False := eq_false (Nat.not_lt.2 c2)
    have c3 : y0.size + a0.size + z0.size ≤ 9223372036854775807 := by omega
    have c3b0 := eq_true c3
    have c3b2 : (9223372036854775807 < y0.size + a0.size + z0.size) = False := eq_false (Nat.not_lt.2 c3)
    clear c3
    clear c1 c2 sy sz hy0 hz0
    clear MR hm e1 h4 h3 h2 h1 hl hx1 hx2
    go_enter Tryd.func7, Tryd.ntmps7
    go_wp2_with fail
    go_region_held (fun w1 => Below w.heap.size w w1)
      (first | exact Below.drew (Below.refl _ _) | exact pw_below_drewN (Below.refl _ _) _ | exact below_alloc (by assumption) _ | exact SB1.out | assumption | fail)
      (first
        | (go_at_call 17; refine (cisternref03_little.calls 10 _ 2 _ _ LV.out).mono ?_; rintro e w1 ⟨rfl, hB⟩; have SB1 : Aside0 (Below w.heap.size w w1) := ⟨Below.trans (by assumption) (hB.mono (Below.size (by assumption)))⟩; try (have hcv1 := fun c => Kd.C_string (c := c) (P := Tryd.prog) Tryd.underlying22 Tryd.underlying5 Tryd.underlying9 (Kd.C_below (d := Kd.int .u8) (A := some ⟨w.heap.size, 0, none⟩) (n := m) (xs := List.replicate m 0) (by first | exact MC.out _ | exact Kd.C_drew (MC.out _)) hB); simp only [← HZ.out] at hcv1))
        | fail)
    all_goals
      go_wp2
      go_ret2
      exact ⟨by rw [← H4.out]; rfl, by assumption⟩
  · cases h


/-! ### cisternref03_number: function 18 -/
def cisternref03_number.l0 : Nat → ByteArray → Int → Int → Option (Int)
  | 0, _, _, _ => none
  | k + 1, x0, x3, x4 => if x4 ≥ 0 then (if 0 ≤ x4 then (if x4 < (x0.size : Int) then (cisternref03_number.l0 k x0 (IntKind.u64.wrap ((IntKind.u64.wrap (x3 * 256)) + (IntKind.u64.wrap (bt x0 x4)))) (wrap64 (x4 - 1))) else (none)) else (none)) else (some x3)
def cisternref03_number.f (k : Nat) (a0 : ByteArray) : Option (Int) := cisternref03_number.l0 k a0 0 (wrap64 ((a0.size : Int) - 1))
theorem cisternref03_number.mono_l : ∀ k, (∀ y0 y1 y2, LeO (cisternref03_number.l0 k y0 y1 y2) (cisternref03_number.l0 (k + 1) y0 y1 y2))
  | 0 => fun _ _ _ r h => by simp [cisternref03_number.l0] at h
  | k + 1 => by
    have ih0 := cisternref03_number.mono_l k
    · intro y0 y1 y2
      unfold cisternref03_number.l0
      repeat' first
      | (with_reducible exact ih0 _ _ _)
      | (with_reducible exact LeO.refl _)
      | (with_reducible exact LeO.none _)
      | (with_reducible refine LeO.ite ?_ ?_)
      | (with_reducible refine LeO.bind ?_ (fun _ => ?_))
      | exact ih0 _ _ _
      | exact LeO.none _
      | refine LeO.ite ?_ ?_
      | refine LeO.bind ?_ (fun _ => ?_)
theorem cisternref03_number.mono : ∀ a0 k, LeO (cisternref03_number.f k a0) (cisternref03_number.f (k + 1) a0) := by
  intro a0 k
  have ih0 := cisternref03_number.mono_l k
  unfold cisternref03_number.f
  repeat' first
      | (with_reducible exact ih0 _ _ _)
      | (with_reducible exact LeO.refl _)
      | (with_reducible exact LeO.none _)
      | (with_reducible refine LeO.ite ?_ ?_)
      | (with_reducible refine LeO.bind ?_ (fun _ => ?_))
      | exact ih0 _ _ _
      | exact LeO.none _
      | refine LeO.ite ?_ ?_
      | refine LeO.bind ?_ (fun _ => ?_)
set_option maxHeartbeats 8000000 in
set_option maxRecDepth 100000 in
theorem cisternref03_number.calls (k : Nat) (a0 : ByteArray) (r : Int) (w : World) (h : cisternref03_number.f k a0 = some r) :
    Calls Tryd.prog 18 #[.string a0] w fun e w' => e = .returned (.int .u64 r) ∧ Drawn0 w w' := by
  have H : (cisternref03_number.l0 k a0 0 (wrap64 ((a0.size : Int) - 1))) = some r := h
  clear h
  have H' := Aside0.mk H
  clear H
  go_enter Tryd.func18, Tryd.ntmps18
  go_wp2
  go_loopg [3, 4] k (fun kq v3 v4 w' => ∃ (x3_1 : Int) (x4_1 : Int), v3 = .int .u64 x3_1 ∧ v4 = .int .i64 x4_1 ∧ Aside0 (cisternref03_number.l0 kq a0 x3_1 x4_1 = some r) ∧ Aside0 (kq ≤ k) ∧ Drawn0 w w')
  case atStart => exact ⟨(0), (wrap64 ((a0.size : Int) - 1)), (by first | rfl | (simp; done) | (simp [*]; done)), (by first | rfl | (simp; done) | (simp [*]; done)), H', ⟨Nat.le_refl _⟩, by repeat (first | exact Drawn0.refl _ | apply Drawn0.step)⟩
  case round =>
    clear H'
    try clear c1
    obtain ⟨x3_1, x4_1, rfl, rfl, HA, HK1, ⟨m1, rfl⟩⟩ := hrel
    cases gk with
    | zero => exact absurd HA.out (by simp [cisternref03_number.l0])
    | succ k1 =>
      have H := HA.out
      clear HA
      simp only [cisternref03_number.l0] at H
      by_cases c2 : x4_1 ≥ 0
      · rw [if_pos c2] at H
        have c2b0 : decide (0 ≤ x4_1) = true := decide_eq_true c2
        clear c2
        by_cases c3 : 0 ≤ x4_1
        · rw [if_pos c3] at H
          have c3b0 : decide (0 ≤ x4_1) = true := decide_eq_true c3
          clear c3
          by_cases c4 : x4_1 < (a0.size : Int)
          · rw [if_pos c4] at H
            have c4b0 : decide (x4_1 < (a0.size : Int)) = true := decide_eq_true c4
            clear c4
            have H' := Aside0.mk H
            clear H
            have p5 : 0 ≤ (x4_1 : Int) := of_decide_eq_true (by first | (with_reducible assumption) | assumption)
            have q5 : x4_1 < (a0.size : Int) := of_decide_eq_true (by first | (with_reducible assumption) | assumption)
            have hx5 := bt_at a0 x4_1
            replace p5 := eq_true p5
            replace q5 := eq_true q5
            go_wp2
            go_roundg k1
            case measure => have := HK1.out; omega
            case rel => exact ⟨(IntKind.u64.wrap ((IntKind.u64.wrap (x3_1 * 256)) + (IntKind.u64.wrap (bt a0 x4_1)))), (wrap64 (x4_1 - 1)), (by first | rfl | (simp; done) | (simp [*]; done)), (by first | rfl | (simp; done) | (simp [*]; done)), H', ⟨by have := HK1.out; omega⟩, by repeat (first | exact Drawn0.refl _ | apply Drawn0.step)⟩
          · rw [if_neg c4] at H
            exact absurd H (by simp)
        · rw [if_neg c3] at H
          exact absurd H (by simp)
      · rw [if_neg c2] at H
        have c2b0 : decide (0 ≤ x4_1) = false := decide_eq_false c2
        clear c2
        obtain rfl := Option.some.inj H
        go_wp2
        go_ret
        exact ⟨by first | rfl | (simp; done) | (simp [*]; done), by repeat (first | exact Drawn0.refl _ | apply Drawn0.step)⟩

end Go.Proofs.YtgjhhbljbnbjkaaDoor.PA
