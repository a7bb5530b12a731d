-- Laid by a program of this work over the seat's translation.
import Derived.Test.YtgjhhbljbnbjkaaDoorPAx0
namespace Go.Proofs.YtgjhhbljbnbjkaaDoor.PA
open Go.RowKit Go.Proofs.YtgjhhbljbnbjkaaDoorW.PrintWords Go.Proofs.YtgjhhbljbnbjkaaDoorW.PrintLast Go.Proofs.YtgjhhbljbnbjkaaDoorW.PrintMore
attribute [local go_sem] max2_int min2_int max_two min_two max_three min_three max_four min_four   -- for this text's walks alone
set_option linter.unusedVariables false
set_option linter.unusedSimpArgs false

/-! ### pack_Frame: function 8 (by hand) -/
/-! ### Frame -/
def frameL (l : List Int) (n : Nat) : List Int := ((l.length : Int) % 256) :: ((l.length : Int) / 256) :: (l ++ List.replicate (n - 2 - l.length) 0)
def frameV (l : List Int) (x : Int) : List Int × Int :=
  if x < 2 ∨ 60000 < x then ([], 1) else if x - 2 < (l.length : Int) then ([], 14) else (frameL l x.toNat, 0)
def pack_Frame.f (l0 : List Int) (x : Int) : Option (List Int × Int) := if l0.length ≤ 140737488355328 ∧ -9223372036854775808 ≤ x ∧ x ≤ 9223372036854775807 then some (frameV l0 x) else none
theorem made_row (n : Nat) (hn : 2 ≤ n) : madeCells #[Value.int .u8 0] n = (Value.int .u8 0 :: Value.int .u8 0 :: List.replicate (n - 2) (.int .u8 0)).toArray := by
  obtain ⟨m, rfl⟩ : ∃ m, n = m + 2 := ⟨n - 2, by omega⟩
  apply Array.ext
  · simp [madeCells]
  · intro i h1 h2
    match i with
    | 0 => simp [madeCells]
    | 1 => simp [madeCells]
    | i + 2 => simp [madeCells, Nat.mod_one]
theorem cut2 (B n : Nat) (hn : 2 ≤ n) (hm : n ≤ 60000) : ∃ A', (∀ W : World, (Instr.slice 22 (.slice (some ⟨B, 0, none⟩) n n) (some (.int .i64 2)) none none).run Tryd.prog W = .ok (.slice A' (n - 2) (n - 2)) W) ∧ Aside0 (2 < n → A' = some ⟨B, 2, none⟩) := by
  obtain ⟨i1, hi1, _, hsz1, _⟩ := info_parts info5
  refine ⟨if n = 2 then some ⟨B, 0, none⟩ else some ⟨B, 2, none⟩, fun W => ?_, ⟨fun h => by rw [if_neg (by omega)]⟩⟩
  have hel : (Tryd.prog).elem 22 = 5 := by simp [Program.elem, Tryd.underlying22]
  have hu : (Tryd.prog).underlying 22 = some (.slice ((Tryd.prog).elem 22)) := by rw [hel]; exact Tryd.underlying22
  rw [run_slice_l W 22 (some ⟨B, 0, none⟩) n n hu .i64 2 (by omega) (by omega), hel]
  simp [sizeOf, typeInfo, hi1, hsz1, sliced, Result.andThen]
  split <;> simp [Addr.add]
theorem frame_row (w : World) (B : Nat) (l : List Int) (n : Nat) (h : w.heap[B]? = some (.cells (splice (.int .u8 ((l.length : Int) % 256) :: .int .u8 ((l.length : Int) / 256) :: List.replicate (n - 2) (.int .u8 0)) 2 (l.map (Value.int .u8))).toArray 5 (0, 0))) (hl : 2 + l.length ≤ n) (hn : n ≤ 60000) :
    Kd.R (Kd.int .u8) 5 w B (fun _ => True) (.slice (some ⟨B, 0, none⟩) n n) (frameL l n) := by
  refine Kd.R_of_own ?_ (fun _ _ => trivial)
  have e : splice (Value.int .u8 ((l.length : Int) % 256) :: .int .u8 ((l.length : Int) / 256) :: List.replicate (n - 2) (.int .u8 0)) 2 (l.map (Value.int .u8)) = encs (Value.int .u8) (frameL l n) := by
    simp [splice, encs, frameL, Nat.add_comm 2, Nat.sub_sub]
  rw [e] at h
  have hlen : (frameL l n).length = n := by simp [frameL]; omega
  refine ⟨by simp [encs], .inr ⟨B, n, _, ?_, Nat.le_refl _, h, by omega, by unfold maxLen; omega, ?_, ?_⟩⟩
  · rw [hlen]
  · simp [hlen, encs]
  · simp [encs]
    rw [List.take_of_length_le (by simp)]
set_option maxHeartbeats 2000000 in
set_option maxRecDepth 100000 in
theorem pack_Frame.calls (A0 : Option Addr) (c0 : Nat) (l0 : List Int) (x : Int) (r1 : List Int) (r2 : Int) (w : World) (hr0 : Kd.C (Kd.int .u8) w A0 l0.length l0) (hc0 : l0.length ≤ c0) (h : pack_Frame.f l0 x = some (r1, r2)) :
    Calls Tryd.prog 8 #[.slice A0 l0.length c0, .int .i64 x] w fun e w' => ∃ v0_ : Value, e = .returned (.tuple #[v0_, .int .i64 r2]) ∧ Kd.R (Kd.int .u8) 5 w' w.heap.size (fun _ => True) v0_ r1 ∧ Below w.heap.size w w' := by
  unfold pack_Frame.f at h
  split at h
  · rename_i hh
    obtain ⟨hl, hx1, hx2⟩ := hh
    have h := Option.some.inj h
    unfold frameV at h
    have HR := Aside0.mk hr0
    have HC := Aside0.mk hc0
    clear hr0 hc0
    by_cases h1 : x < 2
    · rw [if_pos (.inl h1)] at h
      simp only [Prod.mk.injEq] at h
      obtain ⟨rfl, rfl⟩ := h
      go_enter Tryd.func8, Tryd.ntmps8
      go_wp2_with fail
      go_ret2
      exact ⟨_, rfl, Kd.R_nil _ _ _ _ _, Below.refl _ _⟩
    have d1 : decide (x < 2) = false := decide_eq_false h1
    by_cases h2 : 60000 < x
    · rw [if_pos (.inr h2)] at h
      simp only [Prod.mk.injEq] at h
      obtain ⟨rfl, rfl⟩ := h
      go_enter Tryd.func8, Tryd.ntmps8
      go_wp2_with fail
      go_ret2
      exact ⟨_, rfl, Kd.R_nil _ _ _ _ _, Below.refl _ _⟩
    rw [if_neg (by omega)] at h
    obtain ⟨n, rfl⟩ : ∃ n : Nat, x = n := ⟨x.toNat, by omega⟩
    have d2 : decide (60000 < (n : Int)) = false := decide_eq_false h2
    by_cases h3 : (n : Int) - 2 < (l0.length : Int)
    · rw [if_pos h3] at h
      simp only [Prod.mk.injEq] at h
      obtain ⟨rfl, rfl⟩ := h
      go_enter Tryd.func8, Tryd.ntmps8
      go_wp2_with fail
      go_ret2
      exact ⟨_, rfl, Kd.R_nil _ _ _ _ _, Below.refl _ _⟩
    rw [if_neg h3, Int.toNat_natCast] at h
    simp only [Prod.mk.injEq] at h
    obtain ⟨h4, rfl⟩ := h
    have H4 := Aside0.mk h4
    have hn : n ≤ 60000 := by omega
    have hn2 : 2 ≤ n := by omega
    have hln : 2 + l0.length ≤ n := by omega
    have d3 : decide ((n : Int) - 2 < (l0.length : Int)) = false := decide_eq_false h3
    clear h4 h3 h2 h1 hl hx1 hx2
    have hmk := print_make_int (P := Tryd.prog) 22 5 (.int .u8 0) 1 Tryd.underlying22 info5 rfl (by decide) (n : Int) (by omega) (by omega)
    rw [Int.toNat_natCast] at hmk
    obtain ⟨A', hcut, hA'⟩ := cut2 w.heap.size n hn2 hn
    have k1 : IntKind.u8.wrap (l0.length : Int) = (l0.length : Int) % 256 := by simp [IntKind.wrap, IntKind.signed, IntKind.bits]
    go_enter Tryd.func8, Tryd.ntmps8
    obtain ⟨L, hL⟩ : ∃ L, L = List.replicate (n - 2) (Value.int .u8 0) := ⟨_, rfl⟩
    have HL := Aside0.mk hL
    rw [made_row n hn2, ← hL] at hmk
    clear hL
    have Q1 : Aside0 ((l0.map (Value.int .u8)).length = Nat.min l0.length (n - 2)) := ⟨by rw [List.length_map]; exact (Nat.min_eq_left (by omega)).symm⟩
    have Q2 : ∀ (W : World), Below w.heap.size w W → 0 < (l0.map (Value.int .u8)).length → A' = some ⟨w.heap.size, 2, none⟩ ∧ ∃ ad, A0 = some ad ∧ ∀ j v, (l0.map (Value.int .u8))[j]? = some v → W.cell? (ad.add j) = some v := by
      intro W hW hp
      rw [List.length_map] at hp
      refine ⟨hA'.out (by omega), ?_⟩
      have hC := Kd.C_below HR.out hW
      obtain ⟨ad, e, _⟩ := Kd.at_int hC 0 (by omega) (by omega)
      refine ⟨ad, e, fun j v hj => ?_⟩
      obtain ⟨hj1, hj2⟩ := List.getElem?_eq_some_iff.1 hj
      rw [List.length_map] at hj1
      obtain ⟨ad2, e2, hx⟩ := Kd.at_int hC (j : Int) (by omega) (by omega)
      rw [e] at e2
      cases e2
      rw [Int.toNat_natCast] at hx
      rw [hx, ← hj2]
      simp [rd, List.getD_eq_getElem?_getD, hj1]
    have Q2 := Aside0.mk Q2
    have Q3 : Aside0 (∀ v ∈ (l0.map (Value.int .u8)), v.oneCell' = true) := ⟨by
      intro v hv
      obtain ⟨y, _, rfl⟩ := List.mem_map.1 hv
      rfl⟩
    have Q4 : Aside0 (2 + (l0.map (Value.int .u8)).length ≤ (Value.int .u8 ((l0.length : Int) % 256) :: Value.int .u8 ((l0.length : Int) / 256) :: L).length) := ⟨by rw [HL.out]; simp; omega⟩
    have Q5 : Aside0 (Below w.heap.size w (w.alloc (.cells (Value.int .u8 ((l0.length : Int) % 256) :: Value.int .u8 ((l0.length : Int) / 256) :: L).toArray 5))) := ⟨below_alloc (Below.refl _ _) _⟩
    have Q6 := Aside0.mk (heap_alloc_new w (.cells (Value.int .u8 ((l0.length : Int) % 256) :: Value.int .u8 ((l0.length : Int) / 256) :: L).toArray 5))
    go_wp2_with (first | (with_reducible refine wpList_copy_splice rfl (.tmp 32) (.tmp 33) 22 22 rfl 5 Tryd.underlying22 (by kernel_rfl) A' A0 (n - 2) (n - 2) l0.length c0 rfl rfl w.heap.size 2 _ 5 Q6.out (l0.map (Value.int .u8)) Q1.out (Q2.out _ Q5.out) Q4.out Q3.out w.heap.size w Q5.out (Nat.le_refl _) ?_; intro w' hh hb; have R := Aside0.mk (frame_row w' w.heap.size l0 n (by rw [← HL.out]; exact hh.out) hln hn); have HB := Aside0.mk hb; clear hh hb) | fail)
    go_ret2
    exact ⟨_, rfl, by rw [← H4.out]; exact R.out, HB.out⟩
  · cases h


end Go.Proofs.YtgjhhbljbnbjkaaDoor.PA
