import Derived.Test.YtgjhhbljbnbjkaaLturned
namespace Go.Proofs.Ytgjhhbljbnbjkaa.PA
open Go.RowKit Go.Proofs.YtgjhhbljbnbjkaaW.PrintWords Go.Proofs.YtgjhhbljbnbjkaaW.PrintLast Go.Proofs.YtgjhhbljbnbjkaaW.PrintMore
set_option linter.unusedVariables false
set_option linter.unusedSimpArgs false
/-- What the loop has made behind d rounds. -/
def turnL (l : List Int) (at_ d : Nat) : List Int := xorL (sealL l) (patL at_ d (l.length + 4))
theorem turnL_length (l : List Int) (at_ d : Nat) : (turnL l at_ d).length = l.length + 4 := by rw [turnL, xorL_length, sealL_length]
theorem xorL_zeros (l : List Int) (h : ∀ x ∈ l, 0 ≤ x) (n : Nat) : xorL l (List.replicate n 0) = l := by
  induction l generalizing n with
  | nil => cases n <;> rfl
  | cons a l ih =>
    cases n with
    | zero => rfl
    | succ n =>
      have := h a (by simp)
      simp only [List.replicate_succ, xorL, Nat.xor_zero]
      rw [ih (fun x hx => h x (by simp [hx]))]
      congr 1
      omega
theorem turn_zero (l : List Int) (q : Nat) (h : byteL l) : turnL l q 0 = sealL l := by
  have e : patL q 0 (l.length + 4) = List.replicate (l.length + 4) 0 := by
    refine List.eq_replicate_iff.2 ⟨by simp [patL], fun x hx => ?_⟩
    simp only [patL, List.mem_map] at hx
    obtain ⟨i, _, rfl⟩ := hx
    rfl
  rw [turnL, e, xorL_zeros _ (fun x hx => (sealL_byteL h x hx).1)]
theorem xorL_get (l : List Int) : ∀ (e : List Nat) (i : Nat) (h1 : i < l.length) (h2 : i < e.length) (h3 : i < (xorL l e).length), (xorL l e)[i] = ((l[i].toNat ^^^ e[i] : Nat) : Int) := by
  induction l with
  | nil => intro e i h1; simp at h1
  | cons a l ih =>
    intro e i h1 h2 h3
    match e, h2 with
    | b :: e, h2 =>
      cases i with
      | zero => simp [xorL]
      | succ i =>
        simp only [xorL, List.getElem_cons_succ]
        exact ih e i (by simpa using h1) (by simpa using h2) _
theorem xor_u8 (a b : Nat) (ha : a < 256) (hb : b < 256) : Go.bits .xor .u8 (a : Int) (b : Int) = ((a ^^^ b : Nat) : Int) := by
  have hx : a ^^^ b < 256 := Nat.xor_lt_two_pow (n := 8) ha hb
  have e1 : a % 2 ^ IntKind.u8.bits = a := Nat.mod_eq_of_lt ha
  have e2 : b % 2 ^ IntKind.u8.bits = b := Nat.mod_eq_of_lt hb
  simp only [bits, BitVec.ofInt_natCast, BitVec.toNat_xor, BitVec.toNat_ofNat, e1, e2, IntKind.wrap_u8]
  omega
theorem turn_get (l : List Int) (hl : byteL l) (q d i : Nat) (h : i < l.length + 4) : (turnL l q d)[i]'(by rw [turnL_length]; exact h) = (((sealL l)[i]'(by rw [sealL_length]; exact h)).toNat ^^^ patD q d i : Nat) := by
  unfold turnL
  rw [xorL_get (sealL l) (patL q d (l.length + 4)) i (by rw [sealL_length]; exact h) (by simp [patL]; exact h)]
  simp [patL]
theorem turn_step (l : List Int) (hl : byteL l) (q d : Nat) (h : q + d < 8 * (l.length + 4)) :
    (turnL l q d).set ((q + d) / 8) (Go.bits .xor .u8 (rdOf (0 : Int) (turnL l q d) (((q : Int) + d) / 8)) (2 ^ ((q + d) % 8) % 256)) = turnL l q (d + 1) := by
  have hi : (q + d) / 8 < l.length + 4 := by omega
  have e8 : (((q : Int) + d) / 8).toNat = (q + d) / 8 := by omega
  have hr : rdOf (0 : Int) (turnL l q d) (((q : Int) + d) / 8) = (turnL l q d)[(q + d) / 8]'(by rw [turnL_length]; exact hi) := by
    unfold rdOf
    rw [e8, List.getD_eq_getElem?_getD, List.getElem?_eq_getElem (by rw [turnL_length]; exact hi)]
    rfl
  have hp : (2 : Int) ^ ((q + d) % 8) % 256 = ((2 ^ ((q + d) % 8) : Nat) : Int) := by
    have h1 : 2 ^ ((q + d) % 8) < 256 := Nat.pow_lt_pow_right (n := 8) (by decide) (by omega)
    rw [show (2 : Int) ^ ((q + d) % 8) = ((2 ^ ((q + d) % 8) : Nat) : Int) by simp]
    generalize 2 ^ ((q + d) % 8) = z at h1
    omega
  have hpl : 2 ^ ((q + d) % 8) < 256 := Nat.pow_lt_pow_right (n := 8) (by decide) (by omega)
  rw [hr, turn_get l hl q d _ hi, hp]
  have hsb := sealL_byteL hl ((sealL l)[(q + d) / 8]'(by rw [sealL_length]; exact hi)) (List.getElem_mem _)
  rw [xor_u8 _ _ (Nat.xor_lt_two_pow (n := 8) (by omega) (patD_byte _ _ _)) hpl]
  apply List.ext_getElem
  · simp [turnL_length]
  · intro i h1 h2
    have hil : i < l.length + 4 := by rw [turnL_length] at h2; exact h2
    rw [turn_get l hl q (d + 1) i hil, List.getElem_set]
    by_cases hii : (q + d) / 8 = i
    · subst hii
      rw [if_pos rfl, patD, if_pos rfl, Nat.xor_assoc]
    · rw [if_neg hii, turn_get l hl q d i hil, patD, if_neg hii, Nat.xor_zero]
theorem turn_open (l : List Int) (hl : byteL l) (q d : Nat) (h1 : 1 ≤ d) (h3 : d ≤ 3) (h : q + d ≤ 8 * (l.length + 4)) : openL (turnL l q d) = ([], 16) :=
  turned_open l hl _ (by simp [patL]) (fun x hx => by
    simp only [patL, List.mem_map] at hx
    obtain ⟨i, _, rfl⟩ := hx
    exact patD_byte _ _ _) (pat_ne q d _ h1 h3 h)
theorem turn_byteL (l : List Int) (hl : byteL l) (q d : Nat) : byteL (turnL l q d) := by
  intro b hb
  obtain ⟨i, hi, rfl⟩ := List.mem_iff_getElem.1 hb
  have hil : i < l.length + 4 := by rw [turnL_length] at hi; exact hi
  rw [turn_get l hl q d i hil]
  have hsb := sealL_byteL hl ((sealL l)[i]'(by rw [sealL_length]; exact hil)) (List.getElem_mem _)
  have := Nat.xor_lt_two_pow (n := 8) (show ((sealL l)[i]'(by rw [sealL_length]; exact hil)).toNat < 2 ^ 8 by omega) (patD_byte q d i)
  omega
set_option maxHeartbeats 4000000 in
set_option maxRecDepth 100000 in
theorem cisternlaw03_PackTurned.walk (A0 : Option Addr) (c0 : Nat) (l0 : List Int) (a1 a2 : Int) (w : World) (hr0 : Kd.C (Kd.int .u8) w A0 l0.length l0) (hc0 : l0.length ≤ c0) (y0 : l0.length * 1 ≤ 140737488351232) (w0 : ∀ v ∈ l0, (Lit.int .u8 v).wf = true) (w1 : (Lit.int .i64 a1).wf = true) (w2 : (Lit.int .i64 a2).wf = true) :
    Calls Try.prog 5 #[.slice A0 l0.length c0, .int .i64 a1, .int .i64 a2] w fun e w' => e = .returned (.bool true) ∧ Below w.heap.size w w' := by
  have W0 := Aside0.mk (wf_u8 w0)
  have R0 := Aside0.mk hr0
  have C0 := Aside0.mk hc0
  have hlen : l0.length ≤ 140737488351232 := by omega
  have Y0 := Aside0.mk y0
  clear hr0 hc0 y0 w0 w1 w2
  go_enter Try.func5, Try.ntmps5
  go_wp2_with fail
  refine (cisternlaw03_known.calls true w rfl).mono ?_
  rintro e wa ⟨rfl, hB⟩
  have BA := Aside0.mk hB
  clear hB
  go_wp2_with fail
  refine (sealW A0 c0 l0 _ (Kd.C_below R0.out BA.out) C0.out W0.out (by have := Y0.out; omega)).mono ?_
  rintro e wb ⟨g, cs, rfl, X, hB⟩
  have BB := Aside0.mk (BA.out.trans (hB.out.mono BA.out.size))
  have XR := Aside0.mk (Kd.R_lower X.out BA.out.size)
  rw [sealL_length] at *
  clear hB X
  go_wp2_with fail
  obtain ⟨q, hq, hq8⟩ : ∃ q : Nat, wrap64 ((IntKind.u64.wrap a1).tmod (8 * ((l0.length : Int) + 4))) = (q : Int) ∧ q < 8 * (l0.length + 4) := by
    have h1 := (u64_range a1).1
    rw [Int.tmod_eq_emod_of_nonneg h1]
    have h2 := Int.emod_nonneg (IntKind.u64.wrap a1) (show (8 * ((l0.length : Int) + 4)) ≠ 0 by omega)
    have h3 := Int.emod_lt_of_pos (IntKind.u64.wrap a1) (show 0 < (8 * ((l0.length : Int) + 4)) by omega)
    refine ⟨(IntKind.u64.wrap a1 % (8 * ((l0.length : Int) + 4))).toNat, ?_, by omega⟩
    unfold wrap64
    omega
  obtain ⟨b, hb, hb1, hb3⟩ : ∃ b : Nat, wrap64 (1 + wrap64 ((IntKind.u64.wrap a2).tmod 3)) = (b : Int) ∧ 1 ≤ b ∧ b ≤ 3 := by
    have h1 := (u64_range a2).1
    rw [Int.tmod_eq_emod_of_nonneg h1]
    refine ⟨(1 + IntKind.u64.wrap a2 % 3).toNat, ?_, by omega, by omega⟩
    unfold wrap64
    omega
  rw [hq, hb]
  clear hq hb
  go_loopw [8] (fun v8 w' => ∃ d : Nat, d ≤ b ∧ q + d ≤ 8 * (l0.length + 4) ∧ v8 = .int .i64 ((q : Int) + d) ∧ Aside0 (Kd.R (Kd.int .u8) 5 w' w.heap.size (fun _ => True) (.slice (some ⟨g, 0, none⟩) (l0.length + 4) cs) (turnL l0 q d)) ∧ Aside0 (Below w.heap.size w w')) (fun v8 _ => (8 * (l0.length + 4) - intOf v8).toNat)
  case atStart => exact ⟨0, by omega, by omega, by simp, ⟨by have h := XR.out; rw [turn_zero _ _ W0.out]; exact h⟩, BB⟩
  case round =>
    obtain ⟨d, hd, hqd, rfl, XO, BO⟩ := hrel
    by_cases h1 : d < b ∧ q + d < 8 * (l0.length + 4)
    · obtain ⟨h1, h2⟩ := h1
      obtain ⟨k1, k2⟩ := Kd.R_celln (0 : Int) XO.out (((q : Int) + d) / 8) (by omega) (by omega)
      have e8 : (((q : Int) + d) / 8).toNat = (q + d) / 8 := by omega
      rw [e8] at k1 k2
      have k3 : ((q : Int) + d) / 8 < (l0.length : Int) + 4 := by omega
      have k4 : 0 ≤ ((q : Int) + d) / 8 := by omega
      clear e8
      go_wp2_with fail
      go_region
      have PX := Aside0.mk (Kd.R_putn XO.out (((q : Int) + d) / 8) (Go.bits .xor .u8 (rdOf (0 : Int) (turnL l0 q d) (((q : Int) + d) / 8)) (2 ^ ((q + d) % 8) % 256)))
      have e9 : (((q : Int) + d) / 8).toNat = (q + d) / 8 := by omega
      rw [e9, turn_step l0 W0.out q d h2] at PX
      have BX := Aside0.mk (below_set (j := (q + d) / 8) (v := .int .u8 (Go.bits .xor .u8 (rdOf (0 : Int) (turnL l0 q d) (((q : Int) + d) / 8)) (2 ^ ((q + d) % 8) % 256))) BO.out (own_base (Kd.own_of_R XO.out) g rfl))
      clear e9
      go_wp2
      go_roundw
      case rel => exact ⟨d + 1, by omega, by omega, by first | rfl | (congr 1; omega), ⟨Kd.R_drew PX.out⟩, ⟨BX.out.drew⟩⟩
      case measure => simp [intOf]; omega
    · have hde : 1 ≤ d := by omega
      have TO := Aside0.mk (turn_open l0 W0.out q d hde (by omega) hqd)
      have TL := Aside0.mk (turnL_length l0 q d)
      obtain ⟨_, cx, hxx, hcx, hC⟩ := Kd.R_reads XO.out
      simp only [Value.slice.injEq] at hxx
      obtain ⟨rfl, hxl, rfl⟩ := hxx
      clear hxl
      have OC : Aside0 (Calls Try.prog 12 #[.slice (some ⟨g, 0, none⟩) (l0.length + 4) cs] wr fun e w' => ∃ A' c', e = .returned (.tuple #[.slice A' 0 c', .int .i64 16]) ∧ Aside0 (Below wr.heap.size wr w')) := by
        refine ⟨?_⟩
        have h := openW (some ⟨g, 0, none⟩) cs (turnL l0 q d) wr hC hcx (turn_byteL l0 W0.out q d) (by rw [turnL_length]; omega)
        rw [TO.out, TL.out] at h
        exact h.mono (fun e w' ⟨A', c', h1, _, _, h4⟩ => ⟨A', c', h1, h4⟩)
      clear hC hcx
      by_cases h2 : d < b
      all_goals
        go_wp2_with fail
        refine OC.out.mono ?_
        rintro e w' ⟨A', c', rfl, hB⟩
        have BZ := Aside0.mk (BO.out.trans (hB.out.mono BO.out.size))
        clear hB
        go_wp2
        go_ret
        exact ⟨rfl, BZ.out⟩
end Go.Proofs.Ytgjhhbljbnbjkaa.PA
