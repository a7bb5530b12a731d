/- Texts of this claim: contracts of the functions that the statement reaches, and plain laws of what they compute. -/
import Derived.Test.YtmkkeccmjejfnaaDoorQRest4
set_option linter.unusedVariables false
set_option linter.unusedSimpArgs false
namespace Go.Proofs.YtmkkeccmjejfnaaDoor.PA
section

open Go.RowKit Go.Proofs.YtmkkeccmjejfnaaDoorW.PrintWords Go.Proofs.YtmkkeccmjejfnaaDoorW.PrintLast Go.Proofs.YtmkkeccmjejfnaaDoorW.PrintMore
set_option linter.unusedVariables false
set_option linter.unusedSimpArgs false
set_option maxHeartbeats 2000000 in
set_option maxRecDepth 100000 in
theorem cisternlaw07_RecordKinds.walk (s0 s1 s2 p0 : Int) (pt : ByteArray) (w : World) (w0 : ((Lit.int .i64 s0).wf = true) ∧ ((Lit.int .i64 s1).wf = true) ∧ ((Lit.int .i64 s2).wf = true)) (w1 : ((Lit.int .i64 p0).wf = true) ∧ (pt.size ≤ maxLen)) :
    Calls Tryd.prog 8 #[.agg #[.int .i64 s0, .int .i64 s1, .int .i64 s2], .agg #[.int .i64 p0, .string pt]] w fun e w' => e = .returned (.bool true) ∧ Below w.heap.size w w' := by
  obtain ⟨K, hK⟩ : ∃ K : Nat, 6000000 ≤ K := ⟨6000000, Nat.le_refl _⟩
  have FS := kinds_super s0 s1 s2 ⟨wf64_iff.1 w0.1, wf64_iff.1 w0.2.1, wf64_iff.1 w0.2.2⟩ K hK
  have FH := Aside0.mk (kinds_home p0 pt (wf64_iff.1 w1.1) K hK)
  have KN : Aside0 (cisternlaw07_known.f K = some true) := ⟨known_val K (by omega)⟩
  clear w0 w1 hK
  go_enter Tryd.func8, Tryd.ntmps8
  go_wp2_with fail
  refine (cisternlaw07_known.calls K true _ KN.out).mono ?_
  rintro e wa ⟨rfl, hB⟩
  obtain ⟨a0, a1, ab⟩ := alloc2 w (.cells #[.int .i64 s0, .int .i64 s1, .int .i64 s2] 23) (.cells #[.int .i64 p0, .string pt] 27)
  have X0 := Aside0.mk ((hB.block w.heap.size (by simp <;> omega)).trans a0)
  have X1 := Aside0.mk ((hB.block (w.heap.size + 1) (by simp <;> omega)).trans a1)
  have HZ := Aside0.mk (show w.heap.size + 2 ≤ wa.heap.size by have := hB.size; simp at this; omega)
  have BA := Aside0.mk (ab.trans (hB.mono (by simp <;> omega)))
  have KB : Aside0 (∀ W, Below wa.heap.size wa W → (W.cell? ⟨w.heap.size, 0, none⟩ = some (.int .i64 s0) ∧ W.cell? ⟨w.heap.size, 1, none⟩ = some (.int .i64 s1) ∧ W.cell? ⟨w.heap.size, 2, none⟩ = some (.int .i64 s2)) ∧ W.cell? ⟨w.heap.size + 1, 0, none⟩ = some (.int .i64 p0) ∧ W.cell? ⟨w.heap.size + 1, 1, none⟩ = some (.string pt)) :=
    ⟨fun W h => ⟨boxc3 ((h.block w.heap.size (by have := HZ.out; omega)).trans X0.out), boxc2 ((h.block (w.heap.size + 1) (by have := HZ.out; omega)).trans X1.out)⟩⟩
  clear hB a0 a1 ab X0 X1
  obtain ⟨⟨k0, k1, k2⟩, k3, k4⟩ := KB.out wa (Below.refl _ _)
  rcases FS with ES | ⟨x, g, ES, hl, h1, h2, hg, h3, h4⟩
  · have EA := Aside0.mk ES
    clear ES
    go_wp2_with fail
    refine (record_EncodeSuper.calls K s0 s1 s2 [] 2 wa EA.out).mono ?_
    rintro e wb ⟨v, rfl, hR, hB⟩
    obtain ⟨A1, c1, rfl, hc1, hC1⟩ := Kd.R_reads hR
    have BV := Aside0.mk hB
    clear hR hB hc1 hC1 k0 k1 k2 k3 k4
    obtain ⟨⟨k0, k1, k2⟩, k3, k4⟩ := KB.out _ BV.out
    rcases FH.out with EH | ⟨y, EH, hm, h5, h6, h7⟩
    · have EA := Aside0.mk EH
      clear EH
      go_wp2_with fail
      refine (record_EncodeHome.calls K p0 pt [] 2 _ EA.out).mono ?_
      rintro e wm ⟨v, rfl, hR, hB⟩
      obtain ⟨A2, c2, rfl, hc2, hC2⟩ := Kd.R_reads hR
      have L2 := Aside0.mk hc2
      have X2 := Aside0.mk hC2
      have BM := Aside0.mk (BV.out.trans (hB.mono BV.out.size))
      clear hR hB hc2 hC2 k0 k1 k2 k3 k4 BV
      go_wp2_with fail
      go_ret
      exact ⟨rfl, BA.out.trans (BM.out.mono BA.out.size)⟩
    · have EA := Aside0.mk EH
      clear EH
      have h5 := Aside0.mk h5
      have h6 := Aside0.mk h6
      have h7 := Aside0.mk h7
      have hm' : ((y.length : Nat) : Int) = 256 := by rw [hm]; rfl
      clear hm
      go_wp2_with fail
      refine (record_EncodeHome.calls K p0 pt y 0 _ EA.out).mono ?_
      rintro e wm ⟨v, rfl, hR, hB⟩
      obtain ⟨A2, c2, rfl, hc2, hC2⟩ := Kd.R_reads hR
      have L2 := Aside0.mk hc2
      have X2 := Aside0.mk hC2
      have BM := Aside0.mk (BV.out.trans (hB.mono BV.out.size))
      clear hR hB hc2 hC2 k0 k1 k2 k3 k4 BV
      have BQ := Aside0.mk (Below.refl wm.heap.size wm)
      go_wp2_with fail
      refine (record_DecodeLog.calls K A2 c2 y 0 0 0 0 0 0 0 ⟨#[]⟩ 2 wm X2.out L2.out h5.out).mono ?_
      rintro e wn ⟨rfl, hB⟩
      have Bwn := Aside0.mk (BQ.out.trans (hB.mono BQ.out.size))
      clear hB BQ h5
      go_wp2_with fail
      refine (record_DecodeSuper.calls K A2 c2 y 0 0 0 2 _ (Kd.C_alloc (Kd.C_below X2.out Bwn.out) _) L2.out h6.out).mono ?_
      rintro e wo ⟨rfl, hB⟩
      have Bwo := Aside0.mk (Bwn.out.trans ((below_alloc (Below.refl _ _) _).trans (hB.mono (by simp)) |>.mono Bwn.out.size))
      clear hB Bwn h6
      go_wp2_with fail
      refine (record_DecodeHome.calls K A2 c2 y p0 pt 0 _ (Kd.C_alloc (Kd.C_below X2.out Bwo.out) _) L2.out h7.out).mono ?_
      rintro e wp ⟨rfl, hB⟩
      have Bwp := Aside0.mk (Bwo.out.trans ((below_alloc (Below.refl _ _) _).trans (hB.mono (by simp)) |>.mono Bwo.out.size))
      clear hB Bwo h7
      have BR := Aside0.mk (BM.out.trans (Bwp.out.mono BM.out.size))
      have BS := Aside0.mk (below_alloc BR.out (.cells #[.int .i64 p0, .string pt] 27))
      obtain ⟨⟨k0, k1, k2⟩, k3, k4⟩ := KB.out _ BS.out
      obtain ⟨j0, j1⟩ := boxc2 (heap_alloc_new wp (.cells #[.int .i64 p0, .string pt] 27))
      clear k0 k1 k2
      go_wp2_with fail
      go_ret
      exact ⟨rfl, BA.out.trans (BS.out.mono BA.out.size)⟩
  · have EA := Aside0.mk ES
    clear ES
    have h1 := Aside0.mk h1
    have h2 := Aside0.mk h2
    have h3 := Aside0.mk h3
    have h4 := Aside0.mk h4
    have hl' : ((x.length : Nat) : Int) = 256 := by rw [hl]; rfl
    have hg' : (g == 0) = false := beq_eq_false_iff_ne.2 hg
    clear hl hg
    go_wp2_with fail
    refine (record_EncodeSuper.calls K s0 s1 s2 x 0 wa EA.out).mono ?_
    rintro e wb ⟨v, rfl, hR, hB⟩
    obtain ⟨A1, c1, rfl, hc1, hC1⟩ := Kd.R_reads hR
    have L1 := Aside0.mk hc1
    have X1 := Aside0.mk hC1
    have BV := Aside0.mk hB
    have BQ := Aside0.mk (Below.refl wb.heap.size wb)
    clear hR hB hc1 hC1 k0 k1 k2 k3 k4
    go_wp2_with fail
    refine (record_DecodeLog.calls K A1 c1 x 0 0 0 0 0 0 0 ⟨#[]⟩ 2 wb X1.out L1.out h1.out).mono ?_
    rintro e wc ⟨rfl, hB⟩
    have Bwc := Aside0.mk (BQ.out.trans (hB.mono BQ.out.size))
    clear hB BQ h1
    go_wp2_with fail
    refine (record_DecodeHome.calls K A1 c1 x 0 ⟨#[]⟩ 2 _ (Kd.C_alloc (Kd.C_below X1.out Bwc.out) _) L1.out h2.out).mono ?_
    rintro e wd ⟨rfl, hB⟩
    have Bwd := Aside0.mk (Bwc.out.trans ((below_alloc (Below.refl _ _) _).trans (hB.mono (by simp)) |>.mono Bwc.out.size))
    clear hB Bwc h2
    go_wp2_with fail
    refine (record_DecodePairs.calls K A1 c1 x 0 [] g _ (Kd.C_alloc (Kd.C_below X1.out Bwd.out) _) L1.out h3.out).mono ?_
    rintro e we ⟨v, rfl, hR, hB⟩
    have Bwe := Aside0.mk (Bwd.out.trans ((below_alloc (Below.refl _ _) _).trans (hB.mono (by simp)) |>.mono Bwd.out.size))
    obtain ⟨A3, c3, rfl, hc3, hC3⟩ := Kd.R_reads hR
    clear hB hR hc3 hC3 Bwd h3
    go_wp2_with fail
    refine (record_DecodeSuper.calls K A1 c1 x s0 s1 s2 0 _ (Kd.C_below X1.out Bwe.out) L1.out h4.out).mono ?_
    rintro e wf ⟨rfl, hB⟩
    have Bwf := Aside0.mk (Bwe.out.trans (hB.mono Bwe.out.size))
    clear hB Bwe h4
    have BR := Aside0.mk (BV.out.trans (Bwf.out.mono BV.out.size))
    have BS := Aside0.mk (below_alloc BR.out (.cells #[.int .i64 s0, .int .i64 s1, .int .i64 s2] 23))
    obtain ⟨⟨k0, k1, k2⟩, k3, k4⟩ := KB.out _ BS.out
    obtain ⟨j0, j1, j2⟩ := boxc3 (heap_alloc_new wf (.cells #[.int .i64 s0, .int .i64 s1, .int .i64 s2] 23))
    clear BV Bwf BR
    rcases FH.out with EH | ⟨y, EH, hm, h5, h6, h7⟩
    · have EA := Aside0.mk EH
      clear EH
      go_wp2_with fail
      refine (record_EncodeHome.calls K p0 pt [] 2 _ EA.out).mono ?_
      rintro e wm ⟨v, rfl, hR, hB⟩
      obtain ⟨A2, c2, rfl, hc2, hC2⟩ := Kd.R_reads hR
      have L2 := Aside0.mk hc2
      have X2 := Aside0.mk hC2
      have BM := Aside0.mk (BS.out.trans (hB.mono BS.out.size))
      clear hR hB hc2 hC2 k0 k1 k2 k3 k4 j0 j1 j2 BS hg' hl'
      go_wp2_with fail
      go_ret
      exact ⟨rfl, BA.out.trans (BM.out.mono BA.out.size)⟩
    · have EA := Aside0.mk EH
      clear EH
      have h5 := Aside0.mk h5
      have h6 := Aside0.mk h6
      have h7 := Aside0.mk h7
      have hm' : ((y.length : Nat) : Int) = 256 := by rw [hm]; rfl
      clear hm
      go_wp2_with fail
      refine (record_EncodeHome.calls K p0 pt y 0 _ EA.out).mono ?_
      rintro e wm ⟨v, rfl, hR, hB⟩
      obtain ⟨A2, c2, rfl, hc2, hC2⟩ := Kd.R_reads hR
      have L2 := Aside0.mk hc2
      have X2 := Aside0.mk hC2
      have BM := Aside0.mk (BS.out.trans (hB.mono BS.out.size))
      clear hR hB hc2 hC2 k0 k1 k2 k3 k4 j0 j1 j2 BS hg' hl'
      have BQ := Aside0.mk (Below.refl wm.heap.size wm)
      go_wp2_with fail
      refine (record_DecodeLog.calls K A2 c2 y 0 0 0 0 0 0 0 ⟨#[]⟩ 2 wm X2.out L2.out h5.out).mono ?_
      rintro e wn ⟨rfl, hB⟩
      have Bwn := Aside0.mk (BQ.out.trans (hB.mono BQ.out.size))
      clear hB BQ h5
      go_wp2_with fail
      refine (record_DecodeSuper.calls K A2 c2 y 0 0 0 2 _ (Kd.C_alloc (Kd.C_below X2.out Bwn.out) _) L2.out h6.out).mono ?_
      rintro e wo ⟨rfl, hB⟩
      have Bwo := Aside0.mk (Bwn.out.trans ((below_alloc (Below.refl _ _) _).trans (hB.mono (by simp)) |>.mono Bwn.out.size))
      clear hB Bwn h6
      go_wp2_with fail
      refine (record_DecodeHome.calls K A2 c2 y p0 pt 0 _ (Kd.C_alloc (Kd.C_below X2.out Bwo.out) _) L2.out h7.out).mono ?_
      rintro e wp ⟨rfl, hB⟩
      have Bwp := Aside0.mk (Bwo.out.trans ((below_alloc (Below.refl _ _) _).trans (hB.mono (by simp)) |>.mono Bwo.out.size))
      clear hB Bwo h7
      have BR := Aside0.mk (BM.out.trans (Bwp.out.mono BM.out.size))
      have BS := Aside0.mk (below_alloc BR.out (.cells #[.int .i64 p0, .string pt] 27))
      obtain ⟨⟨k0, k1, k2⟩, k3, k4⟩ := KB.out _ BS.out
      obtain ⟨j0, j1⟩ := boxc2 (heap_alloc_new wp (.cells #[.int .i64 p0, .string pt] 27))
      clear k0 k1 k2
      go_wp2_with fail
      go_ret
      exact ⟨rfl, BA.out.trans (BS.out.mono BA.out.size)⟩
end
end Go.Proofs.YtmkkeccmjejfnaaDoor.PA
namespace Go.Proofs.YtmkkeccmjejfnaaDoor.PA
section

open Go.RowKit Go.Proofs.YtmkkeccmjejfnaaDoorW.PrintWords Go.Proofs.YtmkkeccmjejfnaaDoorW.PrintLast Go.Proofs.YtmkkeccmjejfnaaDoorW.PrintMore
set_option linter.unusedVariables false
set_option linter.unusedSimpArgs false
/-- What the loop has made behind d rounds. -/
def turnL (l : List Int) (at_ d : Nat) : List Int := xorL (sealL l) (patL at_ d (l.length + 4))
theorem turnL_length (l : List Int) (at_ d : Nat) : (turnL l at_ d).length = l.length + 4 := by rw [turnL, xorL_length, sealL_length]
theorem xorL_zeros (l : List Int) (h : ∀ x ∈ l, 0 ≤ x) (n : Nat) : xorL l (List.replicate n 0) = l := by
  induction l generalizing n with
  | nil => cases n <;> rfl
  | cons a l ih =>
    cases n with
    | zero => rfl
    | succ n =>
      have := h a (by simp)
      simp only [List.replicate_succ, xorL, Nat.xor_zero]
      rw [ih (fun x hx => h x (by simp [hx]))]
      congr 1
      omega
theorem turn_zero (l : List Int) (q : Nat) (h : byteL l) : turnL l q 0 = sealL l := by
  have e : patL q 0 (l.length + 4) = List.replicate (l.length + 4) 0 := by
    refine List.eq_replicate_iff.2 ⟨by simp [patL], fun x hx => ?_⟩
    simp only [patL, List.mem_map] at hx
    obtain ⟨i, _, rfl⟩ := hx
    rfl
  rw [turnL, e, xorL_zeros _ (fun x hx => (sealL_byteL h x hx).1)]
theorem xorL_get (l : List Int) : ∀ (e : List Nat) (i : Nat) (h1 : i < l.length) (h2 : i < e.length) (h3 : i < (xorL l e).length), (xorL l e)[i] = ((l[i].toNat ^^^ e[i] : Nat) : Int) := by
  induction l with
  | nil => intro e i h1; simp at h1
  | cons a l ih =>
    intro e i h1 h2 h3
    match e, h2 with
    | b :: e, h2 =>
      cases i with
      | zero => simp [xorL]
      | succ i =>
        simp only [xorL, List.getElem_cons_succ]
        exact ih e i (by simpa using h1) (by simpa using h2) _
theorem xor_u8 (a b : Nat) (ha : a < 256) (hb : b < 256) : Go.bits .xor .u8 (a : Int) (b : Int) = ((a ^^^ b : Nat) : Int) := by
  have hx : a ^^^ b < 256 := Nat.xor_lt_two_pow (n := 8) ha hb
  have e1 : a % 2 ^ IntKind.u8.bits = a := Nat.mod_eq_of_lt ha
  have e2 : b % 2 ^ IntKind.u8.bits = b := Nat.mod_eq_of_lt hb
  simp only [bits, BitVec.ofInt_natCast, BitVec.toNat_xor, BitVec.toNat_ofNat, e1, e2, IntKind.wrap_u8]
  omega
theorem turn_get (l : List Int) (hl : byteL l) (q d i : Nat) (h : i < l.length + 4) : (turnL l q d)[i]'(by rw [turnL_length]; exact h) = (((sealL l)[i]'(by rw [sealL_length]; exact h)).toNat ^^^ patD q d i : Nat) := by
  unfold turnL
  rw [xorL_get (sealL l) (patL q d (l.length + 4)) i (by rw [sealL_length]; exact h) (by simp [patL]; exact h)]
  simp [patL]
theorem turn_step (l : List Int) (hl : byteL l) (q d : Nat) (h : q + d < 8 * (l.length + 4)) :
    (turnL l q d).set ((q + d) / 8) (Go.bits .xor .u8 (rdOf (0 : Int) (turnL l q d) (((q : Int) + d) / 8)) (2 ^ ((q + d) % 8) % 256)) = turnL l q (d + 1) := by
  have hi : (q + d) / 8 < l.length + 4 := by omega
  have e8 : (((q : Int) + d) / 8).toNat = (q + d) / 8 := by omega
  have hr : rdOf (0 : Int) (turnL l q d) (((q : Int) + d) / 8) = (turnL l q d)[(q + d) / 8]'(by rw [turnL_length]; exact hi) := by
    unfold rdOf
    rw [e8, List.getD_eq_getElem?_getD, List.getElem?_eq_getElem (by rw [turnL_length]; exact hi)]
    rfl
  have hp : (2 : Int) ^ ((q + d) % 8) % 256 = ((2 ^ ((q + d) % 8) : Nat) : Int) := by
    have h1 : 2 ^ ((q + d) % 8) < 256 := Nat.pow_lt_pow_right (n := 8) (by decide) (by omega)
    rw [show (2 : Int) ^ ((q + d) % 8) = ((2 ^ ((q + d) % 8) : Nat) : Int) by simp]
    generalize 2 ^ ((q + d) % 8) = z at h1
    omega
  have hpl : 2 ^ ((q + d) % 8) < 256 := Nat.pow_lt_pow_right (n := 8) (by decide) (by omega)
  rw [hr, turn_get l hl q d _ hi, hp]
  have hsb := sealL_byteL hl ((sealL l)[(q + d) / 8]'(by rw [sealL_length]; exact hi)) (List.getElem_mem _)
  rw [xor_u8 _ _ (Nat.xor_lt_two_pow (n := 8) (by omega) (patD_byte _ _ _)) hpl]
  apply List.ext_getElem
  · simp [turnL_length]
  · intro i h1 h2
    have hil : i < l.length + 4 := by rw [turnL_length] at h2; exact h2
    rw [turn_get l hl q (d + 1) i hil, List.getElem_set]
    by_cases hii : (q + d) / 8 = i
    · subst hii
      rw [if_pos rfl, patD, if_pos rfl, Nat.xor_assoc]
    · rw [if_neg hii, turn_get l hl q d i hil, patD, if_neg hii, Nat.xor_zero]
theorem turn_open (l : List Int) (hl : byteL l) (q d : Nat) (h1 : 1 ≤ d) (h3 : d ≤ 3) (h : q + d ≤ 8 * (l.length + 4)) : openL (turnL l q d) = ([], 16) :=
  turned_open l hl _ (by simp [patL]) (fun x hx => by
    simp only [patL, List.mem_map] at hx
    obtain ⟨i, _, rfl⟩ := hx
    exact patD_byte _ _ _) (pat_ne q d _ h1 h3 h)
def flipB (l : List Int) (k : Nat) : List Int := l.set (k / 8) (Go.bits .xor .u8 (rdOf (0 : Int) l ((k : Int) / 8)) (2 ^ (k % 8) % 256))
theorem flip_seal (l : List Int) (hl : byteL l) (k : Nat) (h : k < 8 * (l.length + 4)) : flipB (sealL l) k = turnL l k 1 := by
  have := turn_step l hl k 0 (by omega)
  rw [turn_zero l k hl] at this
  simpa [flipB] using this
theorem flip_val (x : Int) (h0 : 0 ≤ x) (h1 : x < 256) (j : Nat) (hj : j < 8) : ∃ y : Nat, Go.bits .xor .u8 x (2 ^ j % 256) = (y : Int) ∧ (y : Int) ≠ x ∧ y < 256 := by
  have hpl : 2 ^ j < 256 := Nat.pow_lt_pow_right (n := 8) (by decide) hj
  have hp : (2 : Int) ^ j % 256 = ((2 ^ j : Nat) : Int) := by
    rw [show (2 : Int) ^ j = ((2 ^ j : Nat) : Int) by simp]
    generalize 2 ^ j = z at hpl
    omega
  obtain ⟨a, rfl⟩ : ∃ a : Nat, x = a := ⟨x.toNat, by omega⟩
  rw [hp, xor_u8 _ _ (by omega) hpl]
  refine ⟨_, rfl, ?_, Nat.xor_lt_two_pow (n := 8) (by omega) hpl⟩
  intro h
  have h2 : a ^^^ 2 ^ j = a := by omega
  have h3 : a ^^^ (a ^^^ 2 ^ j) = 2 ^ j := by rw [← Nat.xor_assoc, Nat.xor_self, Nat.zero_xor]
  rw [h2, Nat.xor_self] at h3
  have := Nat.pos_of_ne_zero (n := 2 ^ j) (by simp)
  omega
theorem flipB_length (l : List Int) (k : Nat) : (flipB l k).length = l.length := by simp [flipB]
theorem flipB_at (l : List Int) (hl : byteL l) (k : Nat) (h : k / 8 < l.length) : ∃ y : Nat, y < 256 ∧ (y : Int) ≠ l[k / 8] ∧ flipB l k = l.set (k / 8) (y : Int) := by
  have hb := hl l[k / 8] (List.getElem_mem _)
  have e8 : ((k : Int) / 8).toNat = k / 8 := by omega
  have hr : rdOf (0 : Int) l ((k : Int) / 8) = l[k / 8] := by
    unfold rdOf
    rw [e8, List.getD_eq_getElem?_getD, List.getElem?_eq_getElem h]
    rfl
  obtain ⟨y, h1, h2, h3⟩ := flip_val l[k / 8] hb.1 (by omega) (k % 8) (by omega)
  exact ⟨y, h3, h2, by rw [flipB, hr, h1]⟩
theorem flipB_byteL (l : List Int) (hl : byteL l) (k : Nat) (h : k / 8 < l.length) : byteL (flipB l k) := by
  obtain ⟨y, h1, h2, h3⟩ := flipB_at l hl k h
  rw [h3]
  intro x hx
  rcases List.mem_or_eq_of_mem_set hx with hx | rfl
  · exact hl x hx
  · exact ⟨by omega, by omega⟩
theorem turned_blob (n : Int) (l : List S65) (hl : l.length ≤ 1900) (hf : fitL none l = true) (k : Nat) (hk : k < 8 * (blobL n l).length) : docPV (flipB (blobL n l) k) = (0, [], 16) := by
  have hk' : k < 8 * ((encL (itemsP n l)).length + 4) := by unfold blobL at hk; rw [sealL_length] at hk; exact hk
  have e : unsealV (flipB (blobL n l) k) = ([], 16) := by
    unfold unsealV blobL
    rw [flip_seal _ (encL_byteL _) k hk', turn_open _ (encL_byteL _) k 1 (by omega) (by omega) (by omega)]
    rfl
  unfold docPV
  rw [e]
  rfl
theorem log_parts (ns : List Int) (t : ByteArray) : encL (recI (2 :: ns) (some t)) = encL (numI (2 :: ns)) ++ (2 :: (leB (t.size : Int) 2 ++ bytesOf t)) := by
  rw [recI, encL_append]
  simp [textI, encL, encI]
theorem numI_enc (ns : List Int) : (encL (numI ns)).length = 9 * ns.length := by
  induction ns with
  | nil => rfl
  | cons n ns ih =>
    rw [show numI (n :: ns) = ⟨1, n, ⟨#[]⟩⟩ :: numI ns from rfl, encL_cons, List.length_append, ih, encI_num, List.length_cons]
    omega
theorem log_sealed (ns : List Int) (t : ByteArray) (hn : ns.length = 7) : (sealL (encL (recI (2 :: ns) (some t)))).length = 79 + t.size ∧ (sealL (encL (recI (2 :: ns) (some t))))[73]? = some ((t.size : Int) % 256) := by
  have h := numI_enc (2 :: ns)
  rw [List.length_cons, hn] at h
  constructor
  · rw [sealL_length, log_parts, List.length_append, h]
    simp [leB_length, bytesOf_length]
    omega
  · unfold sealL
    rw [log_parts, List.append_assoc, List.getElem?_append_right (by omega), h]
    simp [leB]
theorem frame_tail (u : List Int) (i : Nat) (h : u.length + 2 ≤ i) (h2 : i < 256) (hu : u.length ≤ 254) : (frameL u 256)[i]? = some 0 := by
  obtain ⟨j, rfl⟩ : ∃ j, i = j + 2 := ⟨i - 2, by omega⟩
  unfold frameL
  rw [List.getElem?_cons_succ, List.getElem?_cons_succ, List.getElem?_append_right (by omega), List.getElem?_replicate, if_pos (by omega)]
theorem flip_frame (u : List Int) (k : Nat) (h : 16 ≤ k) (h2 : k / 8 - 2 < u.length) : flipB (frameL u 256) k = ((u.length : Int) % 256) :: ((u.length : Int) / 256) :: (flipB u (k - 16) ++ List.replicate (256 - 2 - u.length) 0) := by
  unfold flipB frameL
  have e1 : k / 8 = (k - 16) / 8 + 1 + 1 := by omega
  have e2 : k % 8 = (k - 16) % 8 := by omega
  have e3 : ((k : Int) / 8).toNat = (k - 16) / 8 + 1 + 1 := by omega
  have e4 : (((k - 16 : Nat) : Int) / 8).toNat = (k - 16) / 8 := by omega
  have e5 : rdOf (0 : Int) (((u.length : Int) % 256) :: ((u.length : Int) / 256) :: (u ++ List.replicate (256 - 2 - u.length) 0)) ((k : Int) / 8) = rdOf (0 : Int) u (((k - 16 : Nat) : Int) / 8) := by
    unfold rdOf
    rw [e3, e4, List.getD_eq_getElem?_getD, List.getD_eq_getElem?_getD, List.getElem?_cons_succ, List.getElem?_cons_succ, List.getElem?_append_left (by omega)]
  rw [e5, e2, e1, List.set_cons_succ, List.set_cons_succ, List.set_append_left _ _ (by omega)]
theorem turned_log {ns : List Int} {t : ByteArray} (h : rightB 2 ns t = true) (k : Nat) (hk : k < 2048) (ns2 : List Int) (t2 : ByteArray) : docV (flipB (secL (recI (2 :: ns) (txt 2 t))) k) 2 ≠ (2, ns2, t2, 0) := by
  intro hd
  obtain ⟨hb, hlen⟩ := sec_facts h
  have hbb := flipB_byteL _ hb k (by omega)
  obtain ⟨_, hr2, e, _, _, _⟩ := doc_tells hbb hd
  obtain ⟨y, hy, hne, hf⟩ := flipB_at _ hb k (by omega)
  have hn2 : (secL (recI (2 :: ns) (txt 2 t)))[k / 8]? ≠ some (y : Int) := by
    rw [List.getElem?_eq_getElem (by omega)]
    exact fun q => hne (Option.some.inj q).symm
  clear hne
  have ht : txt 2 t = some t := rfl
  have ht2 : txt 2 t2 = some t2 := rfl
  rw [ht] at hb hlen hbb e hf hn2
  rw [ht2] at e
  have n7 : ns.length = 7 := (rightB_len h).1
  have s7 : t.size ≤ 160 := (rightB_len h).2
  have m7 : ns2.length = 7 := (rightB_len hr2).1
  have s8 : t2.size ≤ 160 := (rightB_len hr2).2
  obtain ⟨u1, u2⟩ := log_sealed ns t n7
  obtain ⟨v1, v2⟩ := log_sealed ns2 t2 m7
  have ho := openL_seal (encL (recI (2 :: ns2) (some t2))) (encL_byteL _)
  have hop : ∀ q, q < 8 * ((encL (recI (2 :: ns) (some t))).length + 4) → openL (flipB (sealL (encL (recI (2 :: ns) (some t)))) q) = ([], 16) := fun q hq => by
    rw [flip_seal _ (encL_byteL _) q hq]
    exact turn_open _ (encL_byteL _) q 1 (by omega) (by omega) (by omega)
  have hul : (sealL (encL (recI (2 :: ns) (some t)))).length = (encL (recI (2 :: ns) (some t))).length + 4 := sealL_length _
  unfold secL at e hf hn2 hlen
  generalize sealL (encL (recI (2 :: ns) (some t))) = u at *
  generalize sealL (encL (recI (2 :: ns2) (some t2))) = v at *
  by_cases hk2 : k / 8 < 2
  · have hd2 := congrArg (List.drop 2) (hf.symm.trans e)
    rw [List.drop_set, if_pos hk2] at hd2
    simp only [frameL, List.drop_succ_cons, List.drop_zero] at hd2
    have h73 := congrArg (fun l => l[73]?) hd2
    rw [List.getElem?_append_left (by omega), List.getElem?_append_left (by omega), u2, v2] at h73
    have hs : t.size = t2.size := by
      have := Option.some.inj h73
      omega
    have huv : u.length = v.length := by omega
    have hbv : frameL u 256 = frameL v 256 := by
      unfold frameL
      rw [hd2, huv]
    rw [hf, ← hbv] at e
    have := congrArg (fun l => l[k / 8]?) e
    simp only [List.getElem?_set_self (show k / 8 < (frameL u 256).length by omega)] at this
    exact hn2 this.symm
  · have h0 := congrArg (fun l => l[0]?) (hf.symm.trans e)
    rw [List.getElem?_set_ne (by omega)] at h0
    simp only [frameL, List.getElem?_cons_zero] at h0
    have huv : u.length = v.length := by
      have := Option.some.inj h0
      omega
    by_cases hk3 : k / 8 - 2 < u.length
    · rw [flip_frame u k (by omega) hk3] at e
      unfold frameL at e
      have e2 := (List.cons.inj (List.cons.inj e).2).2
      have e3 := (List.append_inj e2 (by rw [flipB_length, huv])).1
      rw [← e3, hop (k - 16) (by omega)] at ho
      simp at ho
    · have h1 := congrArg (fun l => l[k / 8]?) (hf.symm.trans e)
      rw [List.getElem?_set_self (by omega), frame_tail v (k / 8) (by omega) (by omega) (by omega)] at h1
      exact hn2 ((frame_tail u (k / 8) (by omega) (by omega) (by omega)).trans h1.symm)
end
end Go.Proofs.YtmkkeccmjejfnaaDoor.PA
namespace Go.Proofs.YtmkkeccmjejfnaaDoor.PA
section

open Go.RowKit Go.Proofs.YtmkkeccmjejfnaaDoorW.PrintWords Go.Proofs.YtmkkeccmjejfnaaDoorW.PrintLast Go.Proofs.YtmkkeccmjejfnaaDoorW.PrintMore
set_option linter.unusedVariables false
set_option linter.unusedSimpArgs false
theorem R_flip {w : World} {base : Nat} {v : Value} {l : List Int} (hR : (Kd.int .u8).R 5 w base (fun _ => True) v l) (i : Nat) (hi : i < l.length) :
    ∃ g c, v = .slice (some ⟨g, 0, none⟩) l.length c ∧ base ≤ g ∧ (w.cell? ⟨g, i, none⟩ = some (.int .u8 (rdOf (0 : Int) l (i : Int))) ∧ w.frozen? ⟨g, i, none⟩ = false) ∧ ∀ x : Int, (Kd.int .u8).R 5 (w.setCell ⟨g, i, none⟩ (.int .u8 x)) base (fun _ => True) (.slice (some ⟨g, 0, none⟩) l.length c) (l.set i x) := by
  obtain ⟨inner, ho⟩ := Kd.R_own hR
  rcases ho.2 with ⟨hv, h0⟩ | ⟨g, cap, cur, hv, hg, _⟩
  · omega
  · subst hv
    obtain ⟨k1, k2⟩ := Kd.R_cell (0 : Int) hR (i : Int) (by omega) (by omega)
    rw [Int.toNat_natCast] at k1 k2
    refine ⟨g, cap, rfl, hg, ⟨k1, k2⟩, fun x => ?_⟩
    have h := (Kd.R_put hR (i : Int) x).1
    rw [Int.toNat_natCast] at h
    exact h
theorem turn_log (n0 n1 n2 n3 n4 n5 n6 : Int) (t : ByteArray) (hw : wf64 n0 ∧ wf64 n1 ∧ wf64 n2 ∧ wf64 n3 ∧ wf64 n4 ∧ wf64 n5 ∧ wf64 n6) (K : Nat) (hK : 6000000 ≤ K) : record_EncodeLog.f K n0 n1 n2 n3 n4 n5 n6 t = some ([], 2) ∨
    ∃ x, record_EncodeLog.f K n0 n1 n2 n3 n4 n5 n6 t = some (x, 0) ∧ x.length = 256 ∧ ∀ k, k < 2048 → ∃ g, g ≠ 0 ∧ record_DecodeLog.f K (flipB x k) = some (0, 0, 0, 0, 0, 0, 0, ⟨#[]⟩, g) := by
  rw [encodeLog_val n0 n1 n2 n3 n4 n5 n6 t K (by omega)]
  by_cases h : rightB 2 [n0, n1, n2, n3, n4, n5, n6] t = true
  · obtain ⟨hb, hl⟩ := sec_facts h
    rw [encV_ok h]
    refine Or.inr ⟨_, rfl, hl, fun k hk => ?_⟩
    rcases log_tells _ (flipB_byteL _ hb k (by omega)) (by rw [flipB_length]; omega) K (by omega) with ⟨m0, m1, m2, m3, m4, m5, m6, t', hd, hp⟩ | ⟨e, he, hd, hp⟩
    · exact absurd hd (turned_log h k hk _ _)
    · exact ⟨e, he, hp⟩
  · rw [encV_no h]; exact Or.inl rfl
theorem turn_pairs (l : List S65) (hl : l.length ≤ 140737488351232) (K : Nat) (hK : 2 * l.length + 8000000 ≤ K) : (∃ e, e ≠ 0 ∧ record_EncodePairs.f K 7 l = some ([], e)) ∨
    ∃ x, record_EncodePairs.f K 7 l = some (x, 0) ∧ 0 < x.length ∧ x.length ≤ 200000 ∧ ∀ k, k < 8 * x.length → record_DecodePairs.f K (flipB x k) = some (0, [], 16) := by
  rw [encodepairs_val 7 l hl K (by omega)]
  by_cases h : (encPV 7 l).2 = 0
  · obtain ⟨h1, h2, h3, h4⟩ := encPV_ok h
    have hlen := blobL_len 7 l h1 h3
    have hpos : 0 < (blobL 7 l).length := by unfold blobL; rw [sealL_length]; omega
    refine Or.inr ⟨blobL 7 l, by rw [← h4, ← h], hpos, hlen, fun k hk => ?_⟩
    rw [decodepairs_val _ (flipB_byteL _ (blobL_byteL 7 l) k (by omega)) (by rw [flipB_length]; omega) K (by rw [flipB_length]; omega), turned_blob 7 l h1 h3 k hk]
  · refine Or.inl ⟨(encPV 7 l).2, h, ?_⟩
    have : (encPV 7 l).1 = [] := by
      unfold encPV encT at h ⊢
      split
      · rfl
      · rename_i h1
        split
        · rfl
        · rename_i h2
          rw [if_neg h1, if_neg h2] at h
          exact absurd rfl h
    rw [← this]
set_option maxHeartbeats 1000000 in
set_option maxRecDepth 100000 in
theorem cisternlaw07_RecordTurned.walk (n0 n1 n2 n3 n4 n5 n6 : Int) (t : ByteArray) (A1 : Option Addr) (c1 : Nat) (l1 : List S65) (at_ : Int) (w : World)
    (w0 : ((Lit.int .i64 n0).wf = true) ∧ ((Lit.int .i64 n1).wf = true) ∧ ((Lit.int .i64 n2).wf = true) ∧ ((Lit.int .i64 n3).wf = true) ∧ ((Lit.int .i64 n4).wf = true) ∧ ((Lit.int .i64 n5).wf = true) ∧ ((Lit.int .i64 n6).wf = true) ∧ (t.size ≤ maxLen))
    (hr1 : Kd.C k65 w A1 l1.length l1) (hc1 : l1.length ≤ c1) (y1 : l1.length * 32 ≤ 140737488351232) (_w1 : ∀ v ∈ l1, (v.f0.size ≤ maxLen) ∧ (v.f1.size ≤ maxLen)) (_w2 : (Lit.int .i64 at_).wf = true) :
    Calls Tryd.prog 6 #[.agg #[.int .i64 n0, .int .i64 n1, .int .i64 n2, .int .i64 n3, .int .i64 n4, .int .i64 n5, .int .i64 n6, .string t], .slice A1 l1.length c1, .int .i64 at_] w fun e w' => e = .returned (.bool true) ∧ Below w.heap.size w w' := by
  have R1 := Aside0.mk hr1
  have C1 := Aside0.mk hc1
  obtain ⟨K, hK⟩ : ∃ K : Nat, K = 2 * l1.length + 9000000 := ⟨_, rfl⟩
  have FL := turn_log n0 n1 n2 n3 n4 n5 n6 t ⟨wf64_iff.1 w0.1, wf64_iff.1 w0.2.1, wf64_iff.1 w0.2.2.1, wf64_iff.1 w0.2.2.2.1, wf64_iff.1 w0.2.2.2.2.1, wf64_iff.1 w0.2.2.2.2.2.1, wf64_iff.1 w0.2.2.2.2.2.2.1⟩ K (by omega)
  have FP := Aside0.mk (turn_pairs l1 (by omega) K (by omega))
  have KN : Aside0 (cisternlaw07_known.f K = some true) := ⟨known_val K (by omega)⟩
  clear w0 hr1 hc1 y1 _w1 _w2 hK
  go_enter Tryd.func6, Tryd.ntmps6
  go_wp2_with fail
  refine (cisternlaw07_known.calls K true _ KN.out).mono ?_
  rintro e wa ⟨rfl, hB⟩
  have a0 := heap_alloc_new w (.cells #[.int .i64 n0, .int .i64 n1, .int .i64 n2, .int .i64 n3, .int .i64 n4, .int .i64 n5, .int .i64 n6, .string t] 25)
  have X0 := (hB.block w.heap.size (by simp)).trans a0
  have BA := Aside0.mk ((below_alloc (Below.refl w.heap.size w) _).trans (hB.mono (by simp)))
  clear hB a0
  obtain ⟨k0, k1, k2, k3, k4, k5, k6, k7⟩ := boxc8 X0
  clear X0
  rcases FL with ES | ⟨x, ES, hl, hx⟩
  · have EA := Aside0.mk ES
    clear ES
    go_wp2_with fail
    refine (record_EncodeLog.calls K n0 n1 n2 n3 n4 n5 n6 t [] 2 wa EA.out).mono ?_
    rintro e wb ⟨v, rfl, hR, hB⟩
    obtain ⟨A, c, rfl⟩ := Kd.R_slice hR
    have BZ := Aside0.mk (BA.out.trans (hB.mono BA.out.size))
    clear hR hB k0 k1 k2 k3 k4 k5 k6 k7
    go_wp2_with fail
    rcases FP.out with ⟨ee, he, EP⟩ | ⟨y, EP, hpos, hl, hy⟩
    · have EA2 := Aside0.mk EP
      have f1 : (ee == 0) = false := beq_eq_false_iff_ne.2 he
      clear EP he
      refine (record_EncodePairs.calls K 7 A1 c1 l1 [] ee _ (Kd.C_below R1.out BZ.out) C1.out EA2.out).mono ?_
      rintro e wd ⟨v, rfl, hR, hB⟩
      obtain ⟨A2, c2, rfl⟩ := Kd.R_slice hR
      have BE := Aside0.mk (BZ.out.trans (hB.mono BZ.out.size))
      clear hB hR
      go_wp2_with fail
      go_ret
      exact ⟨rfl, BE.out⟩
    · have EA2 := Aside0.mk EP
      have HY := Aside0.mk hy
      clear EP hy
      refine (record_EncodePairs.calls K 7 A1 c1 l1 y 0 _ (Kd.C_below R1.out BZ.out) C1.out EA2.out).mono ?_
      rintro e wd ⟨v, rfl, hR, hB⟩
      obtain ⟨A2, c2, rfl⟩ := Kd.R_slice hR
      obtain ⟨bb, hbb, RX2⟩ : ∃ bb, w.heap.size ≤ bb ∧ Aside0 ((Kd.int .u8).R 5 wd bb (fun _ => True) (.slice A2 y.length c2) y) := ⟨_, BZ.out.size, ⟨hR⟩⟩
      have BE := Aside0.mk (BZ.out.trans (hB.mono BZ.out.size))
      have hz : (8 : Int) * (y.length : Int) ≠ 0 := by omega
      clear hB hR
      obtain ⟨k2, hk, hkk⟩ : ∃ k2 : Nat, k2 < 8 * y.length ∧ wrap64 ((IntKind.u64.wrap at_).tmod (8 * (y.length : Int))) = (k2 : Int) := by
        have e : IntKind.u64.wrap at_ = at_ % 18446744073709551616 := by simp [IntKind.wrap, IntKind.signed, IntKind.bits]
        have h0 : 0 ≤ at_ % 18446744073709551616 := by omega
        rw [e, Int.tmod_eq_emod_of_nonneg h0]
        generalize at_ % 18446744073709551616 = q at h0
        have h1 := Int.emod_nonneg q (show (8 * (y.length : Int) : Int) ≠ 0 by omega)
        have h2 := Int.emod_lt_of_pos q (show (0 : Int) < 8 * (y.length : Int) by omega)
        refine ⟨(q % (8 * (y.length : Int))).toNat, by omega, ?_⟩
        unfold wrap64
        omega
      go_wp2_with fail
      obtain ⟨i2, hi⟩ : ∃ i2 : Nat, k2 / 8 = i2 := ⟨_, rfl⟩
      obtain ⟨j2, hj⟩ : ∃ j2 : Nat, k2 % 8 = j2 := ⟨_, rfl⟩
      obtain ⟨gg, cc, hv, hgg, ⟨m1, m2⟩, hput⟩ := R_flip RX2.out i2 (by omega)
      simp only [Value.slice.injEq] at hv
      obtain ⟨rfl, _, rfl⟩ := hv
      have FE : flipB y k2 = y.set i2 (Go.bits .xor .u8 (rdOf (0 : Int) y (i2 : Int)) (IntKind.u8.wrap (2 ^ j2))) := by
        unfold flipB
        rw [hi, hj, show ((k2 : Int) / 8) = (i2 : Int) by omega, IntKind.wrap_u8]
      have RY0 : (Kd.int .u8).R 5 ((wd.setCell ⟨gg, i2, none⟩ (.int .u8 (Go.bits .xor .u8 (rdOf (0 : Int) y (i2 : Int)) (IntKind.u8.wrap (2 ^ j2))))).drew) bb (fun _ => True) (.slice (some ⟨gg, 0, none⟩) y.length c2) (y.set i2 (Go.bits .xor .u8 (rdOf (0 : Int) y (i2 : Int)) (IntKind.u8.wrap (2 ^ j2)))) := Kd.R_drewN (hput (Go.bits .xor .u8 (rdOf (0 : Int) y (i2 : Int)) (IntKind.u8.wrap (2 ^ j2)))) 1
      have RY1 : (Kd.int .u8).R 5 ((wd.setCell ⟨gg, i2, none⟩ (.int .u8 (Go.bits .xor .u8 (rdOf (0 : Int) y (i2 : Int)) (IntKind.u8.wrap (2 ^ j2))))).drew) bb (fun _ => True) (.slice (some ⟨gg, 0, none⟩) (flipB y k2).length c2) (flipB y k2) := by rw [flipB_length, FE]; exact RY0
      have RY := Aside0.mk RY1
      have BY0 : Below w.heap.size w ((wd.setCell ⟨gg, i2, none⟩ (.int .u8 (Go.bits .xor .u8 (rdOf (0 : Int) y (i2 : Int)) (IntKind.u8.wrap (2 ^ j2))))).drew) := Below.drew (BE.out.setCell (show w.heap.size ≤ gg by have := hbb; omega) _)
      have BY := Aside0.mk BY0
      clear RY0 RY1 BY0 hput FE hgg
      have q1 : IntKind.i64.wrap ((k2 : Int) / 8) = (i2 : Int) := by rw [IntKind.wrap_i64]; omega
      have q2 : IntKind.i64.wrap ((k2 : Int) % 8) = (j2 : Int) := by rw [IntKind.wrap_i64]; omega
      have q6 : ((k2 : Int)).tmod 8 = (j2 : Int) := by rw [Int.tmod_eq_emod_of_nonneg (by omega)]; omega
      have q3 : (i2 : Int) < (y.length : Int) := by omega
      have q4 : i2 < y.length := by omega
      have q5 : (j2 : Int) < 8 := by omega
      refine wp_region_held_drew (S := fun _ => True) (by kernel_rfl) trivial (fun hHeld => ?_)
      refine wpAnyH_take (i := 0) (oi := _) (v := _) rfl (by kernel_rfl) (by kernel_rfl) (by kernel_rfl) (fun _ _ _ h => h) (Or.inl ⟨by rfl, by (intro w hSw; (try dsimp only at hSw); go_simp; try with_reducible rfl)⟩) hHeld ?_
      simp only [Act.put, List.getElem_toArray, List.getElem_cons_zero, List.getElem_cons_succ, List.setIfInBounds_toArray, List.set_cons_zero, List.set_cons_succ]
      refine wpAnyH_take (i := 1) (oi := _) (v := _) rfl (by kernel_rfl) (by kernel_rfl) (by kernel_rfl) (fun _ _ _ h => h) (Or.inl ⟨by rfl, by (intro w hSw; (try dsimp only at hSw); go_simp; try with_reducible rfl)⟩) hHeld ?_
      simp only [Act.put, List.getElem_toArray, List.getElem_cons_zero, List.getElem_cons_succ, List.setIfInBounds_toArray, List.set_cons_zero, List.set_cons_succ]
      refine wpAnyH_take (i := 2) (oi := _) (v := _) rfl (by kernel_rfl) (by kernel_rfl) (by kernel_rfl) (fun _ _ _ h => h) (Or.inl ⟨by rfl, by (intro w hSw; (try dsimp only at hSw); go_simp; try with_reducible rfl)⟩) hHeld ?_
      simp only [Act.put, List.getElem_toArray, List.getElem_cons_zero, List.getElem_cons_succ, List.setIfInBounds_toArray, List.set_cons_zero, List.set_cons_succ]
      refine wpAnyH_take (i := 3) (oi := _) (v := _) rfl (by kernel_rfl) (by kernel_rfl) (by kernel_rfl) (fun _ _ _ h => h) (Or.inl ⟨by rfl, by (intro w hSw; (try dsimp only at hSw); go_simp; try with_reducible rfl)⟩) hHeld ?_
      simp only [Act.put, List.getElem_toArray, List.getElem_cons_zero, List.getElem_cons_succ, List.setIfInBounds_toArray, List.set_cons_zero, List.set_cons_succ]
      refine wpAnyH_take (i := 4) (oi := _) (v := _) rfl (by kernel_rfl) (by kernel_rfl) (by kernel_rfl) (fun _ _ _ h => h) (Or.inl ⟨by rfl, by (intro w hSw; (try dsimp only at hSw); go_simp; try with_reducible rfl)⟩) hHeld ?_
      simp only [Act.put, List.getElem_toArray, List.getElem_cons_zero, List.getElem_cons_succ, List.setIfInBounds_toArray, List.set_cons_zero, List.set_cons_succ]
      refine wpAnyH_take (i := 5) (oi := _) (v := _) rfl (by kernel_rfl) (by kernel_rfl) (by kernel_rfl) (fun _ _ _ h => h) (Or.inl ⟨by rfl, by (intro w hSw; (try dsimp only at hSw); go_simp; try with_reducible rfl)⟩) hHeld ?_
      simp only [Act.put, List.getElem_toArray, List.getElem_cons_zero, List.getElem_cons_succ, List.setIfInBounds_toArray, List.set_cons_zero, List.set_cons_succ]
      refine wpAnyH_take (i := 6) (oi := _) (v := _) rfl (by kernel_rfl) (by kernel_rfl) (by kernel_rfl) (fun _ _ _ h => h) (Or.inl ⟨by rfl, by (intro w hSw; (try dsimp only at hSw); go_simp; try with_reducible rfl)⟩) hHeld ?_
      simp only [Act.put, List.getElem_toArray, List.getElem_cons_zero, List.getElem_cons_succ, List.setIfInBounds_toArray, List.set_cons_zero, List.set_cons_succ]
      refine wpAnyH_take (i := 8) (oi := _) (v := _) rfl (by kernel_rfl) (by kernel_rfl) (by kernel_rfl) (fun _ _ _ h => h) (Or.inl ⟨by rfl, by (intro w hSw; (try dsimp only at hSw); go_simp; try with_reducible rfl)⟩) hHeld ?_
      simp only [Act.put, List.getElem_toArray, List.getElem_cons_zero, List.getElem_cons_succ, List.setIfInBounds_toArray, List.set_cons_zero, List.set_cons_succ]
      refine wpAnyH_take (i := 9) (oi := _) (v := _) rfl (by kernel_rfl) (by kernel_rfl) (by kernel_rfl) (fun _ _ _ h => h) (Or.inl ⟨by rfl, by (intro w hSw; (try dsimp only at hSw); go_simp; try with_reducible rfl)⟩) hHeld ?_
      simp only [Act.put, List.getElem_toArray, List.getElem_cons_zero, List.getElem_cons_succ, List.setIfInBounds_toArray, List.set_cons_zero, List.set_cons_succ]
      refine wpAnyH_take (i := 10) (oi := _) (v := _) rfl (by kernel_rfl) (by kernel_rfl) (by kernel_rfl) (fun _ _ _ h => h) (Or.inl ⟨by rfl, by (intro w hSw; (try dsimp only at hSw); go_simp; try with_reducible rfl)⟩) hHeld ?_
      simp only [Act.put, List.getElem_toArray, List.getElem_cons_zero, List.getElem_cons_succ, List.setIfInBounds_toArray, List.set_cons_zero, List.set_cons_succ]
      refine wpAnyH_ready (rs := [7]) (by kernel_rfl) (by simp) ?_
      refine AllReadyH.cons rfl (fun K hK => ?_) AllReadyH.nil
      go_simp
      refine hK.out _ _ trivial (fun hNew => ?_)
      clear hK K
      refine wpAnyH_take (i := 11) (oi := _) (v := _) rfl (by kernel_rfl) (by kernel_rfl) (by kernel_rfl) (fun _ _ _ h => h) (Or.inl ⟨by rfl, by (intro w hSw; (try dsimp only at hSw); go_simp; try with_reducible rfl)⟩) hHeld ?_
      simp only [Act.put, List.getElem_toArray, List.getElem_cons_zero, List.getElem_cons_succ, List.setIfInBounds_toArray, List.set_cons_zero, List.set_cons_succ]
      refine wpAnyH_take (i := 12) (oi := _) (v := _) rfl (by kernel_rfl) (by kernel_rfl) (by kernel_rfl) (fun _ _ _ h => h) (Or.inl ⟨by rfl, by (intro w hSw; (try dsimp only at hSw); go_simp; try with_reducible rfl)⟩) hHeld ?_
      simp only [Act.put, List.getElem_toArray, List.getElem_cons_zero, List.getElem_cons_succ, List.setIfInBounds_toArray, List.set_cons_zero, List.set_cons_succ]
      refine wpAnyH_ready (rs := [13]) (by kernel_rfl) (by simp) ?_
      refine AllReadyH.cons rfl (fun K hK => ?_) AllReadyH.nil
      go_simp
      refine hK.out _ _ trivial (fun hNew => ?_)
      clear hK K
      refine wpAnyH_done (by kernel_rfl) ?_ _
      generalize hW : ((wd.setCell ⟨gg, i2, none⟩ (.int .u8 (Go.bits .xor .u8 (rdOf (0 : Int) y (i2 : Int)) (IntKind.u8.wrap (2 ^ j2))))).drew) = W1 at RY BY ⊢
      have CALL := record_DecodePairs.calls K (some ⟨gg, 0, none⟩) c2 (flipB y k2) 0 [] 16 W1 (Kd.R_reads' RY.out).2.2 (Kd.R_reads' RY.out).2.1 (HY.out k2 hk)
      rw [flipB_length] at CALL
      have CA := Aside0.mk CALL
      clear CALL hW m1 m2 q1 q2 q6 q3 q4 q5 hl hi hj hHeld hkk hz
      go_wp2_with fail
      refine CA.out.mono ?_
      rintro e we ⟨v, rfl, hR, hB⟩
      obtain ⟨A3, c3, rfl⟩ := Kd.R_slice hR
      have BF := Aside0.mk (BY.out.trans (hB.mono BY.out.size))
      clear hB hR
      go_wp2_with fail
      go_ret
      exact ⟨rfl, BF.out⟩
  · have EA := Aside0.mk ES
    have HX := Aside0.mk hx
    clear ES hx
    go_wp2_with fail
    refine (record_EncodeLog.calls K n0 n1 n2 n3 n4 n5 n6 t x 0 wa EA.out).mono ?_
    rintro e wb ⟨v, rfl, hR, hB⟩
    have RX := Aside0.mk hR
    have BV := Aside0.mk (BA.out.trans (hB.mono BA.out.size))
    obtain ⟨A, c, rfl⟩ := Kd.R_slice hR
    have hl' : ((x.length : Nat) : Int) = 256 := by rw [hl]; rfl
    clear hR hB k0 k1 k2 k3 k4 k5 k6 k7
    obtain ⟨k, hk, hkk⟩ : ∃ k : Nat, k < 2048 ∧ wrap64 ((IntKind.u64.wrap at_).tmod (2048)) = (k : Int) := by
      have e : IntKind.u64.wrap at_ = at_ % 18446744073709551616 := by simp [IntKind.wrap, IntKind.signed, IntKind.bits]
      have h0 : 0 ≤ at_ % 18446744073709551616 := by omega
      rw [e, Int.tmod_eq_emod_of_nonneg h0]
      generalize at_ % 18446744073709551616 = q at h0
      have h1 := Int.emod_nonneg q (show (2048 : Int) ≠ 0 by omega)
      have h2 := Int.emod_lt_of_pos q (show (0 : Int) < 2048 by omega)
      refine ⟨(q % (2048)).toNat, by omega, ?_⟩
      unfold wrap64
      omega
    go_wp2_with fail
    obtain ⟨i, hi⟩ : ∃ i : Nat, k / 8 = i := ⟨_, rfl⟩
    obtain ⟨j, hj⟩ : ∃ j : Nat, k % 8 = j := ⟨_, rfl⟩
    obtain ⟨gg, cc, hv, hgg, ⟨m1, m2⟩, hput⟩ := R_flip RX.out i (by omega)
    simp only [Value.slice.injEq] at hv
    obtain ⟨rfl, _, rfl⟩ := hv
    have FE : flipB x k = x.set i (Go.bits .xor .u8 (rdOf (0 : Int) x (i : Int)) (IntKind.u8.wrap (2 ^ j))) := by
      unfold flipB
      rw [hi, hj, show ((k : Int) / 8) = (i : Int) by omega, IntKind.wrap_u8]
    have RY0 : (Kd.int .u8).R 5 ((wb.setCell ⟨gg, i, none⟩ (.int .u8 (Go.bits .xor .u8 (rdOf (0 : Int) x (i : Int)) (IntKind.u8.wrap (2 ^ j))))).drew) wa.heap.size (fun _ => True) (.slice (some ⟨gg, 0, none⟩) x.length c) (x.set i (Go.bits .xor .u8 (rdOf (0 : Int) x (i : Int)) (IntKind.u8.wrap (2 ^ j)))) := Kd.R_drewN (hput (Go.bits .xor .u8 (rdOf (0 : Int) x (i : Int)) (IntKind.u8.wrap (2 ^ j)))) 1
    have RY1 : (Kd.int .u8).R 5 ((wb.setCell ⟨gg, i, none⟩ (.int .u8 (Go.bits .xor .u8 (rdOf (0 : Int) x (i : Int)) (IntKind.u8.wrap (2 ^ j))))).drew) wa.heap.size (fun _ => True) (.slice (some ⟨gg, 0, none⟩) (flipB x k).length c) (flipB x k) := by rw [flipB_length, FE]; exact RY0
    have RY := Aside0.mk RY1
    have BY0 : Below w.heap.size w ((wb.setCell ⟨gg, i, none⟩ (.int .u8 (Go.bits .xor .u8 (rdOf (0 : Int) x (i : Int)) (IntKind.u8.wrap (2 ^ j))))).drew) := Below.drew (BV.out.setCell (show w.heap.size ≤ gg by have := BA.out.size; omega) _)
    have BY := Aside0.mk BY0
    clear RY0 RY1 BY0 hput FE hgg
    have q1 : IntKind.i64.wrap ((k : Int) / 8) = (i : Int) := by rw [IntKind.wrap_i64]; omega
    have q2 : IntKind.i64.wrap ((k : Int) % 8) = (j : Int) := by rw [IntKind.wrap_i64]; omega
    have q6 : ((k : Int)).tmod 8 = (j : Int) := by rw [Int.tmod_eq_emod_of_nonneg (by omega)]; omega
    have q3 : (i : Int) < 256 := by omega
    have q4 : i < 256 := by omega
    have q5 : (j : Int) < 8 := by omega
    refine wp_region_held_drew (S := fun _ => True) (by kernel_rfl) trivial (fun hHeld => ?_)
    refine wpAnyH_take (i := 0) (oi := _) (v := _) rfl (by kernel_rfl) (by kernel_rfl) (by kernel_rfl) (fun _ _ _ h => h) (Or.inl ⟨by rfl, by (intro w hSw; (try dsimp only at hSw); go_simp; try with_reducible rfl)⟩) hHeld ?_
    simp only [Act.put, List.getElem_toArray, List.getElem_cons_zero, List.getElem_cons_succ, List.setIfInBounds_toArray, List.set_cons_zero, List.set_cons_succ]
    refine wpAnyH_take (i := 1) (oi := _) (v := _) rfl (by kernel_rfl) (by kernel_rfl) (by kernel_rfl) (fun _ _ _ h => h) (Or.inl ⟨by rfl, by (intro w hSw; (try dsimp only at hSw); go_simp; try with_reducible rfl)⟩) hHeld ?_
    simp only [Act.put, List.getElem_toArray, List.getElem_cons_zero, List.getElem_cons_succ, List.setIfInBounds_toArray, List.set_cons_zero, List.set_cons_succ]
    refine wpAnyH_take (i := 2) (oi := _) (v := _) rfl (by kernel_rfl) (by kernel_rfl) (by kernel_rfl) (fun _ _ _ h => h) (Or.inl ⟨by rfl, by (intro w hSw; (try dsimp only at hSw); go_simp; try with_reducible rfl)⟩) hHeld ?_
    simp only [Act.put, List.getElem_toArray, List.getElem_cons_zero, List.getElem_cons_succ, List.setIfInBounds_toArray, List.set_cons_zero, List.set_cons_succ]
    refine wpAnyH_take (i := 3) (oi := _) (v := _) rfl (by kernel_rfl) (by kernel_rfl) (by kernel_rfl) (fun _ _ _ h => h) (Or.inl ⟨by rfl, by (intro w hSw; (try dsimp only at hSw); go_simp; try with_reducible rfl)⟩) hHeld ?_
    simp only [Act.put, List.getElem_toArray, List.getElem_cons_zero, List.getElem_cons_succ, List.setIfInBounds_toArray, List.set_cons_zero, List.set_cons_succ]
    refine wpAnyH_take (i := 4) (oi := _) (v := _) rfl (by kernel_rfl) (by kernel_rfl) (by kernel_rfl) (fun _ _ _ h => h) (Or.inl ⟨by rfl, by (intro w hSw; (try dsimp only at hSw); go_simp; try with_reducible rfl)⟩) hHeld ?_
    simp only [Act.put, List.getElem_toArray, List.getElem_cons_zero, List.getElem_cons_succ, List.setIfInBounds_toArray, List.set_cons_zero, List.set_cons_succ]
    refine wpAnyH_take (i := 5) (oi := _) (v := _) rfl (by kernel_rfl) (by kernel_rfl) (by kernel_rfl) (fun _ _ _ h => h) (Or.inl ⟨by rfl, by (intro w hSw; (try dsimp only at hSw); go_simp; try with_reducible rfl)⟩) hHeld ?_
    simp only [Act.put, List.getElem_toArray, List.getElem_cons_zero, List.getElem_cons_succ, List.setIfInBounds_toArray, List.set_cons_zero, List.set_cons_succ]
    refine wpAnyH_take (i := 6) (oi := _) (v := _) rfl (by kernel_rfl) (by kernel_rfl) (by kernel_rfl) (fun _ _ _ h => h) (Or.inl ⟨by rfl, by (intro w hSw; (try dsimp only at hSw); go_simp; try with_reducible rfl)⟩) hHeld ?_
    simp only [Act.put, List.getElem_toArray, List.getElem_cons_zero, List.getElem_cons_succ, List.setIfInBounds_toArray, List.set_cons_zero, List.set_cons_succ]
    refine wpAnyH_take (i := 8) (oi := _) (v := _) rfl (by kernel_rfl) (by kernel_rfl) (by kernel_rfl) (fun _ _ _ h => h) (Or.inl ⟨by rfl, by (intro w hSw; (try dsimp only at hSw); go_simp; try with_reducible rfl)⟩) hHeld ?_
    simp only [Act.put, List.getElem_toArray, List.getElem_cons_zero, List.getElem_cons_succ, List.setIfInBounds_toArray, List.set_cons_zero, List.set_cons_succ]
    refine wpAnyH_take (i := 9) (oi := _) (v := _) rfl (by kernel_rfl) (by kernel_rfl) (by kernel_rfl) (fun _ _ _ h => h) (Or.inl ⟨by rfl, by (intro w hSw; (try dsimp only at hSw); go_simp; try with_reducible rfl)⟩) hHeld ?_
    simp only [Act.put, List.getElem_toArray, List.getElem_cons_zero, List.getElem_cons_succ, List.setIfInBounds_toArray, List.set_cons_zero, List.set_cons_succ]
    refine wpAnyH_take (i := 10) (oi := _) (v := _) rfl (by kernel_rfl) (by kernel_rfl) (by kernel_rfl) (fun _ _ _ h => h) (Or.inl ⟨by rfl, by (intro w hSw; (try dsimp only at hSw); go_simp; try with_reducible rfl)⟩) hHeld ?_
    simp only [Act.put, List.getElem_toArray, List.getElem_cons_zero, List.getElem_cons_succ, List.setIfInBounds_toArray, List.set_cons_zero, List.set_cons_succ]
    refine wpAnyH_ready (rs := [7]) (by kernel_rfl) (by simp) ?_
    refine AllReadyH.cons rfl (fun K hK => ?_) AllReadyH.nil
    go_simp
    refine hK.out _ _ trivial (fun hNew => ?_)
    clear hK K
    refine wpAnyH_take (i := 11) (oi := _) (v := _) rfl (by kernel_rfl) (by kernel_rfl) (by kernel_rfl) (fun _ _ _ h => h) (Or.inl ⟨by rfl, by (intro w hSw; (try dsimp only at hSw); go_simp; try with_reducible rfl)⟩) hHeld ?_
    simp only [Act.put, List.getElem_toArray, List.getElem_cons_zero, List.getElem_cons_succ, List.setIfInBounds_toArray, List.set_cons_zero, List.set_cons_succ]
    refine wpAnyH_take (i := 12) (oi := _) (v := _) rfl (by kernel_rfl) (by kernel_rfl) (by kernel_rfl) (fun _ _ _ h => h) (Or.inl ⟨by rfl, by (intro w hSw; (try dsimp only at hSw); go_simp; try with_reducible rfl)⟩) hHeld ?_
    simp only [Act.put, List.getElem_toArray, List.getElem_cons_zero, List.getElem_cons_succ, List.setIfInBounds_toArray, List.set_cons_zero, List.set_cons_succ]
    refine wpAnyH_ready (rs := [13]) (by kernel_rfl) (by simp) ?_
    refine AllReadyH.cons rfl (fun K hK => ?_) AllReadyH.nil
    go_simp
    refine hK.out _ _ trivial (fun hNew => ?_)
    clear hK K
    refine wpAnyH_done (by kernel_rfl) ?_ _
    generalize hW : ((wb.setCell ⟨gg, i, none⟩ (.int .u8 (Go.bits .xor .u8 (rdOf (0 : Int) x (i : Int)) (IntKind.u8.wrap (2 ^ j))))).drew) = W1 at RY BY ⊢
    obtain ⟨g', hg', hd'⟩ := HX.out k hk
    have hlen : (flipB x k).length = 256 := by rw [flipB_length, hl]
    have g1 : (g' == 0) = false := beq_eq_false_iff_ne.2 hg'
    have CALL := record_DecodeLog.calls K (some ⟨gg, 0, none⟩) c (flipB x k) 0 0 0 0 0 0 0 ⟨#[]⟩ g' W1 (Kd.R_reads' RY.out).2.2 (Kd.R_reads' RY.out).2.1 hd'
    rw [hlen] at CALL
    have CA := Aside0.mk CALL
    clear CALL hW m1 m2 q1 q2 q6 q3 q4 q5 hl hl' hlen hi hj hHeld hd' hg' hk hkk
    go_wp2_with fail
    refine CA.out.mono ?_
    rintro e wc ⟨rfl, hB⟩
    obtain ⟨j0, j1, j2, j3, j4, j5, j6, j7⟩ := boxc8 (heap_alloc_new wc (.cells #[.int .i64 0, .int .i64 0, .int .i64 0, .int .i64 0, .int .i64 0, .int .i64 0, .int .i64 0, .string ⟨#[]⟩] 25))
    have BZ := Aside0.mk (below_alloc (BY.out.trans (hB.mono BY.out.size)) (.cells #[.int .i64 0, .int .i64 0, .int .i64 0, .int .i64 0, .int .i64 0, .int .i64 0, .int .i64 0, .string ⟨#[]⟩] 25))
    clear hB RY CA BY
    go_wp2_with fail
    clear j0 j1 j2 j3 j4 j5 j6 j7 g1
    rcases FP.out with ⟨ee, he, EP⟩ | ⟨y, EP, hpos, hl, hy⟩
    · have EA2 := Aside0.mk EP
      have f1 : (ee == 0) = false := beq_eq_false_iff_ne.2 he
      clear EP he
      refine (record_EncodePairs.calls K 7 A1 c1 l1 [] ee _ (Kd.C_below R1.out BZ.out) C1.out EA2.out).mono ?_
      rintro e wd ⟨v, rfl, hR, hB⟩
      obtain ⟨A2, c2, rfl⟩ := Kd.R_slice hR
      have BE := Aside0.mk (BZ.out.trans (hB.mono BZ.out.size))
      clear hB hR
      go_wp2_with fail
      go_ret
      exact ⟨rfl, BE.out⟩
    · have EA2 := Aside0.mk EP
      have HY := Aside0.mk hy
      clear EP hy
      refine (record_EncodePairs.calls K 7 A1 c1 l1 y 0 _ (Kd.C_below R1.out BZ.out) C1.out EA2.out).mono ?_
      rintro e wd ⟨v, rfl, hR, hB⟩
      obtain ⟨A2, c2, rfl⟩ := Kd.R_slice hR
      obtain ⟨bb, hbb, RX2⟩ : ∃ bb, w.heap.size ≤ bb ∧ Aside0 ((Kd.int .u8).R 5 wd bb (fun _ => True) (.slice A2 y.length c2) y) := ⟨_, BZ.out.size, ⟨hR⟩⟩
      have BE := Aside0.mk (BZ.out.trans (hB.mono BZ.out.size))
      have hz : (8 : Int) * (y.length : Int) ≠ 0 := by omega
      clear hB hR
      obtain ⟨k2, hk, hkk⟩ : ∃ k2 : Nat, k2 < 8 * y.length ∧ wrap64 ((IntKind.u64.wrap at_).tmod (8 * (y.length : Int))) = (k2 : Int) := by
        have e : IntKind.u64.wrap at_ = at_ % 18446744073709551616 := by simp [IntKind.wrap, IntKind.signed, IntKind.bits]
        have h0 : 0 ≤ at_ % 18446744073709551616 := by omega
        rw [e, Int.tmod_eq_emod_of_nonneg h0]
        generalize at_ % 18446744073709551616 = q at h0
        have h1 := Int.emod_nonneg q (show (8 * (y.length : Int) : Int) ≠ 0 by omega)
        have h2 := Int.emod_lt_of_pos q (show (0 : Int) < 8 * (y.length : Int) by omega)
        refine ⟨(q % (8 * (y.length : Int))).toNat, by omega, ?_⟩
        unfold wrap64
        omega
      go_wp2_with fail
      obtain ⟨i2, hi⟩ : ∃ i2 : Nat, k2 / 8 = i2 := ⟨_, rfl⟩
      obtain ⟨j2, hj⟩ : ∃ j2 : Nat, k2 % 8 = j2 := ⟨_, rfl⟩
      obtain ⟨gg, cc, hv, hgg, ⟨m1, m2⟩, hput⟩ := R_flip RX2.out i2 (by omega)
      simp only [Value.slice.injEq] at hv
      obtain ⟨rfl, _, rfl⟩ := hv
      have FE : flipB y k2 = y.set i2 (Go.bits .xor .u8 (rdOf (0 : Int) y (i2 : Int)) (IntKind.u8.wrap (2 ^ j2))) := by
        unfold flipB
        rw [hi, hj, show ((k2 : Int) / 8) = (i2 : Int) by omega, IntKind.wrap_u8]
      have RY0 : (Kd.int .u8).R 5 ((wd.setCell ⟨gg, i2, none⟩ (.int .u8 (Go.bits .xor .u8 (rdOf (0 : Int) y (i2 : Int)) (IntKind.u8.wrap (2 ^ j2))))).drew) bb (fun _ => True) (.slice (some ⟨gg, 0, none⟩) y.length c2) (y.set i2 (Go.bits .xor .u8 (rdOf (0 : Int) y (i2 : Int)) (IntKind.u8.wrap (2 ^ j2)))) := Kd.R_drewN (hput (Go.bits .xor .u8 (rdOf (0 : Int) y (i2 : Int)) (IntKind.u8.wrap (2 ^ j2)))) 1
      have RY1 : (Kd.int .u8).R 5 ((wd.setCell ⟨gg, i2, none⟩ (.int .u8 (Go.bits .xor .u8 (rdOf (0 : Int) y (i2 : Int)) (IntKind.u8.wrap (2 ^ j2))))).drew) bb (fun _ => True) (.slice (some ⟨gg, 0, none⟩) (flipB y k2).length c2) (flipB y k2) := by rw [flipB_length, FE]; exact RY0
      have RY := Aside0.mk RY1
      have BY0 : Below w.heap.size w ((wd.setCell ⟨gg, i2, none⟩ (.int .u8 (Go.bits .xor .u8 (rdOf (0 : Int) y (i2 : Int)) (IntKind.u8.wrap (2 ^ j2))))).drew) := Below.drew (BE.out.setCell (show w.heap.size ≤ gg by have := hbb; omega) _)
      have BY := Aside0.mk BY0
      clear RY0 RY1 BY0 hput FE hgg
      have q1 : IntKind.i64.wrap ((k2 : Int) / 8) = (i2 : Int) := by rw [IntKind.wrap_i64]; omega
      have q2 : IntKind.i64.wrap ((k2 : Int) % 8) = (j2 : Int) := by rw [IntKind.wrap_i64]; omega
      have q6 : ((k2 : Int)).tmod 8 = (j2 : Int) := by rw [Int.tmod_eq_emod_of_nonneg (by omega)]; omega
      have q3 : (i2 : Int) < (y.length : Int) := by omega
      have q4 : i2 < y.length := by omega
      have q5 : (j2 : Int) < 8 := by omega
      refine wp_region_held_drew (S := fun _ => True) (by kernel_rfl) trivial (fun hHeld => ?_)
      refine wpAnyH_take (i := 0) (oi := _) (v := _) rfl (by kernel_rfl) (by kernel_rfl) (by kernel_rfl) (fun _ _ _ h => h) (Or.inl ⟨by rfl, by (intro w hSw; (try dsimp only at hSw); go_simp; try with_reducible rfl)⟩) hHeld ?_
      simp only [Act.put, List.getElem_toArray, List.getElem_cons_zero, List.getElem_cons_succ, List.setIfInBounds_toArray, List.set_cons_zero, List.set_cons_succ]
      refine wpAnyH_take (i := 1) (oi := _) (v := _) rfl (by kernel_rfl) (by kernel_rfl) (by kernel_rfl) (fun _ _ _ h => h) (Or.inl ⟨by rfl, by (intro w hSw; (try dsimp only at hSw); go_simp; try with_reducible rfl)⟩) hHeld ?_
      simp only [Act.put, List.getElem_toArray, List.getElem_cons_zero, List.getElem_cons_succ, List.setIfInBounds_toArray, List.set_cons_zero, List.set_cons_succ]
      refine wpAnyH_take (i := 2) (oi := _) (v := _) rfl (by kernel_rfl) (by kernel_rfl) (by kernel_rfl) (fun _ _ _ h => h) (Or.inl ⟨by rfl, by (intro w hSw; (try dsimp only at hSw); go_simp; try with_reducible rfl)⟩) hHeld ?_
      simp only [Act.put, List.getElem_toArray, List.getElem_cons_zero, List.getElem_cons_succ, List.setIfInBounds_toArray, List.set_cons_zero, List.set_cons_succ]
      refine wpAnyH_take (i := 3) (oi := _) (v := _) rfl (by kernel_rfl) (by kernel_rfl) (by kernel_rfl) (fun _ _ _ h => h) (Or.inl ⟨by rfl, by (intro w hSw; (try dsimp only at hSw); go_simp; try with_reducible rfl)⟩) hHeld ?_
      simp only [Act.put, List.getElem_toArray, List.getElem_cons_zero, List.getElem_cons_succ, List.setIfInBounds_toArray, List.set_cons_zero, List.set_cons_succ]
      refine wpAnyH_take (i := 4) (oi := _) (v := _) rfl (by kernel_rfl) (by kernel_rfl) (by kernel_rfl) (fun _ _ _ h => h) (Or.inl ⟨by rfl, by (intro w hSw; (try dsimp only at hSw); go_simp; try with_reducible rfl)⟩) hHeld ?_
      simp only [Act.put, List.getElem_toArray, List.getElem_cons_zero, List.getElem_cons_succ, List.setIfInBounds_toArray, List.set_cons_zero, List.set_cons_succ]
      refine wpAnyH_take (i := 5) (oi := _) (v := _) rfl (by kernel_rfl) (by kernel_rfl) (by kernel_rfl) (fun _ _ _ h => h) (Or.inl ⟨by rfl, by (intro w hSw; (try dsimp only at hSw); go_simp; try with_reducible rfl)⟩) hHeld ?_
      simp only [Act.put, List.getElem_toArray, List.getElem_cons_zero, List.getElem_cons_succ, List.setIfInBounds_toArray, List.set_cons_zero, List.set_cons_succ]
      refine wpAnyH_take (i := 6) (oi := _) (v := _) rfl (by kernel_rfl) (by kernel_rfl) (by kernel_rfl) (fun _ _ _ h => h) (Or.inl ⟨by rfl, by (intro w hSw; (try dsimp only at hSw); go_simp; try with_reducible rfl)⟩) hHeld ?_
      simp only [Act.put, List.getElem_toArray, List.getElem_cons_zero, List.getElem_cons_succ, List.setIfInBounds_toArray, List.set_cons_zero, List.set_cons_succ]
      refine wpAnyH_take (i := 8) (oi := _) (v := _) rfl (by kernel_rfl) (by kernel_rfl) (by kernel_rfl) (fun _ _ _ h => h) (Or.inl ⟨by rfl, by (intro w hSw; (try dsimp only at hSw); go_simp; try with_reducible rfl)⟩) hHeld ?_
      simp only [Act.put, List.getElem_toArray, List.getElem_cons_zero, List.getElem_cons_succ, List.setIfInBounds_toArray, List.set_cons_zero, List.set_cons_succ]
      refine wpAnyH_take (i := 9) (oi := _) (v := _) rfl (by kernel_rfl) (by kernel_rfl) (by kernel_rfl) (fun _ _ _ h => h) (Or.inl ⟨by rfl, by (intro w hSw; (try dsimp only at hSw); go_simp; try with_reducible rfl)⟩) hHeld ?_
      simp only [Act.put, List.getElem_toArray, List.getElem_cons_zero, List.getElem_cons_succ, List.setIfInBounds_toArray, List.set_cons_zero, List.set_cons_succ]
      refine wpAnyH_take (i := 10) (oi := _) (v := _) rfl (by kernel_rfl) (by kernel_rfl) (by kernel_rfl) (fun _ _ _ h => h) (Or.inl ⟨by rfl, by (intro w hSw; (try dsimp only at hSw); go_simp; try with_reducible rfl)⟩) hHeld ?_
      simp only [Act.put, List.getElem_toArray, List.getElem_cons_zero, List.getElem_cons_succ, List.setIfInBounds_toArray, List.set_cons_zero, List.set_cons_succ]
      refine wpAnyH_ready (rs := [7]) (by kernel_rfl) (by simp) ?_
      refine AllReadyH.cons rfl (fun K hK => ?_) AllReadyH.nil
      go_simp
      refine hK.out _ _ trivial (fun hNew => ?_)
      clear hK K
      refine wpAnyH_take (i := 11) (oi := _) (v := _) rfl (by kernel_rfl) (by kernel_rfl) (by kernel_rfl) (fun _ _ _ h => h) (Or.inl ⟨by rfl, by (intro w hSw; (try dsimp only at hSw); go_simp; try with_reducible rfl)⟩) hHeld ?_
      simp only [Act.put, List.getElem_toArray, List.getElem_cons_zero, List.getElem_cons_succ, List.setIfInBounds_toArray, List.set_cons_zero, List.set_cons_succ]
      refine wpAnyH_take (i := 12) (oi := _) (v := _) rfl (by kernel_rfl) (by kernel_rfl) (by kernel_rfl) (fun _ _ _ h => h) (Or.inl ⟨by rfl, by (intro w hSw; (try dsimp only at hSw); go_simp; try with_reducible rfl)⟩) hHeld ?_
      simp only [Act.put, List.getElem_toArray, List.getElem_cons_zero, List.getElem_cons_succ, List.setIfInBounds_toArray, List.set_cons_zero, List.set_cons_succ]
      refine wpAnyH_ready (rs := [13]) (by kernel_rfl) (by simp) ?_
      refine AllReadyH.cons rfl (fun K hK => ?_) AllReadyH.nil
      go_simp
      refine hK.out _ _ trivial (fun hNew => ?_)
      clear hK K
      refine wpAnyH_done (by kernel_rfl) ?_ _
      generalize hW : ((wd.setCell ⟨gg, i2, none⟩ (.int .u8 (Go.bits .xor .u8 (rdOf (0 : Int) y (i2 : Int)) (IntKind.u8.wrap (2 ^ j2))))).drew) = W1 at RY BY ⊢
      have CALL := record_DecodePairs.calls K (some ⟨gg, 0, none⟩) c2 (flipB y k2) 0 [] 16 W1 (Kd.R_reads' RY.out).2.2 (Kd.R_reads' RY.out).2.1 (HY.out k2 hk)
      rw [flipB_length] at CALL
      have CA := Aside0.mk CALL
      clear CALL hW m1 m2 q1 q2 q6 q3 q4 q5 hl hi hj hHeld hkk hz
      go_wp2_with fail
      refine CA.out.mono ?_
      rintro e we ⟨v, rfl, hR, hB⟩
      obtain ⟨A3, c3, rfl⟩ := Kd.R_slice hR
      have BF := Aside0.mk (BY.out.trans (hB.mono BY.out.size))
      clear hB hR
      go_wp2_with fail
      go_ret
      exact ⟨rfl, BF.out⟩
end
end Go.Proofs.YtmkkeccmjejfnaaDoor.PA
