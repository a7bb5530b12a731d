import Derived.Test.YtgjhhbljbnbjkaaLsums
namespace Go.Proofs.Ytgjhhbljbnbjkaa.PA
open Go.RowKit Go.Proofs.YtgjhhbljbnbjkaaW.PrintWords Go.Proofs.YtgjhhbljbnbjkaaW.PrintLast Go.Proofs.YtgjhhbljbnbjkaaW.PrintMore
set_option linter.unusedVariables false
set_option linter.unusedSimpArgs false
theorem crcW (A : Option Addr) (c : Nat) (l : List Int) (w : World) (hr : Kd.C (Kd.int .u8) w A l.length l) (hc : l.length ≤ c) (hb : byteL l) (hl : l.length ≤ 140737488351232) :
    Calls Try.prog 14 #[.slice A l.length c] w fun e w' => e = .returned (.int .i64 (crcV l)) ∧ Drawn0 w w' :=
  pack_Crc.calls _ A c l _ w hr hc (crc_val l hb (by omega))
theorem refcrcW (s : ByteArray) (w : World) (hl : s.size ≤ 140737488351232) :
    Calls Try.prog 15 #[.string s] w fun e w' => e = .returned (.int .i64 (crcV (bytesOf s))) ∧ Drawn0 w w' :=
  cisternref03_Crc.calls _ s _ w (refcrc_val s (by omega) _ (Nat.le_refl _))
theorem refsealW (s : ByteArray) (w : World) (hl : s.size ≤ 140737488351232) :
    Calls Try.prog 16 #[.string s] w fun e w' => e = .returned (.string (strOfNums (sealL (bytesOf s)))) ∧ Below w.heap.size w w' :=
  cisternref03_Seal.calls _ s _ w (refseal_val s hl _ (Nat.le_refl _))
theorem refopenW (s : ByteArray) (w : World) (hl : s.size ≤ 140737488351232) :
    Calls Try.prog 11 #[.string s] w fun e w' => e = .returned (.tuple #[.string (strOfNums (openL (bytesOf s)).1), .int .i64 (openL (bytesOf s)).2]) ∧ Below w.heap.size w w' :=
  cisternref03_DocOpen.calls _ s _ _ w (docopen_val s hl _ (Nat.le_refl _))
theorem refcrcW' (l : List Int) (w : World) (hb : byteL l) (hl : l.length ≤ 140737488351232) :
    Calls Try.prog 15 #[.string (strOfNums l)] w fun e w' => e = .returned (.int .i64 (crcV l)) ∧ Drawn0 w w' := by
  have h := refcrcW (strOfNums l) w (by rw [size_strOfNums]; exact hl)
  rwa [bytesOf_strOfNums l hb] at h
theorem refsealW' (l : List Int) (w : World) (hb : byteL l) (hl : l.length ≤ 140737488351232) :
    Calls Try.prog 16 #[.string (strOfNums l)] w fun e w' => e = .returned (.string (strOfNums (sealL l))) ∧ Below w.heap.size w w' := by
  have h := refsealW (strOfNums l) w (by rw [size_strOfNums]; exact hl)
  rwa [bytesOf_strOfNums l hb] at h
set_option maxHeartbeats 4000000 in
set_option maxRecDepth 100000 in
theorem cisternlaw03_PackSums.walk (A0 : Option Addr) (c0 : Nat) (l0 : List Int) (w : World) (hr0 : Kd.C (Kd.int .u8) w A0 l0.length l0) (hc0 : l0.length ≤ c0) (y0 : l0.length * 1 ≤ 140737488351232) (w0 : ∀ v ∈ l0, (Lit.int .u8 v).wf = true) :
    Calls Try.prog 4 #[.slice A0 l0.length c0] w fun e w' => e = .returned (.bool true) ∧ Below w.heap.size w w' := by
  have W0 := Aside0.mk (wf_u8 w0)
  have R0 := Aside0.mk hr0
  have C0 := Aside0.mk hc0
  have hlen : l0.length ≤ 140737488351232 := by omega
  have Y0 := Aside0.mk y0
  have BS := Aside0.mk (bytesOf_strOfNums l0 W0.out)
  have SZ := Aside0.mk (size_strOfNums l0)
  clear hr0 hc0 y0 w0
  go_enter Try.func4, Try.ntmps4
  go_wp2_with fail
  refine (cisternlaw03_known.calls true w rfl).mono ?_
  rintro e wa ⟨rfl, hB⟩
  have BA := Aside0.mk hB
  clear hB
  have v1 : ∀ c, (convert 24 9 (.slice A0 l0.length c)).run Try.prog wa = .ok (.string (strOfNums l0)) wa := fun c => Kd.C_string Try.underlying24 Try.underlying5 Try.underlying9 (Kd.C_below R0.out BA.out)
  go_wp2_with fail
  refine (refopenW (strOfNums l0) wa (by have := SZ.out; omega)).mono ?_
  rintro e wb ⟨rfl, hB⟩
  have BB := Aside0.mk (BA.out.trans (hB.mono BA.out.size))
  rw [BS.out]
  clear hB
  go_wp2_with fail
  refine (openW A0 c0 l0 wb (Kd.C_below R0.out BB.out) C0.out W0.out (by have := Y0.out; omega)).mono ?_
  rintro e wc ⟨A1, c1, rfl, X, XC, hB⟩
  have BC := Aside0.mk (BB.out.trans (hB.out.mono BB.out.size))
  clear hB
  go_wp2_with fail
  refine (sealW A0 c0 l0 wc (Kd.C_below R0.out BC.out) C0.out W0.out (by have := Y0.out; omega)).mono ?_
  rintro e wd ⟨g, cs, rfl, S, hB⟩
  have BD := Aside0.mk (BC.out.trans (hB.out.mono BC.out.size))
  have XD := Aside0.mk (Kd.C_below X.out hB.out)
  clear hB
  obtain ⟨_, cx, hxx, hcx, hC⟩ := Kd.R_reads S.out
  simp only [Value.slice.injEq] at hxx
  obtain ⟨rfl, hxl, rfl⟩ := hxx
  clear hxl S
  have SS := Aside0.mk hC
  have SC := Aside0.mk hcx
  have SL := Aside0.mk (sealL_length l0)
  have OP := Aside0.mk (openL_seal l0 W0.out)
  have SB := Aside0.mk (sealL_byteL W0.out)
  clear hC hcx
  go_wp2_with fail
  refine (openW (some ⟨g, 0, none⟩) cs (sealL l0) wd SS.out SC.out SB.out (by have := SL.out; have := Y0.out; omega)).mono ?_
  rintro e we ⟨A2, c2, rfl, Z, ZC, hB⟩
  have BE := Aside0.mk (BD.out.trans (hB.out.mono BD.out.size))
  have XE := Aside0.mk (Kd.C_below XD.out hB.out)
  rw [OP.out] at Z ZC ⊢
  clear hB
  have RE := Aside0.mk (Kd.C_below R0.out BE.out)
  obtain ⟨l1, hl1⟩ : ∃ l1, l1 = (openL l0).1 := ⟨_, rfl⟩
  rw [← hl1] at X XC XD XE ⊢
  obtain ⟨x1, hx1⟩ : ∃ x, x = (openL l0).2 := ⟨_, rfl⟩
  rw [← hx1] at ⊢
  clear hl1 hx1
  have MK : Aside0 (∀ w1, Below we.heap.size we w1 → (Below we.heap.size we w1 ∧ (∀ c, (convert 24 9 (.slice A0 l0.length c)).run Try.prog w1 = .ok (.string (strOfNums l0)) w1) ∧ (∀ c, (convert 24 9 (.slice A1 l1.length c)).run Try.prog w1 = .ok (.string (strOfNums l1)) w1) ∧ (∀ c, (convert 24 9 (.slice A2 l0.length c)).run Try.prog w1 = .ok (.string (strOfNums l0)) w1))) :=
    ⟨fun w1 h => ⟨h, fun c => Kd.C_string Try.underlying24 Try.underlying5 Try.underlying9 (Kd.C_below RE.out h), fun c => Kd.C_string Try.underlying24 Try.underlying5 Try.underlying9 (Kd.C_below XE.out h), fun c => Kd.C_string Try.underlying24 Try.underlying5 Try.underlying9 (Kd.C_below Z.out h)⟩⟩
  clear v1
  go_wp2_with fail
  go_region_held (fun w1 => Below we.heap.size we w1 ∧ (∀ c, (convert 24 9 (.slice A0 l0.length c)).run Try.prog w1 = .ok (.string (strOfNums l0)) w1) ∧ (∀ c, (convert 24 9 (.slice A1 l1.length c)).run Try.prog w1 = .ok (.string (strOfNums l1)) w1) ∧ (∀ c, (convert 24 9 (.slice A2 l0.length c)).run Try.prog w1 = .ok (.string (strOfNums l0)) w1))
    (first
      | exact MK.out _ (Below.drew (Below.refl _ _))
      | exact MK.out _ (pw_below_drewN (Below.refl _ _) _)
      | exact (by go_split_ands; exact MK.out _ (Below.trans (by assumption) (pw_below_drewN (Below.refl _ _) _)))
      | exact (by go_split_ands; assumption)
      | exact MK.out _ SB1.out
      | exact MK.out _ SB2.out
      | fail)
    (first
      | (go_at_call 14; refine (crcW A0 c0 l0 _ (Kd.C_below RE.out (by go_split_ands; assumption)) C0.out W0.out (by have := Y0.out; omega)).mono ?_; rintro e w' ⟨rfl, ⟨nd, rfl⟩⟩)
      | (go_at_call 15; refine (refcrcW' l0 _ W0.out (by have := Y0.out; omega)).mono ?_; rintro e w' ⟨rfl, ⟨nd, rfl⟩⟩)
      | (go_at_call 13; refine (sealW A0 c0 l0 _ (Kd.C_below RE.out (by go_split_ands; assumption)) C0.out W0.out (by have := Y0.out; omega)).mono ?_; rintro e w1 ⟨g1, cs1, rfl, S1, hB1⟩; have SB1 : Aside0 (Below we.heap.size we w1) := ⟨by go_split_ands; exact Below.trans (by assumption) (hB1.out.mono (Below.size (by assumption)))⟩; have SV : Aside0 (Kd.C (Kd.int .u8) w1 (some ⟨g1, 0, none⟩) (sealL l0).length (sealL l0)) := ⟨(Kd.R_reads' S1.out).2.2⟩; have hv1 := fun c => Kd.C_string (c := c) (P := Try.prog) Try.underlying24 Try.underlying5 Try.underlying9 SV.out; clear hB1 S1)
      | (go_at_call 16; refine (refsealW' l0 _ W0.out (by have := Y0.out; omega)).mono ?_; rintro e w2 ⟨rfl, hB2⟩; have SB2 : Aside0 (Below we.heap.size we w2) := ⟨by go_split_ands; exact Below.trans (by assumption) (hB2.mono (Below.size (by assumption)))⟩; have hv2 := fun c => Kd.C_string (c := c) (P := Try.prog) Try.underlying24 Try.underlying5 Try.underlying9 (Kd.C_below SV.out hB2); clear hB2)
      | fail)
  all_goals
    go_wp2
    go_ret
    first
      | exact ⟨rfl, BE.out.trans (SB2.out.mono BE.out.size)⟩
      | (trace_state; fail)
end Go.Proofs.Ytgjhhbljbnbjkaa.PA
