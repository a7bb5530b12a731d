import Derived.Test.YtgjhhbljbnbjkaaLnice
namespace Go.Proofs.Ytgjhhbljbnbjkaa.PA
open Go.RowKit Go.Proofs.YtgjhhbljbnbjkaaW.PrintWords Go.Proofs.YtgjhhbljbnbjkaaW.PrintLast Go.Proofs.YtgjhhbljbnbjkaaW.PrintMore
set_option linter.unusedVariables false
set_option linter.unusedSimpArgs false
set_option maxHeartbeats 4000000 in
set_option maxRecDepth 100000 in
theorem cisternlaw03_PackInverse.walk (A0 : Option Addr) (c0 : Nat) (l0 : List S46) (A1 : Option Addr) (c1 : Nat) (l1 : List S46) (A2 : Option Addr) (c2 : Nat) (l2 : List Int) (w : World) (hr0 : Kd.C k46 w A0 l0.length l0) (hc0 : l0.length ≤ c0) (y0 : l0.length * 32 ≤ 140737488351232) (w0 : ∀ v ∈ l0, ((Lit.int .i64 v.f0).wf = true) ∧ ((Lit.int .i64 v.f1).wf = true) ∧ (v.f2.size ≤ maxLen))
    (hr1 : Kd.C k46 w A1 l1.length l1) (hc1 : l1.length ≤ c1) (y1 : l1.length * 32 ≤ 140737488351232) (w1 : ∀ v ∈ l1, ((Lit.int .i64 v.f0).wf = true) ∧ ((Lit.int .i64 v.f1).wf = true) ∧ (v.f2.size ≤ maxLen))
    (hr2 : Kd.C (Kd.int .u8) w A2 l2.length l2) (hc2 : l2.length ≤ c2) (y2 : l2.length * 1 ≤ 140737488351232) (w2 : ∀ v ∈ l2, (Lit.int .u8 v).wf = true) :
    Calls Try.prog 7 #[.slice A0 l0.length c0, .slice A1 l1.length c1, .slice A2 l2.length c2] w fun e w' => e = .returned (.bool true) ∧ Below w.heap.size w w' := by
  have W0 : Aside0 (∀ x ∈ l0, wfI x) := ⟨fun x hx => (w0 x hx).2.1⟩
  have W1 : Aside0 (∀ x ∈ l1, wfI x) := ⟨fun x hx => (w1 x hx).2.1⟩
  have W2 := Aside0.mk (wf_u8 w2)
  have R0 := Aside0.mk hr0
  have R1 := Aside0.mk hr1
  have R2 := Aside0.mk hr2
  have C0 := Aside0.mk hc0
  have C1 := Aside0.mk hc1
  have C2 := Aside0.mk hc2
  have Y0 := Aside0.mk y0
  have Y2 := Aside0.mk y2
  clear hr0 hr1 hr2 hc0 hc1 hc2 y0 y1 y2 w0 w1 w2
  go_enter Try.func7, Try.ntmps7
  go_wp2_with fail
  refine (cisternlaw03_known.calls true w rfl).mono ?_
  rintro e wa ⟨rfl, hB⟩
  have BA := Aside0.mk hB
  clear hB
  go_wp2_with fail
  refine (encW A0 c0 l0 _ (Kd.C_below R0.out BA.out) C0.out).mono ?_
  rintro e wb ⟨Ax, cx, rfl, X, XC, hB⟩
  have BB := Aside0.mk (BA.out.trans (hB.out.mono BA.out.size))
  by_cases h0 : pack_checkV l0 = 0
  · have H0 := Aside0.mk h0
    rw [h0]
    clear h0
    have DX := Aside0.mk (decF_enc l0 H0.out W0.out)
    have EX : Aside0 (encR l0 = encL l0) := ⟨by simp [encR, H0.out]⟩
    go_wp2_with fail
    refine (decW Ax cx (encR l0) _ X.out XC.out (encR_byteL l0) (by have := encR_len l0; omega)).mono ?_
    rintro e wc ⟨Ay, cy, rfl, Y, YC, hB2⟩
    have e1 : decF (encR l0) = (l0, 0) := by rw [EX.out]; exact DX.out
    have BC := Aside0.mk (BB.out.trans (hB2.out.mono BB.out.size))
    rw [e1] at Y YC ⊢
    clear e1
    go_wp2_with fail
    refine (sameW Ay cy l0 A0 c0 l0 _ Y.out YC.out (Kd.C_below R0.out BC.out) C0.out (by have := Y0.out; omega)).mono ?_
    rintro e wd ⟨rfl, ⟨nd, rfl⟩⟩
    rw [sameB_self]
    go_wp2_with fail
    refine (encW A1 c1 l1 _ (Kd.C_below R1.out (BC.out.trans (pw_below_drewN (Below.refl _ _) _))) C1.out).mono ?_
    rintro e we ⟨Ae, ce, rfl, E, EC, hBe⟩
    have BE := Aside0.mk ((BC.out.trans (pw_below_drewN (Below.refl _ _) nd)).trans (hBe.out.mono BC.out.size))
    have XE := Aside0.mk (Kd.C_below X.out ((hB2.out.trans (pw_below_drewN (Below.refl _ _) nd)).trans (hBe.out.mono hB2.out.size)))
    by_cases h1 : pack_checkV l1 = 0
    · have H1 := Aside0.mk h1
      rw [h1]
      clear h1
      have IS := inv_same H0.out H1.out W0.out W1.out
      cases hs : sameB l0 l1
      all_goals
        rw [hs] at IS
        have v1 : ∀ c nq, (convert 24 9 (.slice Ax (encR l0).length c)).run Try.prog (we.drewN nq) = .ok (.string (strOfNums (encR l0))) (we.drewN nq) := fun c nq => Kd.C_string Try.underlying24 Try.underlying5 Try.underlying9 (Kd.C_drewN XE.out nq)
        have v2 : ∀ c nq, (convert 24 9 (.slice Ae (encR l1).length c)).run Try.prog (we.drewN nq) = .ok (.string (strOfNums (encR l1))) (we.drewN nq) := fun c nq => Kd.C_string Try.underlying24 Try.underlying5 Try.underlying9 (Kd.C_drewN E.out nq)
        go_wp2_with fail
        go_quiet (first | (go_at_call 20; refine (sameW A0 c0 l0 A1 c1 l1 _ (Kd.C_drewN (Kd.C_below R0.out BE.out) _) C0.out (Kd.C_drewN (Kd.C_below R1.out BE.out) _) C1.out (by have := Y0.out; omega)).mono ?_; rintro e w' ⟨rfl, ⟨nd, rfl⟩⟩; (first | exact ⟨rfl, _, World.drewN_drewN _ _ _⟩ | exact ⟨rfl, _, Eq.trans (World.drewN_drewN _ _ _) (congrArg (World.drewN _) (Nat.add_assoc _ _ _))⟩)))
        go_wp2_with fail
        refine (decW A2 c2 l2 _ (Kd.C_below R2.out (BE.out.trans (pw_below_drewN (Below.refl _ _) _))) C2.out W2.out (by have := Y2.out; omega)).mono ?_
        rintro e wf ⟨Af, cf, rfl, Fr, FC, hBf⟩
        have BF := Aside0.mk ((BE.out.trans (pw_below_drewN (Below.refl _ _) nq)).trans (hBf.out.mono BE.out.size))
        rcases decF_tells l2 W2.out with hz | ⟨m, hz, hm1, hm2, hm3⟩
        · rw [hz] at Fr FC ⊢
          clear hz
          go_wp2
          go_ret
          exact ⟨rfl, BF.out⟩
        · rw [hz] at Fr FC ⊢
          have M1 := Aside0.mk hm1
          have M2 := Aside0.mk hm2
          clear hz hm1 hm2 hm3
          go_wp2_with fail
          refine (encW Af cf m _ Fr.out FC.out).mono ?_
          rintro e wg ⟨Ag, cg, rfl, G, GC, hBg⟩
          have BG := Aside0.mk (BF.out.trans (hBg.out.mono BF.out.size))
          have EG : encR m = l2 := by simp [encR, M2.out, M1.out]
          rw [M2.out]
          rw [EG] at G GC ⊢
          clear EG
          have v1 : ∀ c, (convert 24 9 (.slice Ag l2.length c)).run Try.prog wg = .ok (.string (strOfNums l2)) wg := fun c => Kd.C_string Try.underlying24 Try.underlying5 Try.underlying9 G.out
          have v2 : ∀ c, (convert 24 9 (.slice A2 l2.length c)).run Try.prog wg = .ok (.string (strOfNums l2)) wg := fun c => Kd.C_string Try.underlying24 Try.underlying5 Try.underlying9 (Kd.C_below R2.out BG.out)
          go_wp2
          go_ret
          exact ⟨rfl, BG.out⟩
    · have H1 := Aside0.mk h1
      have hn : (pack_checkV l1 == 0) = false := by simpa using h1
      clear h1
      go_wp2_with fail
      go_quiet (fail)
      go_wp2_with fail
      refine (decW A2 c2 l2 _ (Kd.C_below R2.out (BE.out.trans (pw_below_drewN (Below.refl _ _) _))) C2.out W2.out (by have := Y2.out; omega)).mono ?_
      rintro e wf ⟨Af, cf, rfl, Fr, FC, hBf⟩
      have BF := Aside0.mk ((BE.out.trans (pw_below_drewN (Below.refl _ _) nq)).trans (hBf.out.mono BE.out.size))
      rcases decF_tells l2 W2.out with hz | ⟨m, hz, hm1, hm2, hm3⟩
      · rw [hz] at Fr FC ⊢
        clear hz
        go_wp2
        go_ret
        exact ⟨rfl, BF.out⟩
      · rw [hz] at Fr FC ⊢
        have M1 := Aside0.mk hm1
        have M2 := Aside0.mk hm2
        clear hz hm1 hm2 hm3
        go_wp2_with fail
        refine (encW Af cf m _ Fr.out FC.out).mono ?_
        rintro e wg ⟨Ag, cg, rfl, G, GC, hBg⟩
        have BG := Aside0.mk (BF.out.trans (hBg.out.mono BF.out.size))
        have EG : encR m = l2 := by simp [encR, M2.out, M1.out]
        rw [M2.out]
        rw [EG] at G GC ⊢
        clear EG
        have v1 : ∀ c, (convert 24 9 (.slice Ag l2.length c)).run Try.prog wg = .ok (.string (strOfNums l2)) wg := fun c => Kd.C_string Try.underlying24 Try.underlying5 Try.underlying9 G.out
        have v2 : ∀ c, (convert 24 9 (.slice A2 l2.length c)).run Try.prog wg = .ok (.string (strOfNums l2)) wg := fun c => Kd.C_string Try.underlying24 Try.underlying5 Try.underlying9 (Kd.C_below R2.out BG.out)
        go_wp2
        go_ret
        exact ⟨rfl, BG.out⟩
  · have hn : (pack_checkV l0 == 0) = false := by simpa using h0
    clear h0
    go_wp2_with fail
    refine (decW A2 c2 l2 _ (Kd.C_below R2.out BB.out) C2.out W2.out (by have := Y2.out; omega)).mono ?_
    rintro e wf ⟨Af, cf, rfl, Fr, FC, hBf⟩
    have BF := Aside0.mk (Below.trans BB.out (hBf.out.mono (Below.size BB.out)))
    rcases decF_tells l2 W2.out with hz | ⟨m, hz, hm1, hm2, hm3⟩
    · rw [hz] at Fr FC ⊢
      clear hz
      go_wp2
      go_ret
      exact ⟨rfl, BF.out⟩
    · rw [hz] at Fr FC ⊢
      have M1 := Aside0.mk hm1
      have M2 := Aside0.mk hm2
      clear hz hm1 hm2 hm3
      go_wp2_with fail
      refine (encW Af cf m _ Fr.out FC.out).mono ?_
      rintro e wg ⟨Ag, cg, rfl, G, GC, hBg⟩
      have BG := Aside0.mk (BF.out.trans (hBg.out.mono BF.out.size))
      have EG : encR m = l2 := by simp [encR, M2.out, M1.out]
      rw [M2.out]
      rw [EG] at G GC ⊢
      clear EG
      have v1 : ∀ c, (convert 24 9 (.slice Ag l2.length c)).run Try.prog wg = .ok (.string (strOfNums l2)) wg := fun c => Kd.C_string Try.underlying24 Try.underlying5 Try.underlying9 G.out
      have v2 : ∀ c, (convert 24 9 (.slice A2 l2.length c)).run Try.prog wg = .ok (.string (strOfNums l2)) wg := fun c => Kd.C_string Try.underlying24 Try.underlying5 Try.underlying9 (Kd.C_below R2.out BG.out)
      go_wp2
      go_ret
      exact ⟨rfl, BG.out⟩
end Go.Proofs.Ytgjhhbljbnbjkaa.PA
