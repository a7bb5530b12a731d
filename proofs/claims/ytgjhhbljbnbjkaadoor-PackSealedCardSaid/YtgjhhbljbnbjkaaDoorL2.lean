import Derived.Test.YtgjhhbljbnbjkaaDoorL1
import Derived.Deep.Slices
import Derived.SizedLaws
import Derived.IntWalk
namespace Go.Proofs.YtgjhhbljbnbjkaaDoor.PA
open Go.RowKit Go.Proofs.YtgjhhbljbnbjkaaDoorW.PrintWords Go.Proofs.YtgjhhbljbnbjkaaDoorW.PrintLast Go.Proofs.YtgjhhbljbnbjkaaDoorW.PrintMore
set_option linter.unusedVariables false
set_option linter.unusedSimpArgs false
/-! ### PackSealed -/
theorem frameW (A : Option Addr) (c : Nat) (l : List Int) (x : Int) (r1 : List Int) (r2 : Int) (w : World) (hr : Kd.C (Kd.int .u8) w A l.length l) (hc : l.length ≤ c) (h : pack_Frame.f l x = some (r1, r2)) :
    Calls Tryd.prog 8 #[.slice A l.length c, .int .i64 x] w fun e w' => ∃ A' c', e = .returned (.tuple #[.slice A' r1.length c', .int .i64 r2]) ∧ Aside0 (Kd.C (Kd.int .u8) w' A' r1.length r1) ∧ Aside0 (r1.length ≤ c') ∧ Aside0 (Below w.heap.size w w') := by
  refine (pack_Frame.calls A c l x r1 r2 w hr hc h).mono ?_
  rintro e w' ⟨v, rfl, hR, hB⟩
  obtain ⟨A', c', rfl, hl, hC⟩ := Kd.R_reads hR
  exact ⟨A', c', rfl, ⟨hC⟩, ⟨hl⟩, ⟨hB⟩⟩
theorem unframeW (A : Option Addr) (c : Nat) (l : List Int) (r1 : List Int) (r2 : Int) (w : World) (hr : Kd.C (Kd.int .u8) w A l.length l) (hc : l.length ≤ c) (h : pack_Unframe.f l = some (r1, r2)) :
    Calls Tryd.prog 10 #[.slice A l.length c] w fun e w' => ∃ A' c', e = .returned (.tuple #[.slice A' r1.length c', .int .i64 r2]) ∧ Aside0 (Kd.C (Kd.int .u8) w' A' r1.length r1) ∧ Aside0 (r1.length ≤ c') ∧ Aside0 (Below w.heap.size w w') := by
  refine (pack_Unframe.calls A c l r1 r2 w hr hc h).mono ?_
  rintro e w' ⟨v, rfl, hR, hB⟩
  obtain ⟨A', c', rfl, hl, hC⟩ := Kd.R_reads hR
  exact ⟨A', c', rfl, ⟨hC⟩, ⟨hl⟩, ⟨hB⟩⟩
set_option maxHeartbeats 1000000 in
set_option maxRecDepth 100000 in
theorem cisternlaw03_PackSealed.walk (A0 : Option Addr) (c0 : Nat) (l0 : List Int) (a1 : Int) (w : World) (hr0 : Kd.C (Kd.int .u8) w A0 l0.length l0) (hc0 : l0.length ≤ c0) (y0 : l0.length * 1 ≤ 140737488351232) (w0 : ∀ v ∈ l0, (Lit.int .u8 v).wf = true) (w1 : (Lit.int .i64 a1).wf = true) :
    Calls Tryd.prog 4 #[.slice A0 l0.length c0, .int .i64 a1] w fun e w' => e = .returned (.bool true) ∧ Below w.heap.size w w' := by
  have W0 := Aside0.mk (wf_u8 w0)
  have R0 := Aside0.mk hr0
  have C0 := Aside0.mk hc0
  have hlen : l0.length ≤ 140737488351232 := by omega
  obtain ⟨u, hu⟩ : ∃ u : Nat, IntKind.u64.wrap a1 = (u : Int) := ⟨(IntKind.u64.wrap a1).toNat, by have := (u64_range a1).1; omega⟩
  clear hr0 hc0 y0 w0 w1
  by_cases hbig : 50000 < l0.length
  · have d1 : decide ((50000 : Int) < (l0.length : Int)) = true := decide_eq_true (by omega)
    clear hu
    go_enter Tryd.func4, Tryd.ntmps4
    go_wp2_with fail
    refine (cisternlaw03_known.calls true w rfl).mono ?_
    rintro e wa ⟨rfl, hB⟩
    have BA := Aside0.mk hB
    clear hB
    go_wp2_with fail
    refine (cisternlaw03_known.calls true wa rfl).mono ?_
    rintro e wb ⟨rfl, hB⟩
    have BB := Aside0.mk (BA.out.trans (hB.mono BA.out.size))
    clear hB
    go_wp2_with fail
    go_ret
    exact ⟨rfl, BB.out⟩
  have d1 : decide ((50000 : Int) < (l0.length : Int)) = false := decide_eq_false (by omega)
  obtain ⟨s, hs⟩ : ∃ s, s = sealL l0 := ⟨_, rfl⟩
  have SL : Aside0 (s.length = l0.length + 4) := ⟨by rw [hs]; exact sealL_length l0⟩
  have SB : Aside0 (byteL s) := ⟨by rw [hs]; exact sealL_byteL W0.out⟩
  have SO : Aside0 (openL s = (l0, 0)) := ⟨by rw [hs]; exact openL_seal l0 W0.out⟩
  have HS := Aside0.mk hs
  obtain ⟨n, hn⟩ : ∃ n : Nat, n = 2 + u % 59000 := ⟨_, rfl⟩
  have hn2 : 2 + (u : Int) % 59000 = (n : Int) := by omega
  have hn3 : n ≤ 60000 := by omega
  clear hs hn
  have hl5 : l0.length ≤ 50000 := by omega
  by_cases hf : 2 + s.length ≤ n
  · have d2 : decide ((n : Int) - 2 < (s.length : Int)) = false := decide_eq_false (by omega)
    have FV : Aside0 (pack_Frame.f s (n : Int) = some (frameL s n, 0)) := ⟨by
      unfold pack_Frame.f frameV
      rw [if_pos (by have := SL.out; omega), if_neg (by omega), if_neg (by omega), Int.toNat_natCast]⟩
    have UV : Aside0 (pack_Unframe.f (frameL s n) = some (s, 0)) := ⟨by
      unfold pack_Unframe.f
      rw [if_pos ⟨byteB_iff.2 (frameL_byteL s _ hf hn3 SB.out), by rw [frameL_length s _ hf]; omega⟩, unframe_frame s _ hf hn3]⟩
    have FL : Aside0 ((frameL s n).length = n) := ⟨frameL_length s n hf⟩
    obtain ⟨fr, hfr⟩ : ∃ f, f = frameL s n := ⟨_, rfl⟩
    rw [← hfr] at FV UV FL
    have d3 : ((s.length : Int) == (l0.length : Int) + 4) = true := by rw [SL.out]; simp
    have d4 : ((fr.length : Int) == (n : Int)) = true := by rw [FL.out]; simp
    have q1 : IntKind.i64.wrap ((l0.length : Int) + 4) = (l0.length : Int) + 4 := IntWalk.i64_in _ (by omega)
    have d5 : (s.length == l0.length + 4) = true := by rw [SL.out]; simp
    have d6 : (fr.length == n) = true := by rw [FL.out]; simp
    clear hfr hbig hf
    go_enter Tryd.func4, Tryd.ntmps4
    go_wp2_with fail
    refine (cisternlaw03_known.calls true w rfl).mono ?_
    rintro e wa ⟨rfl, hB⟩
    have BA := Aside0.mk hB
    clear hB
    go_wp2_with fail
    refine (sealW A0 c0 l0 wa (Kd.C_below R0.out BA.out) C0.out W0.out (by omega)).mono ?_
    rintro e wb ⟨g, cs, rfl, S, hB⟩
    rw [← HS.out] at S ⊢
    have BB := Aside0.mk (BA.out.trans (hB.out.mono BA.out.size))
    obtain ⟨_, sc, sC⟩ := Kd.R_reads' S.out
    have XC := Aside0.mk sC
    have XL := Aside0.mk sc
    clear hB sC sc S
    go_wp2_with fail
    refine (frameW (some ⟨g, 0, none⟩) cs s (n : Int) _ _ wb XC.out XL.out FV.out).mono ?_
    rintro e wc ⟨A1, c1, rfl, FC, FLe, hB⟩
    have BC := Aside0.mk (BB.out.trans (hB.out.mono BB.out.size))
    have XC2 := Aside0.mk (Kd.C_below XC.out hB.out)
    clear hB
    go_wp2_with fail
    refine (unframeW A1 c1 fr _ _ wc FC.out FLe.out UV.out).mono ?_
    rintro e wd ⟨A2, c2, rfl, UC, ULe, hB⟩
    have BD := Aside0.mk (BC.out.trans (hB.out.mono BC.out.size))
    have XC3 := Aside0.mk (Kd.C_below XC2.out hB.out)
    clear hB
    go_wp2_with fail
    refine (openW A2 c2 s wd UC.out ULe.out SB.out (by have := SL.out; omega)).mono ?_
    rintro e we ⟨A3, c3, rfl, OC, OLe, hB⟩
    have BE := Aside0.mk (BD.out.trans (hB.out.mono BD.out.size))
    have XC4 := Aside0.mk (Kd.C_below XC3.out hB.out)
    rw [SO.out] at OC OLe ⊢
    clear hB
    have RE := Aside0.mk (Kd.C_below R0.out BE.out)
    have MK : Aside0 (∀ w1, Below we.heap.size we w1 → (Below we.heap.size we w1 ∧ (∀ c, (convert 22 9 (.slice A0 l0.length c)).run Tryd.prog w1 = .ok (.string (strOfNums l0)) w1) ∧ (∀ c, (convert 22 9 (.slice A3 l0.length c)).run Tryd.prog w1 = .ok (.string (strOfNums l0)) w1) ∧ (∀ c, (convert 22 9 (.slice (some ⟨g, 0, none⟩) s.length c)).run Tryd.prog w1 = .ok (.string (strOfNums s)) w1))) :=
      ⟨fun w1 h => ⟨h, fun c => Kd.C_string Tryd.underlying22 Tryd.underlying5 Tryd.underlying9 (Kd.C_below RE.out h), fun c => Kd.C_string Tryd.underlying22 Tryd.underlying5 Tryd.underlying9 (Kd.C_below OC.out h), fun c => Kd.C_string Tryd.underlying22 Tryd.underlying5 Tryd.underlying9 (Kd.C_below XC4.out h)⟩⟩
    go_wp2_with fail
    go_region_held (fun w1 => Below we.heap.size we w1 ∧ (∀ c, (convert 22 9 (.slice A0 l0.length c)).run Tryd.prog w1 = .ok (.string (strOfNums l0)) w1) ∧ (∀ c, (convert 22 9 (.slice A3 l0.length c)).run Tryd.prog w1 = .ok (.string (strOfNums l0)) w1) ∧ (∀ c, (convert 22 9 (.slice (some ⟨g, 0, none⟩) s.length c)).run Tryd.prog w1 = .ok (.string (strOfNums s)) w1))
      (first
        | exact MK.out _ (Below.drew (Below.refl _ _))
        | exact MK.out _ (pw_below_drewN (Below.refl _ _) _)
        | exact (by go_split_ands; exact MK.out _ (Below.trans (by assumption) (pw_below_drewN (Below.refl _ _) _)))
        | exact (by go_split_ands; assumption)
        | exact MK.out _ SB1.out
        | fail)
      (first
        | (go_at_call 11; refine (sealW A0 c0 l0 _ (Kd.C_below RE.out (by go_split_ands; assumption)) C0.out W0.out (by omega)).mono ?_; rintro e w1 ⟨g1, cs1, rfl, S1, hB1⟩; have SB1 : Aside0 (Below we.heap.size we w1) := ⟨by go_split_ands; exact Below.trans (by assumption) (hB1.out.mono (Below.size (by assumption)))⟩; rw [← HS.out] at S1 ⊢; have SV : Aside0 (Kd.C (Kd.int .u8) w1 (some ⟨g1, 0, none⟩) s.length s) := ⟨(Kd.R_reads' S1.out).2.2⟩; have hv1 := fun c => Kd.C_string (c := c) (P := Tryd.prog) Tryd.underlying22 Tryd.underlying5 Tryd.underlying9 SV.out; clear hB1 S1)
        | fail)
    all_goals
      go_wp2
      go_ret
      exact ⟨rfl, BE.out.trans (SB1.out.mono BE.out.size)⟩
  · have d2 : decide ((n : Int) - 2 < (s.length : Int)) = true := decide_eq_true (by omega)
    have FV : Aside0 (pack_Frame.f s (n : Int) = some ([], 14)) := ⟨by
      unfold pack_Frame.f frameV
      rw [if_pos (by have := SL.out; omega), if_neg (by omega), if_pos (by omega)]⟩
    clear hbig hf
    go_enter Tryd.func4, Tryd.ntmps4
    go_wp2_with fail
    refine (cisternlaw03_known.calls true w rfl).mono ?_
    rintro e wa ⟨rfl, hB⟩
    have BA := Aside0.mk hB
    clear hB
    go_wp2_with fail
    refine (sealW A0 c0 l0 wa (Kd.C_below R0.out BA.out) C0.out W0.out (by omega)).mono ?_
    rintro e wb ⟨g, cs, rfl, S, hB⟩
    rw [← HS.out] at S ⊢
    have BB := Aside0.mk (BA.out.trans (hB.out.mono BA.out.size))
    obtain ⟨_, sc, sC⟩ := Kd.R_reads' S.out
    have XC := Aside0.mk sC
    have XL := Aside0.mk sc
    clear hB sC sc S
    go_wp2_with fail
    refine (frameW (some ⟨g, 0, none⟩) cs s (n : Int) _ _ wb XC.out XL.out FV.out).mono ?_
    rintro e wc ⟨A1, c1, rfl, FC, FLe, hB⟩
    have BC := Aside0.mk (BB.out.trans (hB.out.mono BB.out.size))
    clear hB
    go_wp2_with fail
    go_ret
    exact ⟨rfl, BC.out⟩
end Go.Proofs.YtgjhhbljbnbjkaaDoor.PA
