import Derived.Test.YtgjhhbljbnbjkaaDoorL3
import Derived.Deep.Slices
import Derived.SizedLaws
import Derived.IntWalk
import Derived.ArgAppend
namespace Go.Proofs.YtgjhhbljbnbjkaaDoor.PA
open Go.RowKit Go.Proofs.YtgjhhbljbnbjkaaDoorW.PrintWords Go.Proofs.YtgjhhbljbnbjkaaDoorW.PrintLast Go.Proofs.YtgjhhbljbnbjkaaDoorW.PrintMore
set_option linter.unusedVariables false
set_option linter.unusedSimpArgs false
/-! ### PackApart -/
set_option maxHeartbeats 1000000 in
set_option maxRecDepth 100000 in
theorem cisternlaw03_PackApart.walk (A0 : Option Addr) (c0 : Nat) (l0 : List Int) (A1 : Option Addr) (c1 : Nat) (l1 : List S42) (w : World) (hr0 : Kd.C (Kd.int .u8) w A0 l0.length l0) (hc0 : l0.length ≤ c0) (y0 : l0.length * 1 ≤ 140737488351232) (w0 : ∀ v ∈ l0, (Lit.int .u8 v).wf = true)
    (hr1 : Kd.C k42 w A1 l1.length l1) (hc1 : l1.length ≤ c1) (y1 : l1.length * 32 ≤ 140737488351232) (_w1 : ∀ v ∈ l1, ((Lit.int .i64 v.f0).wf = true) ∧ ((Lit.int .i64 v.f1).wf = true) ∧ (v.f2.size ≤ maxLen)) :
    Calls Tryd.prog 5 #[.slice A0 l0.length c0, .slice A1 l1.length c1] w fun e w' => e = .returned (.bool true) ∧ Below w.heap.size w w' := by
  have W0 := Aside0.mk (wf_u8 w0)
  have R0 := Aside0.mk hr0
  have C0 := Aside0.mk hc0
  have R1 := Aside0.mk hr1
  have C1 := Aside0.mk hc1
  have hl0 : l0.length ≤ 140737488351232 := by omega
  have hl1 : l1.length ≤ 4398046510976 := by omega
  clear hr0 hc0 y0 w0 hr1 hc1 y1 _w1
  go_enter Tryd.func5, Tryd.ntmps5
  go_wp2_with fail
  refine (cisternlaw03_known.calls true w rfl).mono ?_
  rintro e wa ⟨rfl, hB⟩
  have BA := Aside0.mk hB
  clear hB
  obtain ⟨mk, W2, cs2, hap, hC2, hh2, hs2, hz2, hB2, hsz⟩ := appendIn (P := Tryd.prog) (Kd.int .u8) 22 5 (.int .u8 0) 1 Tryd.underlying22 info5 rfl (by decide) 22 wa A0 c0 l0 9 ((l0.length : Int) + 9) (by omega) (Kd.C_below R0.out BA.out) (by omega) (by omega)
  have C2 := Aside0.mk hC2
  have H2 := Aside0.mk hh2
  have Z2 := Aside0.mk hz2
  have B2 := Aside0.mk (BA.out.trans (hB2.mono BA.out.size))
  have S2 := Aside0.mk hsz
  have HAP := Aside0.mk hap
  have L9 : l0.length ≤ l0.length + 9 := by omega
  clear hC2 hh2 hs2 hz2 hB2 hsz hap
  go_wp2_with (first | (at_builtin; refine wpList_append_ran rfl (.tmp 25) (.tmp 26) 22 rfl _ _ _ rfl rfl HAP.out ?_) | fail)
  refine (pack_Seal.calls _ _ _ l0 _ W2 C2.out L9 (seal_val l0 W0.out hl0)).mono ?_
  rintro e wx ⟨vx, rfl, hR, hB⟩
  obtain ⟨Ax, cx, rfl, hx⟩ := OwnN.of hR
  have BX := Aside0.mk hB
  have OX := Aside0.mk hx
  have QX := Aside0.mk hx.lt
  have BXs := Aside0.mk hB.size
  obtain ⟨nx, hnx⟩ : ∃ n, n = (sealL l0).length := ⟨_, rfl⟩
  have LX : nx ≤ 9223372036854775806 := by rw [hnx, sealL_length]; omega
  rw [← hnx] at OX QX ⊢
  clear hR hB hx hnx mk
  have FV : Aside0 (pack_Frame.f l0 500 = some ((frameV l0 500).1, (frameV l0 500).2)) := ⟨by unfold pack_Frame.f; rw [if_pos ⟨by omega, by omega, by omega⟩]⟩
  have FL : Aside0 ((frameV l0 500).1.length ≤ 9223372036854775806) := ⟨by
    unfold frameV
    split
    · simp
    · split
      · simp
      · rename_i h1 h2
        rw [frameL_length l0 _ (by omega)]
        decide⟩
  obtain ⟨fy, hfy⟩ : ∃ f, f = (frameV l0 500).1 := ⟨_, rfl⟩
  obtain ⟨ey, hey⟩ : ∃ f, f = (frameV l0 500).2 := ⟨_, rfl⟩
  rw [← hfy] at FV FL
  rw [← hey] at FV
  clear hfy hey
  go_wp2_with fail
  refine (pack_Frame.calls _ _ l0 500 fy ey wx (Kd.C_below C2.out BX.out) L9 FV.out).mono ?_
  rintro e wy ⟨vy, rfl, hR, hB⟩
  obtain ⟨Ay, cy, rfl, hy⟩ := OwnN.of hR
  have BY := Aside0.mk (BX.out.trans (hB.mono BX.out.size))
  have OX1 := Aside0.mk (OX.out.below hB)
  have OY := Aside0.mk hy
  have QY := Aside0.mk hy.lt
  have XY := Aside0.mk (hB.size)
  obtain ⟨ny, hny⟩ : ∃ n, n = fy.length := ⟨_, rfl⟩
  have LY : ny ≤ 9223372036854775806 := by rw [hny]; exact FL.out
  rw [← hny] at OY QY ⊢
  clear hR hB hy hny
  have OV : Aside0 (pack_Open.f l0 = some ((openL l0).1, (openL l0).2)) := ⟨by rw [pack_Open.f, if_pos ⟨byteB_iff.2 W0.out, by omega⟩]⟩
  have OL : Aside0 ((openL l0).1.length ≤ 9223372036854775806) := ⟨by
    unfold openL
    split
    · simp
    · split
      · rw [List.length_take]; omega
      · simp⟩
  obtain ⟨fz, hfz⟩ : ∃ f, f = (openL l0).1 := ⟨_, rfl⟩
  obtain ⟨ez, hez⟩ : ∃ f, f = (openL l0).2 := ⟨_, rfl⟩
  rw [← hfz] at OV OL
  rw [← hez] at OV
  clear hfz hez
  go_wp2_with fail
  refine (pack_Open.calls _ _ l0 fz ez wy (Kd.C_below C2.out BY.out) L9 OV.out).mono ?_
  rintro e wz ⟨vz, rfl, hR, hB⟩
  obtain ⟨Az, cz, rfl, hz⟩ := OwnN.of hR
  have BZ := Aside0.mk (BY.out.trans (hB.mono BY.out.size))
  have OX2 := Aside0.mk (OX1.out.below hB)
  have OY2 := Aside0.mk (OY.out.below hB)
  have OZ := Aside0.mk hz
  have QZ := Aside0.mk hz.lt
  have YZ := Aside0.mk (hB.size)
  obtain ⟨nz, hnz⟩ : ∃ n, n = fz.length := ⟨_, rfl⟩
  have LZ : nz ≤ 9223372036854775806 := by rw [hnz]; exact OL.out
  rw [← hnz] at OZ QZ ⊢
  clear hR hB hz hnz
  have UV : Aside0 (pack_Unframe.f l0 = some ((unframeL l0).1, (unframeL l0).2)) := ⟨by unfold pack_Unframe.f; rw [if_pos ⟨byteB_iff.2 W0.out, by omega⟩]⟩
  have UL : Aside0 ((unframeL l0).1.length ≤ 9223372036854775806) := ⟨by
    unfold unframeL
    split
    · simp
    · split
      · simp
      · rw [List.length_take, List.length_drop]; omega⟩
  obtain ⟨fu, hfu⟩ : ∃ f, f = (unframeL l0).1 := ⟨_, rfl⟩
  obtain ⟨eu, heu⟩ : ∃ f, f = (unframeL l0).2 := ⟨_, rfl⟩
  rw [← hfu] at UV UL
  rw [← heu] at UV
  clear hfu heu
  go_wp2_with fail
  refine (pack_Unframe.calls _ _ l0 fu eu wz (Kd.C_below C2.out BZ.out) L9 UV.out).mono ?_
  rintro e wu ⟨vu, rfl, hR, hB⟩
  obtain ⟨Au, cu, rfl, hu⟩ := OwnN.of hR
  have BU := Aside0.mk (BZ.out.trans (hB.mono BZ.out.size))
  have OX3 := Aside0.mk (OX2.out.below hB)
  have OY3 := Aside0.mk (OY2.out.below hB)
  have OZ3 := Aside0.mk (OZ.out.below hB)
  have OU := Aside0.mk hu
  have QU := Aside0.mk hu.lt
  have ZU := Aside0.mk (hB.size)
  obtain ⟨nu, hnu⟩ : ∃ n, n = fu.length := ⟨_, rfl⟩
  have LU : nu ≤ 9223372036854775806 := by rw [hnu]; exact UL.out
  rw [← hnu] at OU QU ⊢
  clear hR hB hu hnu
  go_wp2_with fail
  refine (pack_Crc.calls _ _ _ l0 _ wu (Kd.C_below C2.out BU.out) L9 (crc_val l0 W0.out (by omega))).mono ?_
  rintro e wv ⟨rfl, hd⟩
  have BV := Aside0.mk (BU.out.trans (hd.below.mono BU.out.size))
  have OX4 := Aside0.mk (OX3.out.below hd.below)
  have OY4 := Aside0.mk (OY3.out.below hd.below)
  have OZ4 := Aside0.mk (OZ3.out.below hd.below)
  have OU4 := Aside0.mk (OU.out.below hd.below)
  clear hd
  go_wp2_with fail
  refine (decW _ _ l0 wv (Kd.C_below C2.out BV.out) L9 W0.out hl0).mono ?_
  rintro e wd ⟨Ad, cd, rfl, DC, DL, hB⟩
  have BD := Aside0.mk (BV.out.trans (hB.out.mono BV.out.size))
  have PX := Aside0.mk (OX4.out.below hB.out)
  have PY := Aside0.mk (OY4.out.below hB.out)
  have PZ := Aside0.mk (OZ4.out.below hB.out)
  have PU := Aside0.mk (OU4.out.below hB.out)
  clear hB DC DL OX OX1 OX2 OX3 OX4 OY OY2 OY3 OY4 OZ OZ3 OZ4 OU OU4 FV FL OV OL UV UL
  have SX := Aside0.mk BX.out.size
  clear BX BY BZ BU BV
  obtain ⟨dl, hdl⟩ : ∃ n, n = (decF l0).1.length := ⟨_, rfl⟩
  obtain ⟨de, hde⟩ : ∃ n, n = (decF l0).2 := ⟨_, rfl⟩
  rw [← hdl, ← hde]
  clear hdl hde
  go_wp2_with fail
  go_loopw [13] (fun v w' => ∃ i : Nat, i ≤ nx ∧ v = .int .i64 (i : Int) ∧ Aside0 (OwnN w' W2.heap.size (.slice Ax nx cx) nx) ∧ Aside0 (KeptV wd w' (.slice Ax nx cx)) ∧ Aside0 (Below W2.heap.size W2 w')) (fun v _ => ((nx : Int) - intOf v).toNat)
  case atStart => exact ⟨0, Nat.zero_le _, rfl, PX, ⟨KeptV.refl _ _⟩, BD⟩
  case round =>
    obtain ⟨i, hi, rfl, YR, YK, YB⟩ := hrel
    obtain ⟨w5, rfl⟩ : ∃ wo : World, wo = wr := ⟨_, rfl⟩
    by_cases h : i < nx
    · obtain ⟨g, rfl, G, ⟨u0, k1⟩, k2, QO, QK, QB⟩ := OwnN.at_ (m := 0) YR.out i h
      have HW := Aside0.mk (wrap_suc i (by omega))
      have HM := Aside0.mk (msr_dn nx i h)
      have d1 : decide (i < nx) = true := decide_eq_true h
      have p1 : (0 : Int) ≤ (i : Int) := Int.natCast_nonneg _
      have p2 : (i : Int) < (nx : Int) := Int.ofNat_lt.2 h
      go_wp2_with fail
      exact ⟨⟨i + 1, h, rfl, ⟨QO.out _⟩, ⟨QK.out _ _ YK.out⟩, ⟨QB.out _ _ _ (Nat.le_refl _) YB.out⟩⟩, HM.out⟩
    · have d1 : decide (i < nx) = false := decide_eq_false h
      have PY1 := Aside0.mk (PY.out.keptV YK.out (fun k hk => by have := QX.out k hk; exact this))
      have PZ1 := Aside0.mk (PZ.out.keptV YK.out (fun k hk => Nat.lt_of_lt_of_le (QX.out k hk) XY.out))
      have PU1 := Aside0.mk (PU.out.keptV YK.out (fun k hk => Nat.lt_of_lt_of_le (QX.out k hk) (Nat.le_trans XY.out YZ.out)))
      have B5 := YB
      clear h hi YR YK YB PX
      go_wp2_with fail
      go_loopw [14] (fun v w' => ∃ i : Nat, i ≤ ny ∧ v = .int .i64 (i : Int) ∧ Aside0 (OwnN w' wx.heap.size (.slice Ay ny cy) ny) ∧ Aside0 (KeptV w5 w' (.slice Ay ny cy)) ∧ Aside0 (Below W2.heap.size W2 w')) (fun v _ => ((ny : Int) - intOf v).toNat)
      case atStart => exact ⟨0, Nat.zero_le _, rfl, PY1, ⟨KeptV.refl _ _⟩, B5⟩
      case round =>
        obtain ⟨i, hi, rfl, YR, YK, YB⟩ := hrel
        obtain ⟨w6, rfl⟩ : ∃ wo : World, wo = wr := ⟨_, rfl⟩
        by_cases h : i < ny
        · obtain ⟨g, rfl, G, ⟨u0, k1⟩, k2, QO, QK, QB⟩ := OwnN.at_ (m := 0) YR.out i h
          have HW := Aside0.mk (wrap_suc i (by omega))
          have HM := Aside0.mk (msr_dn ny i h)
          have d1 : decide (i < ny) = true := decide_eq_true h
          have p1 : (0 : Int) ≤ (i : Int) := Int.natCast_nonneg _
          have p2 : (i : Int) < (ny : Int) := Int.ofNat_lt.2 h
          go_wp2_with fail
          exact ⟨⟨i + 1, h, rfl, ⟨QO.out _⟩, ⟨QK.out _ _ YK.out⟩, ⟨QB.out _ _ _ (BXs.out) YB.out⟩⟩, HM.out⟩
        · have d1 : decide (i < ny) = false := decide_eq_false h
          have PZ2 := Aside0.mk (PZ1.out.keptV YK.out (fun k hk => QY.out k hk))
          have PU2 := Aside0.mk (PU1.out.keptV YK.out (fun k hk => Nat.lt_of_lt_of_le (QY.out k hk) YZ.out))
          have B6 := YB
          clear h hi YR YK YB
          go_wp2_with fail
          go_loopw [15] (fun v w' => ∃ i : Nat, i ≤ nz ∧ v = .int .i64 (i : Int) ∧ Aside0 (OwnN w' wy.heap.size (.slice Az nz cz) nz) ∧ Aside0 (KeptV w6 w' (.slice Az nz cz)) ∧ Aside0 (Below W2.heap.size W2 w')) (fun v _ => ((nz : Int) - intOf v).toNat)
          case atStart => exact ⟨0, Nat.zero_le _, rfl, PZ2, ⟨KeptV.refl _ _⟩, B6⟩
          case round =>
            obtain ⟨i, hi, rfl, YR, YK, YB⟩ := hrel
            obtain ⟨w7, rfl⟩ : ∃ wo : World, wo = wr := ⟨_, rfl⟩
            by_cases h : i < nz
            · obtain ⟨g, rfl, G, ⟨u0, k1⟩, k2, QO, QK, QB⟩ := OwnN.at_ (m := 0) YR.out i h
              have HW := Aside0.mk (wrap_suc i (by omega))
              have HM := Aside0.mk (msr_dn nz i h)
              have d1 : decide (i < nz) = true := decide_eq_true h
              have p1 : (0 : Int) ≤ (i : Int) := Int.natCast_nonneg _
              have p2 : (i : Int) < (nz : Int) := Int.ofNat_lt.2 h
              go_wp2_with fail
              exact ⟨⟨i + 1, h, rfl, ⟨QO.out _⟩, ⟨QK.out _ _ YK.out⟩, ⟨QB.out _ _ _ (Nat.le_trans BXs.out XY.out) YB.out⟩⟩, HM.out⟩
            · have d1 : decide (i < nz) = false := decide_eq_false h
              have PU3 := Aside0.mk (PU2.out.keptV YK.out (fun k hk => QZ.out k hk))
              have B7 := YB
              clear h hi YR YK YB
              go_wp2_with fail
              go_loopw [16] (fun v w' => ∃ i : Nat, i ≤ nu ∧ v = .int .i64 (i : Int) ∧ Aside0 (OwnN w' wz.heap.size (.slice Au nu cu) nu) ∧ Aside0 (KeptV w7 w' (.slice Au nu cu)) ∧ Aside0 (Below W2.heap.size W2 w')) (fun v _ => ((nu : Int) - intOf v).toNat)
              case atStart => exact ⟨0, Nat.zero_le _, rfl, PU3, ⟨KeptV.refl _ _⟩, B7⟩
              case round =>
                obtain ⟨i, hi, rfl, YR, YK, YB⟩ := hrel
                obtain ⟨w8, rfl⟩ : ∃ wo : World, wo = wr := ⟨_, rfl⟩
                by_cases h : i < nu
                · obtain ⟨g, rfl, G, ⟨u0, k1⟩, k2, QO, QK, QB⟩ := OwnN.at_ (m := 0) YR.out i h
                  have HW := Aside0.mk (wrap_suc i (by omega))
                  have HM := Aside0.mk (msr_dn nu i h)
                  have d1 : decide (i < nu) = true := decide_eq_true h
                  have p1 : (0 : Int) ≤ (i : Int) := Int.natCast_nonneg _
                  have p2 : (i : Int) < (nu : Int) := Int.ofNat_lt.2 h
                  go_wp2_with fail
                  exact ⟨⟨i + 1, h, rfl, ⟨QO.out _⟩, ⟨QK.out _ _ YK.out⟩, ⟨QB.out _ _ _ (Nat.le_trans BXs.out (Nat.le_trans XY.out YZ.out)) YB.out⟩⟩, HM.out⟩
                · have d1 : decide (i < nu) = false := decide_eq_false h
                  have B8 := YB
                  clear h hi YR YK YB
                  go_wp2_with fail
                  have HH := Aside0.mk ((B8.out.block wa.heap.size S2.out).trans H2.out)
                  go_loop [18] (fun v => ∃ k : Nat, k ≤ 9 ∧ v = .int .i64 ((l0.length : Int) + (k : Int))) (fun v => ((l0.length : Int) + 9 - intOf v).toNat)
                  case atStart => exact ⟨0, by omega, by simp⟩
                  case round =>
                    obtain ⟨k, hk, rfl⟩ := hrel
                    by_cases h : k < 9
                    · have sb : w8.cell? ⟨wa.heap.size, l0.length + k, none⟩ = some (.int .u8 0) := by
                        rw [blk_cell HH.out, Z2.out _ (by show l0.length * 1 ≤ _; omega) (by show _ < (l0.length + 9) * 1; omega)]
                        have : (l0.length + k) % (Kd.int .u8).sz = 0 := Nat.mod_one _
                        rw [this]
                        rfl
                      have HM := Aside0.mk (nine_dn l0.length k h)
                      go_wp2_with fail
                      exact ⟨⟨k + 1, h, nine_eq _ _⟩, HM.out⟩
                    · obtain rfl : k = 9 := by omega
                      clear h hk
                      obtain ⟨mk2, W3, cs3, hap, hC3, _, _, _, hB3, _⟩ := appendIn (P := Tryd.prog) k42 34 42 (.agg #[(.int .i64 0), (.int .i64 0), (.string ⟨#[]⟩)]) 32 Tryd.underlying34 info42 rfl (by decide) 34 w8 A1 c1 l1 2 ((l1.length : Int) + 2) (by omega) (Kd.C_below R1.out (B2.out.trans (B8.out.mono B2.out.size))) (by omega) (by omega)
                      have C3 := Aside0.mk hC3
                      have B3 := Aside0.mk hB3
                      have HAP3 := Aside0.mk hap
                      clear hC3 hB3 hap
                      go_wp2_with (first | (at_builtin; refine wpList_append_ran rfl (.tmp 105) (.tmp 106) 34 rfl _ _ _ rfl rfl HAP3.out ?_) | fail)
                      refine (encW _ _ l1 W3 C3.out (by omega)).mono ?_
                      rintro e we ⟨Ae, ce, rfl, EC, EL, hB⟩
                      have BE := Aside0.mk (B3.out.trans (hB.out.mono B3.out.size))
                      have C3E := Aside0.mk (Kd.C_below C3.out hB.out)
                      clear hB EC EL
                      have R0E := Kd.C_below R0.out (B2.out.trans ((B8.out.trans (BE.out.mono B8.out.size)).mono B2.out.size))
                      have v1 : ∀ c, (convert 22 9 (.slice A0 l0.length c)).run Tryd.prog we = .ok (.string (strOfNums l0)) we := fun c => Kd.C_string Tryd.underlying22 Tryd.underlying5 Tryd.underlying9 R0E
                      have v2 : ∀ c, (convert 22 9 (.slice (some ⟨wa.heap.size, 0, none⟩) l0.length c)).run Tryd.prog we = .ok (.string (strOfNums l0)) we := fun c => Kd.C_string Tryd.underlying22 Tryd.underlying5 Tryd.underlying9 (Kd.C_below C2.out (B8.out.trans (BE.out.mono B8.out.size)))
                      have R1E := Aside0.mk (Kd.C_below R1.out (B2.out.trans ((B8.out.trans (BE.out.mono B8.out.size)).mono B2.out.size)))
                      clear R0E
                      obtain ⟨el, hel⟩ : ∃ n, n = (encR l1).length := ⟨_, rfl⟩
                      obtain ⟨ee, hee⟩ : ∃ n, n = pack_checkV l1 := ⟨_, rfl⟩
                      rw [← hel, ← hee]
                      clear hel hee
                      go_wp2_with fail
                      refine (sameW _ _ l1 A1 c1 l1 we C3E.out (by omega) R1E.out C1.out (by omega)).mono ?_
                      rintro e wf ⟨rfl, hd⟩
                      rw [sameB_self]
                      have BF := Aside0.mk (B2.out.trans ((B8.out.trans ((BE.out.trans (hd.below.mono BE.out.size)).mono B8.out.size)).mono B2.out.size))
                      clear hd
                      go_wp2
                      go_ret
                      exact ⟨rfl, BF.out⟩
end Go.Proofs.YtgjhhbljbnbjkaaDoor.PA
