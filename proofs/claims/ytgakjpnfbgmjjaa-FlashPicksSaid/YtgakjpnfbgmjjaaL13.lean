import Derived.Test.YtgakjpnfbgmjjaaL12
import Derived.Test.YtgakjpnfbgmjjaaL11
import Derived.RangeFuncBox
import Derived.RangeFuncLeaves
import Derived.RangeFuncNested
import Derived.RangeFuncBound
import Derived.RangeFuncCalls
import Derived.Shelf.Abstract
import Derived.WalkKit
import Derived.OwnWalkIn
import Derived.TacticsInMore
import Derived.LoopNIn
import Derived.LoopIn
import Derived.Deep.Slices
import Derived.SizedLaws
import Derived.IntWalk
import Derived.ArgAppend
namespace Go.Proofs.Ytgakjpnfbgmjjaa.PA
open Go.RowKit Go.Proofs.YtgakjpnfbgmjjaaW.PrintWords Go.Proofs.YtgakjpnfbgmjjaaW.PrintLast Go.Proofs.YtgakjpnfbgmjjaaW.PrintMore
set_option linter.unusedVariables false
set_option linter.unusedSimpArgs false
set_option maxHeartbeats 4000000 in
set_option maxRecDepth 100000 in
theorem cisternlaw01_FlashPicks.walk (A0 : Option Addr) (c0 : Nat) (l0 : List Int) (n : Int) (w : World) (hr0 : Kd.C (Kd.int .i64) w A0 l0.length l0) (hc0 : l0.length ≤ c0) (y0 : l0.length * 8 ≤ 140737488351232) (w0 : ∀ v ∈ l0, (Lit.int .i64 v).wf = true)
    (wn : (Lit.int .i64 n).wf = true) :
    Calls Try.prog 7 #[.slice A0 l0.length c0, .int .i64 n] w fun e w' => e = .returned (.bool true) ∧ Below w.heap.size w w' := by
  have R0 := Aside0.mk hr0
  have C0 := Aside0.mk hc0
  have Y0 := Aside0.mk y0
  clear hr0 hc0 y0 w0 wn
  obtain ⟨m, hm, hkk0⟩ := mod40 n 30 (by decide) (by decide)
  have hkk : wrap64 ((IntKind.u64.wrap n).tmod 30) = (m : Int) := hkk0
  clear hkk0
  go_enter Try.func7, Try.ntmps7
  go_wp2_with fail
  refine (known_calls w).mono ?_
  rintro e wa ⟨rfl, hB⟩
  have BA := Aside0.mk hB
  clear hB
  go_wp2_with fail
  refine (devB_new 32 (by decide) (by decide) wa 32 rfl).mono ?_
  rintro e wb ⟨g, rfl, hD, hB⟩
  have DB := Aside0.mk hD
  have BB := Aside0.mk (BA.out.trans (hB.mono BA.out.size))
  have BS := Aside0.mk BA.out.size
  clear hD hB
  go_wp2_with fail
  go_loopw [7] (fun v w' => ∃ i : Nat, i ≤ m ∧ v = .int .i64 (i : Int) ∧ ∃ S, Aside0 (S.On 32 ∧ S.waits = wrote i ∧ S.secs = List.replicate 32 (none, false)) ∧ Aside0 (DevB w' wa.heap.size g S) ∧ Aside0 (Below w.heap.size w w')) (fun v _ => ((m : Int) - intOf v).toNat)
  case atStart => exact ⟨0, Nat.zero_le _, rfl, FSt.new 32, ⟨.new 32, rfl, rfl⟩, DB, BB⟩
  case round =>
    obtain ⟨i, hi, rfl, S, SO, YD, YB⟩ := hrel
    clear DB BB
    by_cases hlt : i < m
    · have d1 : decide (i < m) = true := decide_eq_true hlt
      have HM := Aside0.mk (msr_dn m i hlt)
      have HW := Aside0.mk (wrap_suc i (by omega))
      have hx : wrap64 (100 + (i : Int)) = 100 + (i : Int) := by unfold wrap64; omega
      go_wp2_with fail
      refine (bytes_calls (100 + (i : Int)) 0 _).mono ?_
      rintro e w2 ⟨A2, c2, rfl, hb, hB⟩
      rw [bytesN_zero] at hb ⊢
      have X2 := Aside0.mk (hb (by decide))
      have D2 := Aside0.mk (YD.out.below hB)
      have B2 := Aside0.mk (YB.out.trans (hB.mono YB.out.size))
      clear hb hB
      have IN : S.isIn (i : Int) = true := FSt.isIn_iff.2 ⟨by omega, by rw [SO.out.1.n]; omega⟩
      have WR := Aside0.mk (SO.out.1.write IN (bytesL_len (100 + (i : Int))))
      clear IN
      go_wp2_with fail
      refine (devB_write D2.out (by rw [SO.out.2.1, wrote_len]; omega) (i : Int) A2 256 c2 (bytesL (100 + (i : Int)) 0) (bytesL_len _).symm (fun _ => X2.out.move (fun _ _ _ _ => rfl) (fun _ _ _ => trivial))).mono ?_
      rintro e w3 ⟨rfl, hD, hB⟩
      rw [WR.out] at hD ⊢
      have D3 := Aside0.mk hD
      have B3 := Aside0.mk (B2.out.trans (hB.mono BS.out))
      have SO3 : Aside0 (({ S with waits := S.waits ++ [((i : Int), bytesL (100 + (i : Int)) 0)] } : FSt).On 32 ∧ ({ S with waits := S.waits ++ [((i : Int), bytesL (100 + (i : Int)) 0)] } : FSt).waits = wrote (i + 1) ∧ ({ S with waits := S.waits ++ [((i : Int), bytesL (100 + (i : Int)) 0)] } : FSt).secs = List.replicate 32 (none, false)) :=
        ⟨⟨SO.out.1.off, SO.out.1.armed, SO.out.1.n⟩, by rw [wrote_succ, ← SO.out.2.1], SO.out.2.2⟩
      clear hD hB
      go_wp2_with fail
      exact ⟨⟨i + 1, hlt, rfl, _, SO3, D3, B3⟩, HM.out⟩
    · obtain rfl : i = m := by omega
      have d1 : decide (i < i) = false := decide_eq_false hlt
      clear hlt hi
      go_wp2_with fail
      refine (devB_pending YD.out i (by rw [SO.out.2.1, wrote_len])).mono ?_
      rintro e w1 ⟨rfl, rfl⟩
      obtain ⟨A3, n3, c3, w3, hap, hI, hB⟩ := copy_ints w1 A0 c0 l0 (Kd.C_below R0.out YB.out) Y0.out
      have HAP := Aside0.mk hap
      have I3 := Aside0.mk hI
      have D3 := Aside0.mk (YD.out.below hB)
      have B3 := Aside0.mk (YB.out.trans (hB.mono YB.out.size))
      clear hap hI hB
      go_wp2_with (first | (at_builtin; refine wpList_append_ran rfl (.tmp 46) (.tmp 47) 22 rfl _ _ _ rfl rfl HAP.out ?_) | fail)
      refine (devB_crash D3.out _ l0 I3.out).mono ?_
      rintro e w4 ⟨rfl, hD, hB⟩
      have D4 := Aside0.mk hD
      have B4 := Aside0.mk (B3.out.trans (hB.mono BS.out))
      have CR := Aside0.mk (fun j hj => crash_read S i SO.out.2.1 SO.out.2.2 (by omega) l0 j hj)
      clear hD hB hkk
      go_wp2_with fail
      go_loopw [8] (fun v w' => ∃ j : Nat, j ≤ 32 ∧ v = .int .i64 (j : Int) ∧ Aside0 (DevB w' wa.heap.size g (S.crash l0)) ∧ Aside0 (Below w.heap.size w w')) (fun v _ => ((32 : Int) - intOf v).toNat)
      case atStart => exact ⟨0, Nat.zero_le _, rfl, D4, B4⟩
      case round =>
        obtain ⟨j, hj, rfl, ZD, ZB⟩ := hrel
        clear D4 B4 YD YB D3 B3 I3 HAP
        by_cases hlt : j < 32
        · have d2 : decide ((j : Int) < 32) = true := decide_eq_true (by omega)
          have HM : Aside0 (((32 : Int) - intOf (.int .i64 ((j + 1 : Nat) : Int))).toNat < ((32 : Int) - intOf (.int .i64 (j : Int))).toNat) := ⟨by simp [intOf]; omega⟩
          have HW := Aside0.mk (wrap_suc j (by omega))
          have hx : wrap64 (100 + (j : Int)) = 100 + (j : Int) := by unfold wrap64; omega
          obtain ⟨pm, hpm⟩ : ∃ pm, pm = pickM l0 i j := ⟨_, rfl⟩
          have RD := Aside0.mk (CR.out j hlt)
          rw [← hpm] at RD
          have PM := Aside0.mk hpm
          clear hpm
          by_cases hij : i ≤ j
          · have d3 : decide (i ≤ j) = true := decide_eq_true hij
            have P0 : pm = 0 := by rw [PM.out]; unfold pickM; rw [if_pos hij]
            rw [P0, if_neg (by decide), if_neg (by decide)] at RD
            clear hij P0 PM
            go_wp2_with fail
            refine (devB_read ZD.out (j : Int) _ RD.out).mono ?_
            rintro e w5 ⟨A5, c5, rfl, hv, hD, hB⟩
            have V5 := Aside0.mk hv
            have D5 := Aside0.mk hD
            have B5 := Aside0.mk (ZB.out.trans (hB.mono ZB.out.size))
            clear hv hD hB
            rw [noughts_len] at V5 ⊢
            go_wp2_with fail
            refine (cisternref01_Pick.calls A0 c0 l0 (j : Int) (pickAt l0 j) w5 (Kd.C_below R0.out B5.out) C0.out (pick_val l0 j)).mono ?_
            rintro e w6 ⟨rfl, hd⟩
            have V6 : Aside0 (∀ w', Below w6.heap.size w6 w' → ∀ c, (convert 30 9 (.slice A5 256 c)).run Try.prog w' = .ok (.string (strOfNums noughts)) w') := ⟨fun w' hb c => V5.out w' (hd.below.trans (hb.mono hd.below.size)) c⟩
            have D6 := Aside0.mk (D5.out.below hd.below)
            have B6 := Aside0.mk (B5.out.trans (hd.below.mono B5.out.size))
            clear hd V5
            have mk := noughts_make w6
            have cvn := noughts_conv w6
            have BM := Aside0.mk (below_alloc (Below.refl w6.heap.size w6) (.cells (madeCells #[.int .u8 0] 256) 5))
            have cv5 := V6.out _ BM.out
            have D7 := Aside0.mk (D6.out.below BM.out)
            have B7 := Aside0.mk (B6.out.trans (BM.out.mono B6.out.size))
            go_wp2_with fail
            exact ⟨⟨j + 1, hlt, rfl, D7, B7⟩, HM.out⟩
          · have d3 : decide (i ≤ j) = false := decide_eq_false hij
            have PA : Aside0 (pickAt l0 j = pm) := ⟨by rw [PM.out]; unfold pickM; rw [if_neg hij]⟩
            clear hij PM
            by_cases h2 : pm = 2
            · subst h2
              rw [if_pos rfl] at RD
              go_wp2_with fail
              refine (devB_read ZD.out (j : Int) _ RD.out).mono ?_
              rintro e w5 ⟨A5, c5, rfl, hv, hD, hB⟩
              have V5 := Aside0.mk hv
              have D5 := Aside0.mk hD
              have B5 := Aside0.mk (ZB.out.trans (hB.mono ZB.out.size))
              clear hv hD hB
              go_wp2_with fail
              refine (cisternref01_Pick.calls A0 c0 l0 (j : Int) (pickAt l0 j) w5 (Kd.C_below R0.out B5.out) C0.out (pick_val l0 j)).mono ?_
              rintro e w6 ⟨rfl, hd⟩
              have V6 : Aside0 (∀ w', Below w6.heap.size w6 w' → ∀ c, (convert 30 9 (.slice A5 ([] : List Int).length c)).run Try.prog w' = .ok (.string (strOfNums [])) w') := ⟨fun w' hb c => V5.out w' (hd.below.trans (hb.mono hd.below.size)) c⟩
              have D6 := Aside0.mk (D5.out.below hd.below)
              have B6 := Aside0.mk (B5.out.trans (hd.below.mono B5.out.size))
              clear hd V5
              rw [PA.out]
              go_wp2_with fail
              exact ⟨⟨j + 1, hlt, rfl, D6, B6⟩, HM.out⟩
            · by_cases h1 : pm = 1
              · subst h1
                rw [if_neg (by decide), if_pos rfl] at RD
                go_wp2_with fail
                refine (devB_read ZD.out (j : Int) _ RD.out).mono ?_
                rintro e w5 ⟨A5, c5, rfl, hv, hD, hB⟩
                have V5 := Aside0.mk hv
                have D5 := Aside0.mk hD
                have B5 := Aside0.mk (ZB.out.trans (hB.mono ZB.out.size))
                clear hv hD hB
                rw [bytesL_len] at V5 ⊢
                go_wp2_with fail
                refine (cisternref01_Pick.calls A0 c0 l0 (j : Int) (pickAt l0 j) w5 (Kd.C_below R0.out B5.out) C0.out (pick_val l0 j)).mono ?_
                rintro e w6 ⟨rfl, hd⟩
                have V6 : Aside0 (∀ w', Below w6.heap.size w6 w' → ∀ c, (convert 30 9 (.slice A5 256 c)).run Try.prog w' = .ok (.string (strOfNums (bytesL (100 + (j : Int)) 0))) w') := ⟨fun w' hb c => V5.out w' (hd.below.trans (hb.mono hd.below.size)) c⟩
                have D6 := Aside0.mk (D5.out.below hd.below)
                have B6 := Aside0.mk (B5.out.trans (hd.below.mono B5.out.size))
                clear hd V5
                rw [PA.out]
                have mk := noughts_make w6
                have cvn := noughts_conv w6
                have BM := Aside0.mk (below_alloc (Below.refl w6.heap.size w6) (.cells (madeCells #[.int .u8 0] 256) 5))
                have cv5 := V6.out _ BM.out
                go_wp2_with fail
                refine (bytes_calls (100 + (j : Int)) 0 _).mono ?_
                rintro e w7 ⟨A7, c7, rfl, hb, hB⟩
                rw [bytesN_zero] at hb ⊢
                obtain ⟨q7, k7, hq7, -, -, -, hC7⟩ := (hb (by decide)).reads
                rw [Value.slice.injEq] at hq7
                obtain ⟨rfl, -, -⟩ := hq7
                rw [bytesL_len] at hC7
                have B7 := Aside0.mk (BM.out.trans (hB.mono BM.out.size))
                have cv7 : ∀ c, (convert 30 9 (.slice (some ⟨q7, 0, none⟩) 256 c)).run Try.prog w7 = .ok (.string (strOfNums (bytesL (100 + (j : Int)) 0))) w7 := fun c => Kd.C_string (P := Try.prog) Try.underlying30 Try.underlying5 Try.underlying9 hC7
                clear cv5 cvn mk hb hB hC7
                have cv5 := V6.out _ B7.out
                have D7 := Aside0.mk (D6.out.below B7.out)
                have YB7 := Aside0.mk (B6.out.trans (B7.out.mono B6.out.size))
                go_wp2_with fail
                exact ⟨⟨j + 1, hlt, rfl, D7, YB7⟩, HM.out⟩
              · rw [if_neg h2, if_neg h1] at RD
                have f1 : (pm == 2) = false := beq_eq_false_iff_ne.2 h2
                have f2 : (pm == 1) = false := beq_eq_false_iff_ne.2 h1
                clear h1 h2
                go_wp2_with fail
                refine (devB_read ZD.out (j : Int) _ RD.out).mono ?_
                rintro e w5 ⟨A5, c5, rfl, hv, hD, hB⟩
                have V5 := Aside0.mk hv
                have D5 := Aside0.mk hD
                have B5 := Aside0.mk (ZB.out.trans (hB.mono ZB.out.size))
                clear hv hD hB
                rw [noughts_len] at V5 ⊢
                go_wp2_with fail
                refine (cisternref01_Pick.calls A0 c0 l0 (j : Int) (pickAt l0 j) w5 (Kd.C_below R0.out B5.out) C0.out (pick_val l0 j)).mono ?_
                rintro e w6 ⟨rfl, hd⟩
                have V6 : Aside0 (∀ w', Below w6.heap.size w6 w' → ∀ c, (convert 30 9 (.slice A5 256 c)).run Try.prog w' = .ok (.string (strOfNums noughts)) w') := ⟨fun w' hb c => V5.out w' (hd.below.trans (hb.mono hd.below.size)) c⟩
                have D6 := Aside0.mk (D5.out.below hd.below)
                have B6 := Aside0.mk (B5.out.trans (hd.below.mono B5.out.size))
                clear hd V5
                rw [PA.out]
                have mk := noughts_make w6
                have cvn := noughts_conv w6
                have BM := Aside0.mk (below_alloc (Below.refl w6.heap.size w6) (.cells (madeCells #[.int .u8 0] 256) 5))
                have cv5 := V6.out _ BM.out
                have D7 := Aside0.mk (D6.out.below BM.out)
                have B7 := Aside0.mk (B6.out.trans (BM.out.mono B6.out.size))
                go_wp2_with fail
                exact ⟨⟨j + 1, hlt, rfl, D7, B7⟩, HM.out⟩
        · have d2 : decide ((j : Int) < 32) = false := decide_eq_false (by omega)
          go_wp2_with fail
          go_ret
          exact ⟨rfl, ZB.out⟩
end Go.Proofs.Ytgakjpnfbgmjjaa.PA
