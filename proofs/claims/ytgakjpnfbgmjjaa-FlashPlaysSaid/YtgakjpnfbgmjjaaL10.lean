import Derived.Test.YtgakjpnfbgmjjaaL8
import Derived.RangeFuncBox
import Derived.RangeFuncLeaves
import Derived.RangeFuncNested
import Derived.RangeFuncBound
import Derived.RangeFuncCalls
import Derived.Shelf.Abstract
import Derived.WalkKit
import Derived.OwnWalkIn
import Derived.TacticsInMore
import Derived.LoopNIn
import Derived.LoopIn
import Derived.Deep.Slices
import Derived.SizedLaws
import Derived.IntWalk
import Derived.ArgAppend
namespace Go.Proofs.Ytgakjpnfbgmjjaa.PA
open Go.RowKit Go.Proofs.YtgakjpnfbgmjjaaW.PrintWords Go.Proofs.YtgakjpnfbgmjjaaW.PrintLast Go.Proofs.YtgakjpnfbgmjjaaW.PrintMore
set_option linter.unusedVariables false
set_option linter.unusedSimpArgs false
/-! ### A device that has power, of so many sectors -/
structure FSt.On (S : FSt) (n : Nat) : Prop where
  off : S.off = false
  armed : S.armed = false
  n : S.secs.length = n
theorem FSt.On.stops {S : FSt} {n : Nat} (h : S.On n) : S.stops = false := by unfold FSt.stops; rw [h.off, h.armed]; rfl
theorem FSt.On.new (n : Nat) : (FSt.new n).On n := ⟨rfl, rfl, by simp [FSt.new]⟩
theorem FSt.On.isIn {S : FSt} {n : Nat} (h : S.On n) (p : Int) : S.isIn p = (decide (0 ≤ p) && decide (p < (n : Int))) := by unfold FSt.isIn; rw [h.n]
theorem FSt.On.write {S : FSt} {n : Nat} (h : S.On n) {p : Int} {b : List Int} (hp : S.isIn p = true) (hb : b.length = 256) : S.write p b = ({ S with waits := S.waits ++ [(p, b)] }, 0) := by
  rw [FSt.write_on h.stops hp hb, FSt.spent_free h.stops h.armed]
theorem FSt.On.writeOn {S : FSt} {n : Nat} (h : S.On n) {p : Int} {b : List Int} (hp : S.isIn p = true) (hb : b.length = 256) : (S.write p b).1.On n := by
  rw [h.write hp hb]; exact ⟨h.off, h.armed, h.n⟩
theorem FSt.lasts_off (l : List (Int × List Int)) : ∀ S : FSt, (S.lasts l).off = S.off := by
  induction l with
  | nil => intro S; rfl
  | cons p l ih => intro S; exact (ih (S.last p)).trans rfl
theorem FSt.lasts_armed (l : List (Int × List Int)) : ∀ S : FSt, (S.lasts l).armed = S.armed := by
  induction l with
  | nil => intro S; rfl
  | cons p l ih => intro S; exact (ih (S.last p)).trans rfl
theorem FSt.On.flush {S : FSt} {n : Nat} (h : S.On n) : S.flush.1 = { S.lasts S.waits with waits := [] } := by
  unfold FSt.flush; rw [h.stops, FSt.spent_free h.stops h.armed]; rfl
theorem FSt.On.flushOn {S : FSt} {n : Nat} (h : S.On n) : S.flush.1.On n := by
  rw [h.flush]
  exact ⟨(FSt.lasts_off _ _).trans h.off, (FSt.lasts_armed _ _).trans h.armed, (FSt.lasts_len _ _).trans h.n⟩
theorem noughts_conv (w : World) : ∀ c, (convert 30 9 (.slice (some ⟨w.heap.size, 0, none⟩) 256 c)).run Try.prog (w.alloc (.cells (madeCells #[.int .u8 0] 256) 5)) = .ok (.string (strOfNums noughts)) (w.alloc (.cells (madeCells #[.int .u8 0] 256) 5)) := fun c => by
  obtain ⟨q, k, hq, -, -, -, hC⟩ := (noughts_blk (W := w) (F := fun _ => True) trivial).reads
  rw [Value.slice.injEq] at hq
  obtain ⟨h1, -, -⟩ := hq
  simp only [Option.some.injEq, Addr.mk.injEq, and_true] at h1
  subst h1
  have := Kd.C_string (P := Try.prog) (c := c) Try.underlying30 Try.underlying5 Try.underlying9 hC
  rw [noughts_len] at this
  exact this
theorem noughts_make (w : World) : (Instr.makeSlice 30 (.int .i64 256) (.int .i64 256)).run Try.prog w = .ok (.slice (some ⟨w.heap.size, 0, none⟩) 256 256) (w.alloc (.cells (madeCells #[.int .u8 0] 256) 5)) := by
  obtain ⟨i, hi, hz, hs, hby⟩ := info_parts info5
  have mk := run_make (P := Try.prog) w 30 5 i _ Try.underlying30 hi hz .i64 .i64 (256 : Int) (256 : Int) (by omega) (by omega) (by rw [hby]; omega) (by omega)
  rw [hs] at mk
  exact mk
/-! ### FlashNewest -/
set_option maxHeartbeats 4000000 in
set_option maxRecDepth 100000 in
theorem cisternlaw01_FlashNewest.walk (A0 : Option Addr) (c0 : Nat) (l0 : List Int) (A1 : Option Addr) (c1 : Nat) (l1 : List Bool) (w : World) (hr0 : Kd.C (Kd.int .i64) w A0 l0.length l0) (hc0 : l0.length ≤ c0) (y0 : l0.length * 8 ≤ 140737488351232) (w0 : ∀ v ∈ l0, (Lit.int .i64 v).wf = true)
    (hr1 : Kd.C Kd.bool w A1 l1.length l1) (hc1 : l1.length ≤ c1) (y1 : l1.length * 1 ≤ 140737488351232) (w1 : ∀ v ∈ l1, True) :
    Calls Try.prog 3 #[.slice A0 l0.length c0, .slice A1 l1.length c1] w fun e w' => e = .returned (.bool true) ∧ Below w.heap.size w w' := by
  have R0 := Aside0.mk hr0
  have R1 := Aside0.mk hr1
  have hl0 : l0.length ≤ 140737488351232 := by omega
  clear hr0 hc0 y0 w0 hr1 hc1 y1 w1
  go_enter Try.func3, Try.ntmps3
  go_wp2_with fail
  refine (known_calls w).mono ?_
  rintro e wa ⟨rfl, hB⟩
  have BA := Aside0.mk hB
  clear hB
  go_wp2_with fail
  refine (devB_new 3 (by decide) (by decide) wa 3 rfl).mono ?_
  rintro e wb ⟨g, rfl, hD, hB⟩
  have DB := Aside0.mk hD
  have BB := Aside0.mk (BA.out.trans (hB.mono BA.out.size))
  have BS := Aside0.mk BA.out.size
  clear hD hB
  go_wp2_with fail
  go_loopw [7] (fun v w' => ∃ i : Nat, i ≤ l0.length ∧ i ≤ 40 ∧ v = .int .i64 (i : Int) ∧ ∃ S, Aside0 (S.On 3 ∧ S.waits.length ≤ i ∧ S.read 0 = (noughts, 0)) ∧ Aside0 (DevB w' wa.heap.size g S) ∧ Aside0 (Below w.heap.size w w')) (fun v _ => ((40 : Int) - intOf v).toNat)
  case atStart => exact ⟨0, Nat.zero_le _, Nat.zero_le _, rfl, FSt.new 3, ⟨.new 3, by simp [FSt.new], by rw [FSt.new_read, FSt.new_isIn]; rfl⟩, DB, BB⟩
  case round =>
    obtain ⟨i, hi, hi40, rfl, S, SO, YD, YB⟩ := hrel
    clear DB BB
    have q1 : ((i : Int) < (l0.length : Int)) = (i < l0.length) := by simp
    by_cases hlt : i < l0.length
    · have d1 : decide (i < l0.length) = true := decide_eq_true hlt
      by_cases hlt2 : i < 40
      · have d2 : decide ((i : Int) < 40) = true := decide_eq_true (by omega)
        have p1 : (0 : Int) ≤ (i : Int) := Int.natCast_nonneg _
        have p2 : (i : Int) < (l0.length : Int) := Int.ofNat_lt.2 hlt
        obtain ⟨ad, hA, hc⟩ := Kd.at_int (Kd.C_below R0.out YB.out) (i : Int) p1 p2
        rw [Int.toNat_natCast] at hc
        obtain ⟨x, hx⟩ : ∃ x, x = rd l0 (i : Int) := ⟨_, rfl⟩
        rw [← hx] at hc
        have HC := Aside0.mk hc
        subst hA
        have HX := Aside0.mk hx
        clear hx
        have HM : Aside0 (((40 : Int) - intOf (.int .i64 ((i + 1 : Nat) : Int))).toNat < ((40 : Int) - intOf (.int .i64 (i : Int))).toNat) := ⟨by simp [intOf]; omega⟩
        have HW := Aside0.mk (wrap_suc i (by omega))
        go_wp2_with fail
        refine (bytes_calls x 0 _).mono ?_
        rintro e w2 ⟨A2, c2, rfl, hb, hB⟩
        rw [bytesN_zero] at hb ⊢
        have X2 := Aside0.mk (hb (by decide))
        have D2 := Aside0.mk (YD.out.below hB)
        have B2 := Aside0.mk (YB.out.trans (hB.mono YB.out.size))
        clear hb hB YD YB
        have IN : S.isIn 1 = true := by rw [SO.out.1.isIn]; rfl
        have WR := Aside0.mk (SO.out.1.write IN (bytesL_len x))
        have ON := Aside0.mk (SO.out.1.writeOn IN (bytesL_len x))
        have RW := Aside0.mk (fun p => FSt.read_write (S := S) SO.out.1.stops IN (bytesL_len x) p)
        clear IN
        go_wp2_with fail
        refine (devB_write D2.out (by have := SO.out.2.1; omega) 1 A2 256 c2 (bytesL x 0) (bytesL_len x).symm (fun _ => X2.out.move (fun _ _ _ _ => rfl) (fun _ _ _ => trivial))).mono ?_
        rintro e w3 ⟨rfl, hD, hB⟩
        have E3 : Aside0 ((S.write 1 (bytesL x 0)).2 = 0) := ⟨by rw [WR.out]⟩
        rw [E3.out]
        obtain ⟨T, hT⟩ : ∃ T, T = (S.write 1 (bytesL x 0)).1 := ⟨_, rfl⟩
        rw [← hT] at hD ON
        have D3 := Aside0.mk hD
        have B3 := Aside0.mk (B2.out.trans (hB.mono (Nat.le_trans BS.out (Nat.le_refl _))))
        have L3 := Aside0.mk B3.out.size
        have TL : Aside0 (T.waits.length ≤ i + 1) := ⟨by rw [hT, WR.out]; simp only [List.length_append, List.length_singleton]; have := SO.out.2.1; omega⟩
        have RT : Aside0 (T.read 1 = (bytesL x 0, 0) ∧ T.read 0 = (noughts, 0)) := ⟨by
          rw [hT, RW.out, RW.out]
          exact ⟨by rw [if_pos rfl], by rw [if_neg (by decide)]; exact SO.out.2.2⟩⟩
        clear hT hD hB
        by_cases hj : i < l1.length
        · have d3 : decide (i < l1.length) = true := decide_eq_true hj
          have p3 : (i : Int) < (l1.length : Int) := Int.ofNat_lt.2 hj
          obtain ⟨ad1, hA1, hc1⟩ := Kd.at_bool (Kd.C_below R1.out B3.out) (i : Int) p1 p3
          rw [Int.toNat_natCast] at hc1
          obtain ⟨fl, hfl⟩ : ∃ fl, fl = rdOf false l1 (i : Int) := ⟨_, rfl⟩
          rw [← hfl] at hc1
          subst hA1
          clear hfl
          cases fl with
          | true =>
            go_wp2_with fail
            refine (devB_flush D3.out).mono ?_
            rintro e wf ⟨rfl, hD, hB⟩
            have E4 : Aside0 (T.flush.2 = 0) := ⟨FSt.flush_on ON.out.stops⟩
            rw [E4.out]
            have D4 := Aside0.mk hD
            have B4 := Aside0.mk (B3.out.trans (hB.mono (Nat.le_trans BS.out (Nat.le_refl _))))
            have BL : Aside0 (True ∧ w.heap.size ≤ wf.heap.size) := ⟨trivial, B4.out.size⟩
            have RA : Aside0 (T.flush.1.read 1 = (bytesL x 0, 0) ∧ T.flush.1.read 0 = (noughts, 0)) := ⟨by
              rw [FSt.read_flush D3.out.ok ON.out.stops, FSt.read_flush D3.out.ok ON.out.stops]
              exact RT.out⟩
            have SO2 : Aside0 (T.flush.1.On 3 ∧ T.flush.1.waits.length ≤ i + 1 ∧ T.flush.1.read 0 = (noughts, 0)) := ⟨ON.out.flushOn, by rw [ON.out.flush]; exact Nat.zero_le _, RA.out.2⟩
            clear hD hB
            have YD2 := Aside0.mk D4.out
            clear D4
            go_wp2_with fail
            refine (devB_read YD2.out 1 _ RA.out.1).mono ?_
            rintro e w4 ⟨A4, c4, rfl, hv, hD, hB⟩
            have V4 := Aside0.mk hv
            have D5 := Aside0.mk hD
            have B5 := Aside0.mk (B4.out.trans (hB.mono BL.out.2))
            have S4 := Aside0.mk (Nat.le_trans BL.out.2 hB.size)
            clear hv hD hB
            rw [bytesL_len x] at V4 ⊢
            go_wp2_with fail
            refine (devB_read D5.out 0 _ RA.out.2).mono ?_
            rintro e w5 ⟨A5, c5, rfl, hv, hD, hB⟩
            have V5 := Aside0.mk hv
            have D6 := Aside0.mk hD
            have B6 := Aside0.mk (B5.out.trans (hB.mono S4.out))
            have S5 := Aside0.mk (Nat.le_trans S4.out hB.size)
            have V4' : Aside0 (∀ w', Below w5.heap.size w5 w' → ∀ c, (convert 30 9 (.slice A4 256 c)).run Try.prog w' = .ok (.string (strOfNums (bytesL x 0))) w') := ⟨fun w' hb c => V4.out w' (hB.trans (hb.mono hB.size)) c⟩
            clear hv hD hB V4
            rw [noughts_len] at V5 ⊢
            have MK : Aside0 (∀ w1, Below w5.heap.size w5 w1 → Below w5.heap.size w5 w1 ∧ (∀ c, (convert 30 9 (.slice A4 256 c)).run Try.prog w1 = .ok (.string (strOfNums (bytesL x 0))) w1) ∧ (∀ c, (convert 30 9 (.slice A5 256 c)).run Try.prog w1 = .ok (.string (strOfNums noughts)) w1) ∧ w1.cell? (ad.add i) = some (.int .i64 x)) :=
              ⟨fun w1 hb => ⟨hb, V4'.out w1 hb, V5.out w1 hb, by
                obtain ⟨ad', h1, h2⟩ := Kd.at_int (Kd.C_below R0.out (B6.out.trans (hb.mono S5.out))) (i : Int) p1 p2
                rw [Option.some.injEq] at h1
                subst h1
                rw [Int.toNat_natCast, ← HX.out] at h2
                exact h2⟩⟩
            have mk := noughts_make
            have cvn := noughts_conv
            go_wp2_with fail
            go_region_held (fun w1 => Below w5.heap.size w5 w1 ∧ (∀ c, (convert 30 9 (.slice A4 256 c)).run Try.prog w1 = .ok (.string (strOfNums (bytesL x 0))) w1) ∧ (∀ c, (convert 30 9 (.slice A5 256 c)).run Try.prog w1 = .ok (.string (strOfNums noughts)) w1) ∧ w1.cell? (ad.add i) = some (.int .i64 x))
              (first
                | exact MK.out _ (Below.drew (Below.refl _ _))
                | exact MK.out _ (pw_below_drewN (Below.refl _ _) _)
                | exact (by go_split_ands; assumption)
                | exact MK.out _ SB1.out
                | exact MK.out _ (below_alloc SB1.out _)
                | fail)
              (first
                | (go_at_call 13; refine (bytes_calls x 0 _).mono ?_; rintro e w6 ⟨A6, c6, rfl, hb, hB1⟩; rw [bytesN_zero] at hb ⊢; obtain ⟨q6, k6, hq6, -, -, -, hC6⟩ := (hb (by decide)).reads; rw [Value.slice.injEq] at hq6; obtain ⟨rfl, -, -⟩ := hq6; rw [bytesL_len x] at hC6; have SB1 : Aside0 (Below w5.heap.size w5 w6) := ⟨by go_split_ands; exact Below.trans (by assumption) (hB1.mono (Below.size (by assumption)))⟩; have hv6 : ∀ c, (convert 30 9 (.slice (some ⟨q6, 0, none⟩) 256 c)).run Try.prog w6 = .ok (.string (strOfNums (bytesL x 0))) w6 := fun c => Kd.C_string (P := Try.prog) Try.underlying30 Try.underlying5 Try.underlying9 hC6; clear hB1 hb hC6)
                | fail)
            have YD7 := Aside0.mk (D6.out.below (below_alloc SB1.out (.cells (madeCells #[.int .u8 0] 256) 5)))
            have YB7 := Aside0.mk (B6.out.trans ((below_alloc SB1.out (.cells (madeCells #[.int .u8 0] 256) 5)).mono S5.out))
            clear mk cvn
            go_wp2_with fail
            exact ⟨⟨i + 1, hlt, hlt2, rfl, _, SO2, YD7, YB7⟩, HM.out⟩
          | false =>
            have D4 := D3
            have B4 := B3
            have RA := RT
            have BL : Aside0 (True ∧ w.heap.size ≤ w3.heap.size) := ⟨trivial, B4.out.size⟩
            have SO2 : Aside0 (T.On 3 ∧ T.waits.length ≤ i + 1 ∧ T.read 0 = (noughts, 0)) := ⟨ON.out, TL.out, RA.out.2⟩
            have YD2 := Aside0.mk D4.out
            clear D4
            go_wp2_with fail
            refine (devB_read YD2.out 1 _ RA.out.1).mono ?_
            rintro e w4 ⟨A4, c4, rfl, hv, hD, hB⟩
            have V4 := Aside0.mk hv
            have D5 := Aside0.mk hD
            have B5 := Aside0.mk (B4.out.trans (hB.mono BL.out.2))
            have S4 := Aside0.mk (Nat.le_trans BL.out.2 hB.size)
            clear hv hD hB
            rw [bytesL_len x] at V4 ⊢
            go_wp2_with fail
            refine (devB_read D5.out 0 _ RA.out.2).mono ?_
            rintro e w5 ⟨A5, c5, rfl, hv, hD, hB⟩
            have V5 := Aside0.mk hv
            have D6 := Aside0.mk hD
            have B6 := Aside0.mk (B5.out.trans (hB.mono S4.out))
            have S5 := Aside0.mk (Nat.le_trans S4.out hB.size)
            have V4' : Aside0 (∀ w', Below w5.heap.size w5 w' → ∀ c, (convert 30 9 (.slice A4 256 c)).run Try.prog w' = .ok (.string (strOfNums (bytesL x 0))) w') := ⟨fun w' hb c => V4.out w' (hB.trans (hb.mono hB.size)) c⟩
            clear hv hD hB V4
            rw [noughts_len] at V5 ⊢
            have MK : Aside0 (∀ w1, Below w5.heap.size w5 w1 → Below w5.heap.size w5 w1 ∧ (∀ c, (convert 30 9 (.slice A4 256 c)).run Try.prog w1 = .ok (.string (strOfNums (bytesL x 0))) w1) ∧ (∀ c, (convert 30 9 (.slice A5 256 c)).run Try.prog w1 = .ok (.string (strOfNums noughts)) w1) ∧ w1.cell? (ad.add i) = some (.int .i64 x)) :=
              ⟨fun w1 hb => ⟨hb, V4'.out w1 hb, V5.out w1 hb, by
                obtain ⟨ad', h1, h2⟩ := Kd.at_int (Kd.C_below R0.out (B6.out.trans (hb.mono S5.out))) (i : Int) p1 p2
                rw [Option.some.injEq] at h1
                subst h1
                rw [Int.toNat_natCast, ← HX.out] at h2
                exact h2⟩⟩
            have mk := noughts_make
            have cvn := noughts_conv
            go_wp2_with fail
            go_region_held (fun w1 => Below w5.heap.size w5 w1 ∧ (∀ c, (convert 30 9 (.slice A4 256 c)).run Try.prog w1 = .ok (.string (strOfNums (bytesL x 0))) w1) ∧ (∀ c, (convert 30 9 (.slice A5 256 c)).run Try.prog w1 = .ok (.string (strOfNums noughts)) w1) ∧ w1.cell? (ad.add i) = some (.int .i64 x))
              (first
                | exact MK.out _ (Below.drew (Below.refl _ _))
                | exact MK.out _ (pw_below_drewN (Below.refl _ _) _)
                | exact (by go_split_ands; assumption)
                | exact MK.out _ SB1.out
                | exact MK.out _ (below_alloc SB1.out _)
                | fail)
              (first
                | (go_at_call 13; refine (bytes_calls x 0 _).mono ?_; rintro e w6 ⟨A6, c6, rfl, hb, hB1⟩; rw [bytesN_zero] at hb ⊢; obtain ⟨q6, k6, hq6, -, -, -, hC6⟩ := (hb (by decide)).reads; rw [Value.slice.injEq] at hq6; obtain ⟨rfl, -, -⟩ := hq6; rw [bytesL_len x] at hC6; have SB1 : Aside0 (Below w5.heap.size w5 w6) := ⟨by go_split_ands; exact Below.trans (by assumption) (hB1.mono (Below.size (by assumption)))⟩; have hv6 : ∀ c, (convert 30 9 (.slice (some ⟨q6, 0, none⟩) 256 c)).run Try.prog w6 = .ok (.string (strOfNums (bytesL x 0))) w6 := fun c => Kd.C_string (P := Try.prog) Try.underlying30 Try.underlying5 Try.underlying9 hC6; clear hB1 hb hC6)
                | fail)
            have YD7 := Aside0.mk (D6.out.below (below_alloc SB1.out (.cells (madeCells #[.int .u8 0] 256) 5)))
            have YB7 := Aside0.mk (B6.out.trans ((below_alloc SB1.out (.cells (madeCells #[.int .u8 0] 256) 5)).mono S5.out))
            clear mk cvn
            go_wp2_with fail
            exact ⟨⟨i + 1, hlt, hlt2, rfl, _, SO2, YD7, YB7⟩, HM.out⟩
        · have d3 : decide (i < l1.length) = false := decide_eq_false hj
          have D4 := D3
          have B4 := B3
          have RA := RT
          have BL : Aside0 (True ∧ w.heap.size ≤ w3.heap.size) := ⟨trivial, B4.out.size⟩
          have SO2 : Aside0 (T.On 3 ∧ T.waits.length ≤ i + 1 ∧ T.read 0 = (noughts, 0)) := ⟨ON.out, TL.out, RA.out.2⟩
          have YD2 := Aside0.mk D4.out
          clear D4
          go_wp2_with fail
          refine (devB_read YD2.out 1 _ RA.out.1).mono ?_
          rintro e w4 ⟨A4, c4, rfl, hv, hD, hB⟩
          have V4 := Aside0.mk hv
          have D5 := Aside0.mk hD
          have B5 := Aside0.mk (B4.out.trans (hB.mono BL.out.2))
          have S4 := Aside0.mk (Nat.le_trans BL.out.2 hB.size)
          clear hv hD hB
          rw [bytesL_len x] at V4 ⊢
          go_wp2_with fail
          refine (devB_read D5.out 0 _ RA.out.2).mono ?_
          rintro e w5 ⟨A5, c5, rfl, hv, hD, hB⟩
          have V5 := Aside0.mk hv
          have D6 := Aside0.mk hD
          have B6 := Aside0.mk (B5.out.trans (hB.mono S4.out))
          have S5 := Aside0.mk (Nat.le_trans S4.out hB.size)
          have V4' : Aside0 (∀ w', Below w5.heap.size w5 w' → ∀ c, (convert 30 9 (.slice A4 256 c)).run Try.prog w' = .ok (.string (strOfNums (bytesL x 0))) w') := ⟨fun w' hb c => V4.out w' (hB.trans (hb.mono hB.size)) c⟩
          clear hv hD hB V4
          rw [noughts_len] at V5 ⊢
          have MK : Aside0 (∀ w1, Below w5.heap.size w5 w1 → Below w5.heap.size w5 w1 ∧ (∀ c, (convert 30 9 (.slice A4 256 c)).run Try.prog w1 = .ok (.string (strOfNums (bytesL x 0))) w1) ∧ (∀ c, (convert 30 9 (.slice A5 256 c)).run Try.prog w1 = .ok (.string (strOfNums noughts)) w1) ∧ w1.cell? (ad.add i) = some (.int .i64 x)) :=
            ⟨fun w1 hb => ⟨hb, V4'.out w1 hb, V5.out w1 hb, by
              obtain ⟨ad', h1, h2⟩ := Kd.at_int (Kd.C_below R0.out (B6.out.trans (hb.mono S5.out))) (i : Int) p1 p2
              rw [Option.some.injEq] at h1
              subst h1
              rw [Int.toNat_natCast, ← HX.out] at h2
              exact h2⟩⟩
          have mk := noughts_make
          have cvn := noughts_conv
          go_wp2_with fail
          go_region_held (fun w1 => Below w5.heap.size w5 w1 ∧ (∀ c, (convert 30 9 (.slice A4 256 c)).run Try.prog w1 = .ok (.string (strOfNums (bytesL x 0))) w1) ∧ (∀ c, (convert 30 9 (.slice A5 256 c)).run Try.prog w1 = .ok (.string (strOfNums noughts)) w1) ∧ w1.cell? (ad.add i) = some (.int .i64 x))
            (first
              | exact MK.out _ (Below.drew (Below.refl _ _))
              | exact MK.out _ (pw_below_drewN (Below.refl _ _) _)
              | exact (by go_split_ands; assumption)
              | exact MK.out _ SB1.out
              | exact MK.out _ (below_alloc SB1.out _)
              | fail)
            (first
              | (go_at_call 13; refine (bytes_calls x 0 _).mono ?_; rintro e w6 ⟨A6, c6, rfl, hb, hB1⟩; rw [bytesN_zero] at hb ⊢; obtain ⟨q6, k6, hq6, -, -, -, hC6⟩ := (hb (by decide)).reads; rw [Value.slice.injEq] at hq6; obtain ⟨rfl, -, -⟩ := hq6; rw [bytesL_len x] at hC6; have SB1 : Aside0 (Below w5.heap.size w5 w6) := ⟨by go_split_ands; exact Below.trans (by assumption) (hB1.mono (Below.size (by assumption)))⟩; have hv6 : ∀ c, (convert 30 9 (.slice (some ⟨q6, 0, none⟩) 256 c)).run Try.prog w6 = .ok (.string (strOfNums (bytesL x 0))) w6 := fun c => Kd.C_string (P := Try.prog) Try.underlying30 Try.underlying5 Try.underlying9 hC6; clear hB1 hb hC6)
              | fail)
          have YD7 := Aside0.mk (D6.out.below (below_alloc SB1.out (.cells (madeCells #[.int .u8 0] 256) 5)))
          have YB7 := Aside0.mk (B6.out.trans ((below_alloc SB1.out (.cells (madeCells #[.int .u8 0] 256) 5)).mono S5.out))
          clear mk cvn
          go_wp2_with fail
          exact ⟨⟨i + 1, hlt, hlt2, rfl, _, SO2, YD7, YB7⟩, HM.out⟩
      · have d2 : decide ((i : Int) < 40) = false := decide_eq_false (by omega)
        go_wp2_with fail
        go_ret
        exact ⟨rfl, YB.out⟩
    · have d1 : decide (i < l0.length) = false := decide_eq_false hlt
      go_wp2_with fail
      go_ret
      exact ⟨rfl, YB.out⟩
end Go.Proofs.Ytgakjpnfbgmjjaa.PA
