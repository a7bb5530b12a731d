import Derived.Test.YtgakjpnfbgmjjaaL14
import Derived.RangeFuncBox
import Derived.RangeFuncLeaves
import Derived.RangeFuncNested
import Derived.RangeFuncBound
import Derived.RangeFuncCalls
import Derived.Shelf.Abstract
import Derived.WalkKit
import Derived.OwnWalkIn
import Derived.TacticsInMore
import Derived.LoopNIn
import Derived.LoopIn
import Derived.Deep.Slices
import Derived.SizedLaws
import Derived.IntWalk
import Derived.ArgAppend
namespace Go.Proofs.Ytgakjpnfbgmjjaa.PA
open Go.RowKit Go.Proofs.YtgakjpnfbgmjjaaW.PrintWords Go.Proofs.YtgakjpnfbgmjjaaW.PrintLast Go.Proofs.YtgakjpnfbgmjjaaW.PrintMore
set_option linter.unusedVariables false
set_option linter.unusedSimpArgs false
/-! ### FlashLasts -/
structure LastOk (S : FSt) (L : List Int) : Prop where
  on : S.On 8
  l : L.length = 8
  r : ∀ j : Nat, j < 8 → S.read (j : Int) = (bytesL (L[j]?.getD 0) 0, 0)
theorem LastOk.new : LastOk (FSt.new 8) (List.replicate 8 0) := ⟨.new 8, by simp, fun j hj => by
  rw [FSt.new_read, FSt.new_isIn, decide_eq_true (show (0 : Int) ≤ (j : Int) by omega), decide_eq_true (show (j : Int) < ((8 : Nat) : Int) by omega), List.getElem?_replicate, if_pos hj]
  simp only [Bool.and_self, if_true, Option.getD_some, bytes_zero]⟩
theorem LastOk.write {S : FSt} {L : List Int} (h : LastOk S L) (a : Nat) (ha : a < 8) (x : Int) : LastOk (S.write (a : Int) (bytesL x 0)).1 (L.set a x) ∧ (S.write (a : Int) (bytesL x 0)).2 = 0 ∧ (S.write (a : Int) (bytesL x 0)).1.waits.length = S.waits.length + 1 := by
  have IN : S.isIn (a : Int) = true := FSt.isIn_iff.2 ⟨by omega, by rw [h.on.n]; omega⟩
  refine ⟨⟨h.on.writeOn IN (bytesL_len x), by simp [h.l], fun j hj => ?_⟩, by rw [h.on.write IN (bytesL_len x)], by rw [h.on.write IN (bytesL_len x)]; simp⟩
  rw [FSt.read_write h.on.stops IN (bytesL_len x)]
  by_cases e : a = j
  · subst e
    rw [if_pos rfl, List.getElem?_set_self (by rw [h.l]; exact ha)]
    rfl
  · rw [if_neg (by omega), List.getElem?_set_ne e]
    exact h.r j hj
theorem LastOk.flush {S : FSt} {L : List Int} (h : LastOk S L) (hk : S.Ok) : LastOk S.flush.1 L ∧ S.flush.1.waits = [] ∧ S.flush.2 = 0 :=
  ⟨⟨h.on.flushOn, h.l, fun j hj => by rw [FSt.read_flush hk h.on.stops]; exact h.r j hj⟩, by rw [h.on.flush], FSt.flush_on h.on.stops⟩
theorem made8 : madeCells #[.int .i64 0] 8 = IntRow (List.replicate 8 0) := by kernel_rfl
set_option maxHeartbeats 8000000 in
set_option maxRecDepth 100000 in
theorem cisternlaw01_FlashLasts.walk (A0 : Option Addr) (c0 : Nat) (l0 : List S44) (A1 : Option Addr) (c1 : Nat) (l1 : List Int) (w : World) (hr0 : Kd.C k44 w A0 l0.length l0) (hc0 : l0.length ≤ c0) (y0 : l0.length * 56 ≤ 140737488351232) (w0 : ∀ v ∈ l0, ((Lit.int .i64 v.f0).wf = true) ∧ ((Lit.int .i64 v.f1).wf = true) ∧ ((Lit.int .i64 v.f2).wf = true) ∧ ((Lit.int .i64 v.f3).wf = true) ∧ (∀ x_ ∈ v.f4, (Lit.int .i64 x_).wf = true))
    (hr1 : Kd.C (Kd.int .i64) w A1 l1.length l1) (hc1 : l1.length ≤ c1) (y1 : l1.length * 8 ≤ 140737488351232) (w1 : ∀ v ∈ l1, (Lit.int .i64 v).wf = true) :
    Calls Try.prog 6 #[.slice A0 l0.length c0, .slice A1 l1.length c1] w fun e w' => e = .returned (.bool true) ∧ Below w.heap.size w w' := by
  have R0 := Aside0.mk hr0
  have R1 := Aside0.mk hr1
  have C1 := Aside0.mk hc1
  have Y1 := Aside0.mk y1
  clear hr0 hc0 y0 w0 hr1 hc1 y1 w1
  go_enter Try.func6, Try.ntmps6
  go_wp2_with fail
  refine (known_calls w).mono ?_
  rintro e wa ⟨rfl, hB⟩
  have BA := Aside0.mk hB
  clear hB
  go_wp2_with fail
  refine (devB_new 8 (by decide) (by decide) wa 8 rfl).mono ?_
  rintro e wb ⟨g, rfl, hD, hB⟩
  have DB := Aside0.mk hD
  have BB := Aside0.mk (BA.out.trans (hB.mono BA.out.size))
  have BS := Aside0.mk BA.out.size
  clear hD hB
  have mk8 : (Instr.makeSlice 22 (.int .i64 8) (.int .i64 8)).run Try.prog wb = .ok (.slice (some ⟨wb.heap.size, 0, none⟩) 8 8) (wb.alloc (.cells (madeCells #[.int .i64 0] 8) 3)) := by
    obtain ⟨i, hi, hz, hs, hby⟩ := info_parts info3'
    have mk := run_make (P := Try.prog) wb 22 3 i _ Try.underlying22 hi hz .i64 .i64 (8 : Int) (8 : Int) (by omega) (by omega) (by rw [hby]; omega) (by omega)
    rw [hs] at mk
    exact mk
  have DX := Aside0.mk (DB.out.toX (.cells (madeCells #[.int .i64 0] 8) 3))
  have HR : Aside0 ((wb.alloc (.cells (madeCells #[.int .i64 0] 8) 3)).heap[wb.heap.size]? = some (.cells (IntRow (List.replicate 8 0)) 3 (0, 0))) := ⟨by
    rw [heap_alloc_new, made8]⟩
  have BX := Aside0.mk (BB.out.trans ((below_alloc (Below.refl wb.heap.size wb) (.cells (madeCells #[.int .i64 0] 8) 3)).mono BB.out.size))
  have XB : Aside0 (wa.heap.size ≤ wb.heap.size) := ⟨DB.out.b⟩
  obtain ⟨xl, hxl⟩ : ∃ xl, xl = wb.heap.size := ⟨_, rfl⟩
  rw [← hxl] at mk8 DX HR XB
  clear hxl
  go_wp2_with fail
  clear mk8
  go_loopw [8] (fun v w' => ∃ i : Nat, i ≤ l0.length ∧ i ≤ 60 ∧ v = .int .i64 (i : Int) ∧ ∃ S L, Aside0 (LastOk S L ∧ S.waits.length ≤ i) ∧ Aside0 (DevX w' wa.heap.size xl g S) ∧ Aside0 (w'.heap[xl]? = some (.cells (IntRow L) 3 (0, 0))) ∧ Aside0 (Below w.heap.size w w')) (fun v _ => ((60 : Int) - intOf v).toNat)
  case atStart => exact ⟨0, Nat.zero_le _, Nat.zero_le _, rfl, FSt.new 8, _, ⟨.new, by simp [FSt.new]⟩, DX, HR, BX⟩
  case round =>
    obtain ⟨i, hi, hi60, rfl, S, L, SO, YD, YH, YB⟩ := hrel
    clear DX HR BX BB DB
    by_cases hlt : i < l0.length
    · have d1 : decide (i < l0.length) = true := decide_eq_true hlt
      by_cases hlt2 : i < 60
      · have d2 : decide ((i : Int) < 60) = true := decide_eq_true (by omega)
        have p1 : (0 : Int) ≤ (i : Int) := Int.natCast_nonneg _
        have p2 : (i : Int) < (l0.length : Int) := Int.ofNat_lt.2 hlt
        obtain ⟨ad, A4, c4, hA, -, k1, k2, -, -, -, -⟩ := at_T44 (Kd.C_below R0.out YB.out) (i : Int) p1 p2
        rw [Int.toNat_natCast] at k1 k2
        obtain ⟨y1, hy1⟩ : ∃ y, y = (rd_T44 l0 (i : Int)).f1 := ⟨_, rfl⟩
        obtain ⟨y2, hy2⟩ : ∃ y, y = (rd_T44 l0 (i : Int)).f2 := ⟨_, rfl⟩
        rw [← hy1] at k1
        rw [← hy2] at k2
        subst hA
        obtain ⟨a, ha, hka⟩ := modm y1 8 (by decide) (by decide)
        obtain ⟨f, hf, hkf⟩ := modm y2 1000000 (by decide) (by decide)
        have hka' : wrap64 ((IntKind.u64.wrap y1).tmod 8) = (a : Int) := hka
        have hkf' : wrap64 ((IntKind.u64.wrap y2).tmod 1000000) = (f : Int) := hkf
        clear hy1 hy2 hka hkf
        have HM : Aside0 (((60 : Int) - intOf (.int .i64 ((i + 1 : Nat) : Int))).toNat < ((60 : Int) - intOf (.int .i64 (i : Int))).toNat) := ⟨by simp [intOf]; omega⟩
        have HW := Aside0.mk (wrap_suc i (by omega))
        have LW := Aside0.mk (SO.out.1.write a ha (f : Int))
        go_wp2_with fail
        refine (bytes_calls (f : Int) 0 _).mono ?_
        rintro e w2 ⟨A2, c2, rfl, hb, hB⟩
        rw [bytesN_zero] at hb ⊢
        have X2 := Aside0.mk (hb (by decide))
        have D2 := Aside0.mk (YD.out.below hB)
        have B2 := Aside0.mk (YB.out.trans (hB.mono YB.out.size))
        have H2 := Aside0.mk ((hB.block xl (blk_lt YH.out)).trans YH.out)
        clear hb hB
        go_wp2_with fail
        refine (devX_write D2.out (by have := SO.out.2; omega) (a : Int) A2 256 c2 (bytesL (f : Int) 0) (bytesL_len _).symm (fun _ => X2.out.move (fun _ _ _ _ => rfl) (fun _ _ _ => trivial))).mono ?_
        rintro e w3 ⟨rfl, hD, hB, hX⟩
        rw [LW.out.2.1]
        have D3 := Aside0.mk hD
        have B3 := Aside0.mk (B2.out.trans (hB.mono BS.out))
        have H3 := Aside0.mk (hX.trans H2.out)
        clear hD hB hX
        have r1 := (blk_cell H3.out a).trans (IntRow.get L a (by rw [SO.out.1.l]; exact ha))
        have r2 := blk_frozen H3.out a
        have q1 : (0 : Int) ≤ (a : Int) := Int.natCast_nonneg _
        have q2 : (a : Int) < 8 := by omega
        have D4 := Aside0.mk (D3.out.put a (.int .i64 (f : Int)))
        have H4 : Aside0 ((w3.setCell ⟨xl, a, none⟩ (.int .i64 (f : Int))).heap[xl]? = some (.cells (IntRow (L.set a (f : Int))) 3 (0, 0))) := ⟨by rw [← IntRow.set]; exact heap_setCell_same w3 xl a _ 3 _ H3.out⟩
        have B4 := Aside0.mk (B3.out.setCell (p := ⟨xl, a, none⟩) (show w.heap.size ≤ xl from Nat.le_trans BS.out XB.out) (.int .i64 (f : Int)))
        have SO4 : Aside0 (LastOk (S.write (a : Int) (bytesL (f : Int) 0)).1 (L.set a (f : Int)) ∧ (S.write (a : Int) (bytesL (f : Int) 0)).1.waits.length ≤ i + 1) := ⟨LW.out.1, by rw [LW.out.2.2]; have := SO.out.2; omega⟩
        go_wp2_with fail
        exact ⟨⟨i + 1, hlt, hlt2, rfl, _, _, SO4, D4, H4, B4⟩, HM.out⟩
      · have d2 : decide ((i : Int) < 60) = false := decide_eq_false (by omega)
        have FL := Aside0.mk (SO.out.1.flush YD.out.ok)
        go_wp2_with fail
        refine (devX_flush YD.out).mono ?_
        rintro e w2 ⟨rfl, hD, hB, hX⟩
        rw [FL.out.2.2]
        have D2 := Aside0.mk hD
        have B2 := Aside0.mk (YB.out.trans (hB.mono BS.out))
        have H2 := Aside0.mk (hX.trans YH.out)
        clear hD hB hX
        go_wp2_with fail
        refine (devX_pending D2.out 0 (by rw [FL.out.2.1]; rfl)).mono ?_
        rintro e w3 ⟨rfl, rfl⟩
        go_wp2_with fail
        refine (bytes_calls 999 0 _).mono ?_
        rintro e w4 ⟨A4, c4, rfl, hb, hB⟩
        rw [bytesN_zero] at hb ⊢
        have X4 := Aside0.mk (hb (by decide))
        have D4 := Aside0.mk (D2.out.below hB)
        have B4 := Aside0.mk (B2.out.trans (hB.mono B2.out.size))
        have H4 := Aside0.mk ((hB.block xl (blk_lt H2.out)).trans H2.out)
        clear hb hB
        obtain ⟨T, hT⟩ : ∃ T, T = S.flush.1 := ⟨_, rfl⟩
        rw [← hT] at D4 FL
        have W4 : Aside0 (T.write 3 (bytesL 999 0) = ({ T with waits := [((3 : Int), bytesL 999 0)] }, 0)) := ⟨by
          rw [FL.out.1.on.write (FSt.isIn_iff.2 ⟨by decide, by rw [FL.out.1.on.n]; decide⟩) (bytesL_len _), FL.out.2.1]
          rfl⟩
        clear hT D2
        go_wp2_with fail
        refine (devX_write D4.out (by rw [FL.out.2.1]; simp) 3 A4 256 c4 (bytesL 999 0) (bytesL_len _).symm (fun _ => X4.out.move (fun _ _ _ _ => rfl) (fun _ _ _ => trivial))).mono ?_
        rintro e w5 ⟨rfl, hD, hB, hX⟩
        rw [W4.out] at hD ⊢
        have D5 := Aside0.mk hD
        have B5 := Aside0.mk (B4.out.trans (hB.mono BS.out))
        have H5 := Aside0.mk (hX.trans H4.out)
        clear hD hB hX
        obtain ⟨A6, n6, c6, w6, hap, hI, hB⟩ := copy_ints w5 A1 c1 l1 (Kd.C_below R1.out B5.out) Y1.out
        have HAP := Aside0.mk hap
        have I6 := Aside0.mk hI
        have D6 := Aside0.mk (D5.out.below hB)
        have B6 := Aside0.mk (B5.out.trans (hB.mono B5.out.size))
        have H6 := Aside0.mk ((hB.block xl (blk_lt H5.out)).trans H5.out)
        clear hap hI hB
        go_wp2_with (first | (at_builtin; refine wpList_append_ran rfl (.tmp 77) (.tmp 78) 22 rfl _ _ _ rfl rfl HAP.out ?_) | fail)
        refine (devX_crash D6.out _ l1 I6.out).mono ?_
        rintro e w7 ⟨rfl, hD, hB, hX⟩
        have D7 := Aside0.mk hD
        have B7 := Aside0.mk (B6.out.trans (hB.mono BS.out))
        have H7 := Aside0.mk (hX.trans H6.out)
        have CR := Aside0.mk (fun j hj => lasts_crash T FL.out.1.on FL.out.2.1 (bytesL 999 0) l1 j hj)
        clear hD hB hX
        go_wp2_with fail
        go_loopw [11] (fun v w' => ∃ j : Nat, j ≤ 8 ∧ v = .int .i64 (j : Int) ∧ Aside0 (DevX w' wa.heap.size xl g (({ T with waits := [((3 : Int), bytesL 999 0)] } : FSt).crash l1)) ∧ Aside0 (w'.heap[xl]? = some (.cells (IntRow L) 3 (0, 0))) ∧ Aside0 (Below w.heap.size w w')) (fun v _ => ((8 : Int) - intOf v).toNat)
        case atStart => exact ⟨0, Nat.zero_le _, rfl, D7, H7, B7⟩
        case round =>
          obtain ⟨j, hj, rfl, ZD, ZH, ZB⟩ := hrel
          clear D7 H7 B7 YD YB YH H6 B6 D6 I6 HAP H5 B5 D5 H4 B4 D4 H2 B2
          by_cases hlt : j < 8
          · have d2 : decide ((j : Int) < 8) = true := decide_eq_true (by omega)
            have HM : Aside0 (((8 : Int) - intOf (.int .i64 ((j + 1 : Nat) : Int))).toNat < ((8 : Int) - intOf (.int .i64 (j : Int))).toNat) := ⟨by simp [intOf]; omega⟩
            have HW := Aside0.mk (wrap_suc j (by omega))
            have RD := Aside0.mk (CR.out j hlt)
            have LJ := Aside0.mk (FL.out.1.r j hlt)
            have LL := Aside0.mk FL.out.1.l
            by_cases h3 : j = 3
            · subst h3
              have PC := pickAt_three l1 0
              rcases PC with hp | hp | hp
              · rw [hp, if_neg (by rintro ⟨_, h⟩; exact absurd h (by decide)), if_neg (by rintro ⟨_, h⟩; exact absurd h (by decide)), LJ.out] at RD
                have HP := Aside0.mk hp
                clear hp
                go_wp2_with fail
                refine (devX_read ZD.out 3 _ RD.out).mono ?_
                rintro e w8 ⟨A8, c8, rfl, hv, hD, hB⟩
                have V8 := Aside0.mk hv
                have D8 := Aside0.mk hD
                have B8 := Aside0.mk (ZB.out.trans (hB.mono ZB.out.size))
                have H8 := Aside0.mk ((hB.block xl (blk_lt ZH.out)).trans ZH.out)
                clear hv hD hB
                rw [bytesL_len] at V8 ⊢
                go_wp2_with fail
                refine (cisternref01_Pick.calls A1 c1 l1 0 (pickAt l1 0) w8 (Kd.C_below R1.out B8.out) C1.out (pick_val l1 0)).mono ?_
                rintro e w9 ⟨rfl, hd⟩
                have V9 : Aside0 (∀ w', Below w9.heap.size w9 w' → ∀ c, (convert 30 9 (.slice A8 256 c)).run Try.prog w' = .ok (.string (strOfNums (bytesL (L[3]?.getD 0) 0))) w') := ⟨fun w' hb c => V8.out w' (hd.below.trans (hb.mono hd.below.size)) c⟩
                have D9 := Aside0.mk (D8.out.below hd.below)
                have B9 := Aside0.mk (B8.out.trans (hd.below.mono B8.out.size))
                have H9 := Aside0.mk ((hd.below.block xl (blk_lt H8.out)).trans H8.out)
                clear hd V8
                rw [HP.out]
                go_wp2_with fail
                have MK : Aside0 (∀ w1, Below w9.heap.size w9 w1 → Below w9.heap.size w9 w1 ∧ (∀ c, (convert 30 9 (.slice A8 256 c)).run Try.prog w1 = .ok (.string (strOfNums (bytesL (L[3]?.getD 0) 0))) w1) ∧ w1.cell? ⟨xl, 3, none⟩ = some (.int .i64 (L[3]?.getD 0))) :=
                  ⟨fun w1 hb => ⟨hb, V9.out w1 hb, (blk_cell ((hb.block xl (blk_lt H9.out)).trans H9.out) 3).trans (by rw [IntRow.get L 3 (by rw [LL.out]; omega), List.getElem?_eq_getElem (by rw [LL.out]; omega)]; rfl)⟩⟩
                obtain ⟨cx, hcx⟩ : ∃ cx, cx = L[3]?.getD 0 := ⟨_, rfl⟩
                refine wp_region_held_drew (S := fun w1 => Below w9.heap.size w9 w1 ∧ (∀ c, (convert 30 9 (.slice A8 256 c)).run Try.prog w1 = .ok (.string (strOfNums (bytesL (L[3]?.getD 0) 0))) w1) ∧ w1.cell? ⟨xl, 3, none⟩ = some (.int .i64 (L[3]?.getD 0))) (by kernel_rfl) ?_ (fun hHeld => ?_)
                · try dsimp only
                  first | exact MK.out _ (Below.drew (Below.refl _ _)) | exact MK.out _ SB1.out | assumption
                refine wpAnyH_take (i := 0) (oi := _) (v := _) rfl (by kernel_rfl) (by kernel_rfl) (by kernel_rfl) (fun _ _ _ h => h) (Or.inl ⟨by rfl, by (intro w hSw; (try dsimp only at hSw); go_simp; try with_reducible rfl)⟩) hHeld ?_
                simp only [Act.put, List.getElem_toArray, List.getElem_cons_zero, List.getElem_cons_succ, List.setIfInBounds_toArray, List.set_cons_zero, List.set_cons_succ]
                refine wpAnyH_take (i := 1) (oi := _) (v := _) rfl (by kernel_rfl) (by kernel_rfl) (by kernel_rfl) (fun _ _ _ h => h) (Or.inl ⟨by rfl, by (intro w hSw; (try dsimp only at hSw); go_simp; try with_reducible rfl)⟩) hHeld ?_
                simp only [Act.put, List.getElem_toArray, List.getElem_cons_zero, List.getElem_cons_succ, List.setIfInBounds_toArray, List.set_cons_zero, List.set_cons_succ]
                refine wpAnyH_take (i := 2) (oi := _) (v := _) rfl (by kernel_rfl) (by kernel_rfl) (by kernel_rfl) (fun _ _ _ h => h) (Or.inl ⟨by rfl, by (intro w hSw; (try dsimp only at hSw); go_simp; try with_reducible rfl)⟩) hHeld ?_
                simp only [Act.put, List.getElem_toArray, List.getElem_cons_zero, List.getElem_cons_succ, List.setIfInBounds_toArray, List.set_cons_zero, List.set_cons_succ]
                refine wpAnyH_take (i := 3) (oi := _) (v := undef) rfl (by kernel_rfl) (by kernel_rfl) (by kernel_rfl) (fun _ _ _ h => h) (Or.inr ⟨by rfl, rfl⟩) hHeld ?_
                simp only [Act.put, List.getElem_toArray, List.getElem_cons_zero, List.getElem_cons_succ, List.setIfInBounds_toArray, List.set_cons_zero, List.set_cons_succ]
                refine wpAnyH_take (i := 4) (oi := _) (v := undef) rfl (by kernel_rfl) (by kernel_rfl) (by kernel_rfl) (fun _ _ _ h => h) (Or.inr ⟨by rfl, rfl⟩) hHeld ?_
                simp only [Act.put, List.getElem_toArray, List.getElem_cons_zero, List.getElem_cons_succ, List.setIfInBounds_toArray, List.set_cons_zero, List.set_cons_succ]
                refine wpAnyH_take (i := 5) (oi := _) (v := _) rfl (by kernel_rfl) (by kernel_rfl) (by kernel_rfl) (fun _ _ _ h => h) (Or.inl ⟨by rfl, by (intro w hSw; (try dsimp only at hSw); go_simp; try with_reducible rfl)⟩) hHeld ?_
                simp only [Act.put, List.getElem_toArray, List.getElem_cons_zero, List.getElem_cons_succ, List.setIfInBounds_toArray, List.set_cons_zero, List.set_cons_succ]
                refine wpAnyH_take (i := 6) (oi := _) (v := _) rfl (by kernel_rfl) (by kernel_rfl) (by kernel_rfl) (fun _ _ _ h => h) (Or.inl ⟨by rfl, by (intro w hSw; (try dsimp only at hSw); go_simp; try with_reducible rfl)⟩) hHeld ?_
                simp only [Act.put, List.getElem_toArray, List.getElem_cons_zero, List.getElem_cons_succ, List.setIfInBounds_toArray, List.set_cons_zero, List.set_cons_succ]
                refine wpAnyH_take (i := 7) (oi := _) (v := _) rfl (by kernel_rfl) (by kernel_rfl) (by kernel_rfl) (fun _ _ _ h => h) (Or.inl ⟨by rfl, by (intro w hSw; (try dsimp only at hSw); go_simp; try with_reducible rfl)⟩) hHeld ?_
                simp only [Act.put, List.getElem_toArray, List.getElem_cons_zero, List.getElem_cons_succ, List.setIfInBounds_toArray, List.set_cons_zero, List.set_cons_succ]
                refine wpAnyH_take (i := 8) (oi := _) (v := _) rfl (by kernel_rfl) (by kernel_rfl) (by kernel_rfl) (fun _ _ _ h => h) (Or.inl ⟨by rfl, by (intro w hSw; (try dsimp only at hSw); go_simp; try with_reducible rfl)⟩) hHeld ?_
                simp only [Act.put, List.getElem_toArray, List.getElem_cons_zero, List.getElem_cons_succ, List.setIfInBounds_toArray, List.set_cons_zero, List.set_cons_succ]
                refine wpAnyH_take (i := 9) (oi := _) (v := _) rfl (by kernel_rfl) (by kernel_rfl) (by kernel_rfl) (fun _ _ _ h => h) (Or.inl ⟨by rfl, by (intro w hSw; (try dsimp only at hSw); go_simp; try with_reducible rfl)⟩) hHeld ?_
                simp only [Act.put, List.getElem_toArray, List.getElem_cons_zero, List.getElem_cons_succ, List.setIfInBounds_toArray, List.set_cons_zero, List.set_cons_succ]
                refine wpAnyH_take (i := 10) (oi := _) (v := undef) rfl (by kernel_rfl) (by kernel_rfl) (by kernel_rfl) (fun _ _ _ h => h) (Or.inr ⟨by rfl, rfl⟩) hHeld ?_
                simp only [Act.put, List.getElem_toArray, List.getElem_cons_zero, List.getElem_cons_succ, List.setIfInBounds_toArray, List.set_cons_zero, List.set_cons_succ]
                refine wpAnyH_take (i := 11) (oi := _) (v := undef) rfl (by kernel_rfl) (by kernel_rfl) (by kernel_rfl) (fun _ _ _ h => h) (Or.inr ⟨by rfl, rfl⟩) hHeld ?_
                simp only [Act.put, List.getElem_toArray, List.getElem_cons_zero, List.getElem_cons_succ, List.setIfInBounds_toArray, List.set_cons_zero, List.set_cons_succ]
                refine wpAnyH_take (i := 12) (oi := _) (v := undef) rfl (by kernel_rfl) (by kernel_rfl) (by kernel_rfl) (fun _ _ _ h => h) (Or.inr ⟨by rfl, rfl⟩) hHeld ?_
                simp only [Act.put, List.getElem_toArray, List.getElem_cons_zero, List.getElem_cons_succ, List.setIfInBounds_toArray, List.set_cons_zero, List.set_cons_succ]
                refine wpAnyH_take (i := 13) (oi := _) (v := undef) rfl (by kernel_rfl) (by kernel_rfl) (by kernel_rfl) (fun _ _ _ h => h) (Or.inr ⟨by rfl, rfl⟩) hHeld ?_
                simp only [Act.put, List.getElem_toArray, List.getElem_cons_zero, List.getElem_cons_succ, List.setIfInBounds_toArray, List.set_cons_zero, List.set_cons_succ]
                refine wpAnyH_take (i := 14) (oi := _) (v := undef) rfl (by kernel_rfl) (by kernel_rfl) (by kernel_rfl) (fun _ _ _ h => h) (Or.inr ⟨by rfl, rfl⟩) hHeld ?_
                simp only [Act.put, List.getElem_toArray, List.getElem_cons_zero, List.getElem_cons_succ, List.setIfInBounds_toArray, List.set_cons_zero, List.set_cons_succ]
                refine wpAnyH_take (i := 15) (oi := _) (v := _) rfl (by kernel_rfl) (by kernel_rfl) (by kernel_rfl) (fun _ _ _ h => h) (Or.inl ⟨by rfl, by (intro w hSw; (try dsimp only at hSw); go_simp; try with_reducible rfl)⟩) hHeld ?_
                simp only [Act.put, List.getElem_toArray, List.getElem_cons_zero, List.getElem_cons_succ, List.setIfInBounds_toArray, List.set_cons_zero, List.set_cons_succ]
                refine wpAnyH_take (i := 16) (oi := _) (v := _) rfl (by kernel_rfl) (by kernel_rfl) (by kernel_rfl) (fun _ _ _ h => h) (Or.inl ⟨by rfl, by (intro w hSw; (try dsimp only at hSw); go_simp; try with_reducible rfl)⟩) hHeld ?_
                simp only [Act.put, List.getElem_toArray, List.getElem_cons_zero, List.getElem_cons_succ, List.setIfInBounds_toArray, List.set_cons_zero, List.set_cons_succ]
                refine wpAnyH_take (i := 17) (oi := _) (v := _) rfl (by kernel_rfl) (by kernel_rfl) (by kernel_rfl) (fun _ _ _ h => h) (Or.inl ⟨by rfl, by (intro w hSw; (try dsimp only at hSw); go_simp; try with_reducible rfl)⟩) hHeld ?_
                simp only [Act.put, List.getElem_toArray, List.getElem_cons_zero, List.getElem_cons_succ, List.setIfInBounds_toArray, List.set_cons_zero, List.set_cons_succ]
                refine wpAnyH_take (i := 18) (oi := _) (v := _) rfl (by kernel_rfl) (by kernel_rfl) (by kernel_rfl) (fun _ _ _ h => h) (Or.inl ⟨by rfl, by (intro w hSw; (try dsimp only at hSw); go_simp; try with_reducible rfl)⟩) hHeld ?_
                simp only [Act.put, List.getElem_toArray, List.getElem_cons_zero, List.getElem_cons_succ, List.setIfInBounds_toArray, List.set_cons_zero, List.set_cons_succ]
                refine wpAnyH_take (i := 19) (oi := _) (v := _) rfl (by kernel_rfl) (by kernel_rfl) (by kernel_rfl) (fun _ _ _ h => h) (Or.inl ⟨by rfl, by (intro w hSw; (try dsimp only at hSw); go_simp; try with_reducible rfl)⟩) hHeld ?_
                simp only [Act.put, List.getElem_toArray, List.getElem_cons_zero, List.getElem_cons_succ, List.setIfInBounds_toArray, List.set_cons_zero, List.set_cons_succ]
                refine wpAnyH_take (i := 20) (oi := _) (v := _) rfl (by kernel_rfl) (by kernel_rfl) (by kernel_rfl) (fun _ _ _ h => h) (Or.inl ⟨by rfl, by (intro w hSw; (try dsimp only at hSw); go_simp; try with_reducible rfl)⟩) hHeld ?_
                simp only [Act.put, List.getElem_toArray, List.getElem_cons_zero, List.getElem_cons_succ, List.setIfInBounds_toArray, List.set_cons_zero, List.set_cons_succ]
                refine wpAnyH_take (i := 21) (oi := _) (v := _) rfl (by kernel_rfl) (by kernel_rfl) (by kernel_rfl) (fun _ _ _ h => h) (Or.inl ⟨by rfl, by (intro w hSw; (try dsimp only at hSw); go_simp; try with_reducible rfl)⟩) hHeld ?_
                simp only [Act.put, List.getElem_toArray, List.getElem_cons_zero, List.getElem_cons_succ, List.setIfInBounds_toArray, List.set_cons_zero, List.set_cons_succ]
                refine wpAnyH_take (i := 22) (oi := _) (v := _) rfl (by kernel_rfl) (by kernel_rfl) (by kernel_rfl) (fun _ _ _ h => h) (Or.inl ⟨by rfl, by (intro w hSw; (try dsimp only at hSw); go_simp; try with_reducible rfl)⟩) hHeld ?_
                simp only [Act.put, List.getElem_toArray, List.getElem_cons_zero, List.getElem_cons_succ, List.setIfInBounds_toArray, List.set_cons_zero, List.set_cons_succ]
                refine wpAnyH_take (i := 23) (oi := _) (v := _) rfl (by kernel_rfl) (by kernel_rfl) (by kernel_rfl) (fun _ _ _ h => h) (Or.inl ⟨by rfl, by (intro w hSw; (try dsimp only at hSw); go_simp; try with_reducible rfl)⟩) hHeld ?_
                simp only [Act.put, List.getElem_toArray, List.getElem_cons_zero, List.getElem_cons_succ, List.setIfInBounds_toArray, List.set_cons_zero, List.set_cons_succ]
                refine wpAnyH_take (i := 24) (oi := _) (v := _) rfl (by kernel_rfl) (by kernel_rfl) (by kernel_rfl) (fun _ _ _ h => h) (Or.inl ⟨by rfl, by (intro w hSw; (try dsimp only at hSw); go_simp; try with_reducible rfl)⟩) hHeld ?_
                simp only [Act.put, List.getElem_toArray, List.getElem_cons_zero, List.getElem_cons_succ, List.setIfInBounds_toArray, List.set_cons_zero, List.set_cons_succ]
                refine wpAnyH_take (i := 25) (oi := _) (v := _) rfl (by kernel_rfl) (by kernel_rfl) (by kernel_rfl) (fun _ _ _ h => h) (Or.inl ⟨by rfl, by (intro w hSw; (try dsimp only at hSw); go_simp; try with_reducible rfl)⟩) hHeld ?_
                simp only [Act.put, List.getElem_toArray, List.getElem_cons_zero, List.getElem_cons_succ, List.setIfInBounds_toArray, List.set_cons_zero, List.set_cons_succ]
                refine wpAnyH_ready (rs := [26]) (by kernel_rfl) (by simp) ?_
                refine AllReadyH.cons rfl (fun K hK => ?_) AllReadyH.nil
                go_simp
                go_wp2_with fail
                refine (bytes_calls (L[3]?.getD 0) 0 _).mono ?_
                rintro e w10 ⟨A10, c10, rfl, hb, hB1⟩
                rw [bytesN_zero] at hb ⊢
                obtain ⟨q10, k10, hq10, -, -, -, hC10⟩ := (hb (by decide)).reads
                rw [Value.slice.injEq] at hq10
                obtain ⟨rfl, -, -⟩ := hq10
                rw [bytesL_len] at hC10
                have SB1 : Aside0 (Below w9.heap.size w9 w10) := ⟨Below.trans hHeld.1 (hB1.mono hHeld.1.size)⟩
                have hv10 : ∀ c, (convert 30 9 (.slice (some ⟨q10, 0, none⟩) 256 c)).run Try.prog w10 = .ok (.string (strOfNums (bytesL (L[3]?.getD 0) 0))) w10 := fun c => Kd.C_string (P := Try.prog) Try.underlying30 Try.underlying5 Try.underlying9 hC10
                clear hb hB1 hC10
                go_wp2_with fail
                refine hK.out _ _ ?_ (fun hNew => ?_)
                · try dsimp only
                  first | exact MK.out _ (Below.drew (Below.refl _ _)) | exact MK.out _ SB1.out | assumption
                clear hK K hHeld
                have hHeld := hNew
                clear hNew
                refine wpAnyH_ready (rs := [27]) (by kernel_rfl) (by simp) ?_
                refine AllReadyH.cons rfl (fun K hK => ?_) AllReadyH.nil
                go_simp
                refine hK.out _ _ ?_ (fun hNew => ?_)
                · try dsimp only
                  first | exact MK.out _ (Below.drew (Below.refl _ _)) | exact MK.out _ SB1.out | assumption
                clear hK K hHeld
                have hHeld := hNew
                clear hNew
                refine wpAnyH_take (i := 28) (oi := _) (v := _) rfl (by kernel_rfl) (by kernel_rfl) (by kernel_rfl) (fun _ _ _ h => h) (Or.inl ⟨by rfl, by (intro w hSw; (try dsimp only at hSw); go_simp; try with_reducible rfl)⟩) hHeld ?_
                simp only [Act.put, List.getElem_toArray, List.getElem_cons_zero, List.getElem_cons_succ, List.setIfInBounds_toArray, List.set_cons_zero, List.set_cons_succ]
                refine wpAnyH_take (i := 29) (oi := _) (v := _) rfl (by kernel_rfl) (by kernel_rfl) (by kernel_rfl) (fun _ _ _ h => h) (Or.inl ⟨by rfl, by (intro w hSw; (try dsimp only at hSw); go_simp; try with_reducible rfl)⟩) hHeld ?_
                simp only [Act.put, List.getElem_toArray, List.getElem_cons_zero, List.getElem_cons_succ, List.setIfInBounds_toArray, List.set_cons_zero, List.set_cons_succ]
                refine wpAnyH_take (i := 30) (oi := _) (v := _) rfl (by kernel_rfl) (by kernel_rfl) (by kernel_rfl) (fun _ _ _ h => h) (Or.inl ⟨by rfl, by (intro w hSw; (try dsimp only at hSw); go_simp; try with_reducible rfl)⟩) hHeld ?_
                simp only [Act.put, List.getElem_toArray, List.getElem_cons_zero, List.getElem_cons_succ, List.setIfInBounds_toArray, List.set_cons_zero, List.set_cons_succ]
                refine wpAnyH_done (by kernel_rfl) ?_ _
                have YD10 := Aside0.mk (D9.out.below SB1.out)
                have YB10 := Aside0.mk (B9.out.trans (SB1.out.mono B9.out.size))
                have YH10 := Aside0.mk ((SB1.out.block xl (blk_lt H9.out)).trans H9.out)
                go_wp2_with fail
                exact ⟨⟨3 + 1, hlt, rfl, YD10, YH10, YB10⟩, HM.out⟩
              · rw [hp, if_pos ⟨rfl, rfl⟩] at RD
                have HP := Aside0.mk hp
                clear hp
                go_wp2_with fail
                refine (devX_read ZD.out 3 _ RD.out).mono ?_
                rintro e w8 ⟨A8, c8, rfl, hv, hD, hB⟩
                have V8 := Aside0.mk hv
                have D8 := Aside0.mk hD
                have B8 := Aside0.mk (ZB.out.trans (hB.mono ZB.out.size))
                have H8 := Aside0.mk ((hB.block xl (blk_lt ZH.out)).trans ZH.out)
                clear hv hD hB
                rw [bytesL_len] at V8 ⊢
                go_wp2_with fail
                refine (cisternref01_Pick.calls A1 c1 l1 0 (pickAt l1 0) w8 (Kd.C_below R1.out B8.out) C1.out (pick_val l1 0)).mono ?_
                rintro e w9 ⟨rfl, hd⟩
                have V9 : Aside0 (∀ w', Below w9.heap.size w9 w' → ∀ c, (convert 30 9 (.slice A8 256 c)).run Try.prog w' = .ok (.string (strOfNums (bytesL 999 0))) w') := ⟨fun w' hb c => V8.out w' (hd.below.trans (hb.mono hd.below.size)) c⟩
                have D9 := Aside0.mk (D8.out.below hd.below)
                have B9 := Aside0.mk (B8.out.trans (hd.below.mono B8.out.size))
                have H9 := Aside0.mk ((hd.below.block xl (blk_lt H8.out)).trans H8.out)
                clear hd V8
                rw [HP.out]
                go_wp2_with fail
                have MK : Aside0 (∀ w1, Below w9.heap.size w9 w1 → Below w9.heap.size w9 w1 ∧ (∀ c, (convert 30 9 (.slice A8 256 c)).run Try.prog w1 = .ok (.string (strOfNums (bytesL 999 0))) w1) ∧ w1.cell? ⟨xl, 3, none⟩ = some (.int .i64 (L[3]?.getD 0))) :=
                  ⟨fun w1 hb => ⟨hb, V9.out w1 hb, (blk_cell ((hb.block xl (blk_lt H9.out)).trans H9.out) 3).trans (by rw [IntRow.get L 3 (by rw [LL.out]; omega), List.getElem?_eq_getElem (by rw [LL.out]; omega)]; rfl)⟩⟩
                obtain ⟨cx, hcx⟩ : ∃ cx, cx = L[3]?.getD 0 := ⟨_, rfl⟩
                refine wp_region_held_drew (S := fun w1 => Below w9.heap.size w9 w1 ∧ (∀ c, (convert 30 9 (.slice A8 256 c)).run Try.prog w1 = .ok (.string (strOfNums (bytesL 999 0))) w1) ∧ w1.cell? ⟨xl, 3, none⟩ = some (.int .i64 (L[3]?.getD 0))) (by kernel_rfl) ?_ (fun hHeld => ?_)
                · try dsimp only
                  first | exact MK.out _ (Below.drew (Below.refl _ _)) | exact MK.out _ SB1.out | assumption
                refine wpAnyH_take (i := 0) (oi := _) (v := _) rfl (by kernel_rfl) (by kernel_rfl) (by kernel_rfl) (fun _ _ _ h => h) (Or.inl ⟨by rfl, by (intro w hSw; (try dsimp only at hSw); go_simp; try with_reducible rfl)⟩) hHeld ?_
                simp only [Act.put, List.getElem_toArray, List.getElem_cons_zero, List.getElem_cons_succ, List.setIfInBounds_toArray, List.set_cons_zero, List.set_cons_succ]
                refine wpAnyH_take (i := 1) (oi := _) (v := _) rfl (by kernel_rfl) (by kernel_rfl) (by kernel_rfl) (fun _ _ _ h => h) (Or.inl ⟨by rfl, by (intro w hSw; (try dsimp only at hSw); go_simp; try with_reducible rfl)⟩) hHeld ?_
                simp only [Act.put, List.getElem_toArray, List.getElem_cons_zero, List.getElem_cons_succ, List.setIfInBounds_toArray, List.set_cons_zero, List.set_cons_succ]
                refine wpAnyH_take (i := 2) (oi := _) (v := _) rfl (by kernel_rfl) (by kernel_rfl) (by kernel_rfl) (fun _ _ _ h => h) (Or.inl ⟨by rfl, by (intro w hSw; (try dsimp only at hSw); go_simp; try with_reducible rfl)⟩) hHeld ?_
                simp only [Act.put, List.getElem_toArray, List.getElem_cons_zero, List.getElem_cons_succ, List.setIfInBounds_toArray, List.set_cons_zero, List.set_cons_succ]
                refine wpAnyH_take (i := 3) (oi := _) (v := undef) rfl (by kernel_rfl) (by kernel_rfl) (by kernel_rfl) (fun _ _ _ h => h) (Or.inr ⟨by rfl, rfl⟩) hHeld ?_
                simp only [Act.put, List.getElem_toArray, List.getElem_cons_zero, List.getElem_cons_succ, List.setIfInBounds_toArray, List.set_cons_zero, List.set_cons_succ]
                refine wpAnyH_take (i := 4) (oi := _) (v := undef) rfl (by kernel_rfl) (by kernel_rfl) (by kernel_rfl) (fun _ _ _ h => h) (Or.inr ⟨by rfl, rfl⟩) hHeld ?_
                simp only [Act.put, List.getElem_toArray, List.getElem_cons_zero, List.getElem_cons_succ, List.setIfInBounds_toArray, List.set_cons_zero, List.set_cons_succ]
                refine wpAnyH_take (i := 5) (oi := _) (v := _) rfl (by kernel_rfl) (by kernel_rfl) (by kernel_rfl) (fun _ _ _ h => h) (Or.inl ⟨by rfl, by (intro w hSw; (try dsimp only at hSw); go_simp; try with_reducible rfl)⟩) hHeld ?_
                simp only [Act.put, List.getElem_toArray, List.getElem_cons_zero, List.getElem_cons_succ, List.setIfInBounds_toArray, List.set_cons_zero, List.set_cons_succ]
                refine wpAnyH_take (i := 6) (oi := _) (v := _) rfl (by kernel_rfl) (by kernel_rfl) (by kernel_rfl) (fun _ _ _ h => h) (Or.inl ⟨by rfl, by (intro w hSw; (try dsimp only at hSw); go_simp; try with_reducible rfl)⟩) hHeld ?_
                simp only [Act.put, List.getElem_toArray, List.getElem_cons_zero, List.getElem_cons_succ, List.setIfInBounds_toArray, List.set_cons_zero, List.set_cons_succ]
                refine wpAnyH_take (i := 7) (oi := _) (v := _) rfl (by kernel_rfl) (by kernel_rfl) (by kernel_rfl) (fun _ _ _ h => h) (Or.inl ⟨by rfl, by (intro w hSw; (try dsimp only at hSw); go_simp; try with_reducible rfl)⟩) hHeld ?_
                simp only [Act.put, List.getElem_toArray, List.getElem_cons_zero, List.getElem_cons_succ, List.setIfInBounds_toArray, List.set_cons_zero, List.set_cons_succ]
                refine wpAnyH_take (i := 8) (oi := _) (v := _) rfl (by kernel_rfl) (by kernel_rfl) (by kernel_rfl) (fun _ _ _ h => h) (Or.inl ⟨by rfl, by (intro w hSw; (try dsimp only at hSw); go_simp; try with_reducible rfl)⟩) hHeld ?_
                simp only [Act.put, List.getElem_toArray, List.getElem_cons_zero, List.getElem_cons_succ, List.setIfInBounds_toArray, List.set_cons_zero, List.set_cons_succ]
                refine wpAnyH_take (i := 9) (oi := _) (v := _) rfl (by kernel_rfl) (by kernel_rfl) (by kernel_rfl) (fun _ _ _ h => h) (Or.inl ⟨by rfl, by (intro w hSw; (try dsimp only at hSw); go_simp; try with_reducible rfl)⟩) hHeld ?_
                simp only [Act.put, List.getElem_toArray, List.getElem_cons_zero, List.getElem_cons_succ, List.setIfInBounds_toArray, List.set_cons_zero, List.set_cons_succ]
                refine wpAnyH_take (i := 10) (oi := _) (v := _) rfl (by kernel_rfl) (by kernel_rfl) (by kernel_rfl) (fun _ _ _ h => h) (Or.inl ⟨by rfl, by (intro w hSw; (try dsimp only at hSw); go_simp; try with_reducible rfl)⟩) hHeld ?_
                simp only [Act.put, List.getElem_toArray, List.getElem_cons_zero, List.getElem_cons_succ, List.setIfInBounds_toArray, List.set_cons_zero, List.set_cons_succ]
                refine wpAnyH_take (i := 11) (oi := _) (v := _) rfl (by kernel_rfl) (by kernel_rfl) (by kernel_rfl) (fun _ _ _ h => h) (Or.inl ⟨by rfl, by (intro w hSw; (try dsimp only at hSw); go_simp; try with_reducible rfl)⟩) hHeld ?_
                simp only [Act.put, List.getElem_toArray, List.getElem_cons_zero, List.getElem_cons_succ, List.setIfInBounds_toArray, List.set_cons_zero, List.set_cons_succ]
                refine wpAnyH_ready (rs := [12]) (by kernel_rfl) (by simp) ?_
                refine AllReadyH.cons rfl (fun K hK => ?_) AllReadyH.nil
                go_simp
                go_wp2_with fail
                refine (bytes_calls 999 0 _).mono ?_
                rintro e w10 ⟨A10, c10, rfl, hb, hB1⟩
                rw [bytesN_zero] at hb ⊢
                obtain ⟨q10, k10, hq10, -, -, -, hC10⟩ := (hb (by decide)).reads
                rw [Value.slice.injEq] at hq10
                obtain ⟨rfl, -, -⟩ := hq10
                rw [bytesL_len] at hC10
                have SB1 : Aside0 (Below w9.heap.size w9 w10) := ⟨Below.trans hHeld.1 (hB1.mono hHeld.1.size)⟩
                have hv10 : ∀ c, (convert 30 9 (.slice (some ⟨q10, 0, none⟩) 256 c)).run Try.prog w10 = .ok (.string (strOfNums (bytesL 999 0))) w10 := fun c => Kd.C_string (P := Try.prog) Try.underlying30 Try.underlying5 Try.underlying9 hC10
                clear hb hB1 hC10
                go_wp2_with fail
                refine hK.out _ _ ?_ (fun hNew => ?_)
                · try dsimp only
                  first | exact MK.out _ (Below.drew (Below.refl _ _)) | exact MK.out _ SB1.out | assumption
                clear hK K hHeld
                have hHeld := hNew
                clear hNew
                refine wpAnyH_ready (rs := [13]) (by kernel_rfl) (by simp) ?_
                refine AllReadyH.cons rfl (fun K hK => ?_) AllReadyH.nil
                go_simp
                refine hK.out _ _ ?_ (fun hNew => ?_)
                · try dsimp only
                  first | exact MK.out _ (Below.drew (Below.refl _ _)) | exact MK.out _ SB1.out | assumption
                clear hK K hHeld
                have hHeld := hNew
                clear hNew
                refine wpAnyH_take (i := 14) (oi := _) (v := _) rfl (by kernel_rfl) (by kernel_rfl) (by kernel_rfl) (fun _ _ _ h => h) (Or.inl ⟨by rfl, by (intro w hSw; (try dsimp only at hSw); go_simp; try with_reducible rfl)⟩) hHeld ?_
                simp only [Act.put, List.getElem_toArray, List.getElem_cons_zero, List.getElem_cons_succ, List.setIfInBounds_toArray, List.set_cons_zero, List.set_cons_succ]
                refine wpAnyH_take (i := 15) (oi := _) (v := _) rfl (by kernel_rfl) (by kernel_rfl) (by kernel_rfl) (fun _ _ _ h => h) (Or.inl ⟨by rfl, by (intro w hSw; (try dsimp only at hSw); go_simp; try with_reducible rfl)⟩) hHeld ?_
                simp only [Act.put, List.getElem_toArray, List.getElem_cons_zero, List.getElem_cons_succ, List.setIfInBounds_toArray, List.set_cons_zero, List.set_cons_succ]
                refine wpAnyH_take (i := 16) (oi := _) (v := _) rfl (by kernel_rfl) (by kernel_rfl) (by kernel_rfl) (fun _ _ _ h => h) (Or.inl ⟨by rfl, by (intro w hSw; (try dsimp only at hSw); go_simp; try with_reducible rfl)⟩) hHeld ?_
                simp only [Act.put, List.getElem_toArray, List.getElem_cons_zero, List.getElem_cons_succ, List.setIfInBounds_toArray, List.set_cons_zero, List.set_cons_succ]
                refine wpAnyH_take (i := 17) (oi := _) (v := _) rfl (by kernel_rfl) (by kernel_rfl) (by kernel_rfl) (fun _ _ _ h => h) (Or.inl ⟨by rfl, by (intro w hSw; (try dsimp only at hSw); go_simp; try with_reducible rfl)⟩) hHeld ?_
                simp only [Act.put, List.getElem_toArray, List.getElem_cons_zero, List.getElem_cons_succ, List.setIfInBounds_toArray, List.set_cons_zero, List.set_cons_succ]
                refine wpAnyH_take (i := 18) (oi := _) (v := _) rfl (by kernel_rfl) (by kernel_rfl) (by kernel_rfl) (fun _ _ _ h => h) (Or.inl ⟨by rfl, by (intro w hSw; (try dsimp only at hSw); go_simp; try with_reducible rfl)⟩) hHeld ?_
                simp only [Act.put, List.getElem_toArray, List.getElem_cons_zero, List.getElem_cons_succ, List.setIfInBounds_toArray, List.set_cons_zero, List.set_cons_succ]
                refine wpAnyH_take (i := 19) (oi := _) (v := _) rfl (by kernel_rfl) (by kernel_rfl) (by kernel_rfl) (fun _ _ _ h => h) (Or.inl ⟨by rfl, by (intro w hSw; (try dsimp only at hSw); go_simp; try with_reducible rfl)⟩) hHeld ?_
                simp only [Act.put, List.getElem_toArray, List.getElem_cons_zero, List.getElem_cons_succ, List.setIfInBounds_toArray, List.set_cons_zero, List.set_cons_succ]
                refine wpAnyH_take (i := 20) (oi := _) (v := _) rfl (by kernel_rfl) (by kernel_rfl) (by kernel_rfl) (fun _ _ _ h => h) (Or.inl ⟨by rfl, by (intro w hSw; (try dsimp only at hSw); go_simp; try with_reducible rfl)⟩) hHeld ?_
                simp only [Act.put, List.getElem_toArray, List.getElem_cons_zero, List.getElem_cons_succ, List.setIfInBounds_toArray, List.set_cons_zero, List.set_cons_succ]
                refine wpAnyH_take (i := 21) (oi := _) (v := undef) rfl (by kernel_rfl) (by kernel_rfl) (by kernel_rfl) (fun _ _ _ h => h) (Or.inr ⟨by rfl, rfl⟩) hHeld ?_
                simp only [Act.put, List.getElem_toArray, List.getElem_cons_zero, List.getElem_cons_succ, List.setIfInBounds_toArray, List.set_cons_zero, List.set_cons_succ]
                refine wpAnyH_take (i := 22) (oi := _) (v := undef) rfl (by kernel_rfl) (by kernel_rfl) (by kernel_rfl) (fun _ _ _ h => h) (Or.inr ⟨by rfl, rfl⟩) hHeld ?_
                simp only [Act.put, List.getElem_toArray, List.getElem_cons_zero, List.getElem_cons_succ, List.setIfInBounds_toArray, List.set_cons_zero, List.set_cons_succ]
                refine wpAnyH_take (i := 23) (oi := _) (v := undef) rfl (by kernel_rfl) (by kernel_rfl) (by kernel_rfl) (fun _ _ _ h => h) (Or.inr ⟨by rfl, rfl⟩) hHeld ?_
                simp only [Act.put, List.getElem_toArray, List.getElem_cons_zero, List.getElem_cons_succ, List.setIfInBounds_toArray, List.set_cons_zero, List.set_cons_succ]
                refine wpAnyH_take (i := 24) (oi := _) (v := undef) rfl (by kernel_rfl) (by kernel_rfl) (by kernel_rfl) (fun _ _ _ h => h) (Or.inr ⟨by rfl, rfl⟩) hHeld ?_
                simp only [Act.put, List.getElem_toArray, List.getElem_cons_zero, List.getElem_cons_succ, List.setIfInBounds_toArray, List.set_cons_zero, List.set_cons_succ]
                refine wpAnyH_take (i := 25) (oi := _) (v := undef) rfl (by kernel_rfl) (by kernel_rfl) (by kernel_rfl) (fun _ _ _ h => h) (Or.inr ⟨by rfl, rfl⟩) hHeld ?_
                simp only [Act.put, List.getElem_toArray, List.getElem_cons_zero, List.getElem_cons_succ, List.setIfInBounds_toArray, List.set_cons_zero, List.set_cons_succ]
                refine wpAnyH_take (i := 26) (oi := _) (v := undef) rfl (by kernel_rfl) (by kernel_rfl) (by kernel_rfl) (fun _ _ _ h => h) (Or.inr ⟨by rfl, rfl⟩) hHeld ?_
                simp only [Act.put, List.getElem_toArray, List.getElem_cons_zero, List.getElem_cons_succ, List.setIfInBounds_toArray, List.set_cons_zero, List.set_cons_succ]
                refine wpAnyH_take (i := 27) (oi := _) (v := undef) rfl (by kernel_rfl) (by kernel_rfl) (by kernel_rfl) (fun _ _ _ h => h) (Or.inr ⟨by rfl, rfl⟩) hHeld ?_
                simp only [Act.put, List.getElem_toArray, List.getElem_cons_zero, List.getElem_cons_succ, List.setIfInBounds_toArray, List.set_cons_zero, List.set_cons_succ]
                refine wpAnyH_take (i := 28) (oi := _) (v := undef) rfl (by kernel_rfl) (by kernel_rfl) (by kernel_rfl) (fun _ _ _ h => h) (Or.inr ⟨by rfl, rfl⟩) hHeld ?_
                simp only [Act.put, List.getElem_toArray, List.getElem_cons_zero, List.getElem_cons_succ, List.setIfInBounds_toArray, List.set_cons_zero, List.set_cons_succ]
                refine wpAnyH_take (i := 29) (oi := _) (v := _) rfl (by kernel_rfl) (by kernel_rfl) (by kernel_rfl) (fun _ _ _ h => h) (Or.inl ⟨by rfl, by (intro w hSw; (try dsimp only at hSw); go_simp; try with_reducible rfl)⟩) hHeld ?_
                simp only [Act.put, List.getElem_toArray, List.getElem_cons_zero, List.getElem_cons_succ, List.setIfInBounds_toArray, List.set_cons_zero, List.set_cons_succ]
                refine wpAnyH_take (i := 30) (oi := _) (v := _) rfl (by kernel_rfl) (by kernel_rfl) (by kernel_rfl) (fun _ _ _ h => h) (Or.inl ⟨by rfl, by (intro w hSw; (try dsimp only at hSw); go_simp; try with_reducible rfl)⟩) hHeld ?_
                simp only [Act.put, List.getElem_toArray, List.getElem_cons_zero, List.getElem_cons_succ, List.setIfInBounds_toArray, List.set_cons_zero, List.set_cons_succ]
                refine wpAnyH_done (by kernel_rfl) ?_ _
                have YD10 := Aside0.mk (D9.out.below SB1.out)
                have YB10 := Aside0.mk (B9.out.trans (SB1.out.mono B9.out.size))
                have YH10 := Aside0.mk ((SB1.out.block xl (blk_lt H9.out)).trans H9.out)
                go_wp2_with fail
                exact ⟨⟨3 + 1, hlt, rfl, YD10, YH10, YB10⟩, HM.out⟩
              · rw [hp, if_neg (by rintro ⟨_, h⟩; exact absurd h (by decide)), if_pos ⟨rfl, rfl⟩] at RD
                have HP := Aside0.mk hp
                clear hp
                go_wp2_with fail
                refine (devX_read ZD.out 3 _ RD.out).mono ?_
                rintro e w8 ⟨A8, c8, rfl, hv, hD, hB⟩
                have V8 := Aside0.mk hv
                have D8 := Aside0.mk hD
                have B8 := Aside0.mk (ZB.out.trans (hB.mono ZB.out.size))
                have H8 := Aside0.mk ((hB.block xl (blk_lt ZH.out)).trans ZH.out)
                clear hv hD hB

                go_wp2_with fail
                refine (cisternref01_Pick.calls A1 c1 l1 0 (pickAt l1 0) w8 (Kd.C_below R1.out B8.out) C1.out (pick_val l1 0)).mono ?_
                rintro e w9 ⟨rfl, hd⟩
                have V9 : Aside0 (∀ w', Below w9.heap.size w9 w' → ∀ c, (convert 30 9 (.slice A8 ([] : List Int).length c)).run Try.prog w' = .ok (.string (strOfNums [])) w') := ⟨fun w' hb c => V8.out w' (hd.below.trans (hb.mono hd.below.size)) c⟩
                have D9 := Aside0.mk (D8.out.below hd.below)
                have B9 := Aside0.mk (B8.out.trans (hd.below.mono B8.out.size))
                have H9 := Aside0.mk ((hd.below.block xl (blk_lt H8.out)).trans H8.out)
                clear hd V8
                rw [HP.out]
                go_wp2_with fail
                have MK : Aside0 (∀ w1, Below w9.heap.size w9 w1 → Below w9.heap.size w9 w1 ∧ (∀ c, (convert 30 9 (.slice A8 ([] : List Int).length c)).run Try.prog w1 = .ok (.string (strOfNums [])) w1) ∧ w1.cell? ⟨xl, 3, none⟩ = some (.int .i64 (L[3]?.getD 0))) :=
                  ⟨fun w1 hb => ⟨hb, V9.out w1 hb, (blk_cell ((hb.block xl (blk_lt H9.out)).trans H9.out) 3).trans (by rw [IntRow.get L 3 (by rw [LL.out]; omega), List.getElem?_eq_getElem (by rw [LL.out]; omega)]; rfl)⟩⟩
                obtain ⟨cx, hcx⟩ : ∃ cx, cx = L[3]?.getD 0 := ⟨_, rfl⟩
                refine wp_region_held_drew (S := fun w1 => Below w9.heap.size w9 w1 ∧ (∀ c, (convert 30 9 (.slice A8 ([] : List Int).length c)).run Try.prog w1 = .ok (.string (strOfNums [])) w1) ∧ w1.cell? ⟨xl, 3, none⟩ = some (.int .i64 (L[3]?.getD 0))) (by kernel_rfl) ?_ (fun hHeld => ?_)
                · try dsimp only
                  first | exact MK.out _ (Below.drew (Below.refl _ _)) | exact MK.out _ SB1.out | assumption
                refine wpAnyH_take (i := 0) (oi := _) (v := _) rfl (by kernel_rfl) (by kernel_rfl) (by kernel_rfl) (fun _ _ _ h => h) (Or.inl ⟨by rfl, by (intro w hSw; (try dsimp only at hSw); go_simp; try with_reducible rfl)⟩) hHeld ?_
                simp only [Act.put, List.getElem_toArray, List.getElem_cons_zero, List.getElem_cons_succ, List.setIfInBounds_toArray, List.set_cons_zero, List.set_cons_succ]
                refine wpAnyH_take (i := 1) (oi := _) (v := _) rfl (by kernel_rfl) (by kernel_rfl) (by kernel_rfl) (fun _ _ _ h => h) (Or.inl ⟨by rfl, by (intro w hSw; (try dsimp only at hSw); go_simp; try with_reducible rfl)⟩) hHeld ?_
                simp only [Act.put, List.getElem_toArray, List.getElem_cons_zero, List.getElem_cons_succ, List.setIfInBounds_toArray, List.set_cons_zero, List.set_cons_succ]
                refine wpAnyH_take (i := 2) (oi := _) (v := _) rfl (by kernel_rfl) (by kernel_rfl) (by kernel_rfl) (fun _ _ _ h => h) (Or.inl ⟨by rfl, by (intro w hSw; (try dsimp only at hSw); go_simp; try with_reducible rfl)⟩) hHeld ?_
                simp only [Act.put, List.getElem_toArray, List.getElem_cons_zero, List.getElem_cons_succ, List.setIfInBounds_toArray, List.set_cons_zero, List.set_cons_succ]
                refine wpAnyH_take (i := 3) (oi := _) (v := _) rfl (by kernel_rfl) (by kernel_rfl) (by kernel_rfl) (fun _ _ _ h => h) (Or.inl ⟨by rfl, by (intro w hSw; (try dsimp only at hSw); go_simp; try with_reducible rfl)⟩) hHeld ?_
                simp only [Act.put, List.getElem_toArray, List.getElem_cons_zero, List.getElem_cons_succ, List.setIfInBounds_toArray, List.set_cons_zero, List.set_cons_succ]
                refine wpAnyH_take (i := 4) (oi := _) (v := _) rfl (by kernel_rfl) (by kernel_rfl) (by kernel_rfl) (fun _ _ _ h => h) (Or.inl ⟨by rfl, by (intro w hSw; (try dsimp only at hSw); go_simp; try with_reducible rfl)⟩) hHeld ?_
                simp only [Act.put, List.getElem_toArray, List.getElem_cons_zero, List.getElem_cons_succ, List.setIfInBounds_toArray, List.set_cons_zero, List.set_cons_succ]
                refine wpAnyH_take (i := 5) (oi := _) (v := _) rfl (by kernel_rfl) (by kernel_rfl) (by kernel_rfl) (fun _ _ _ h => h) (Or.inl ⟨by rfl, by (intro w hSw; (try dsimp only at hSw); go_simp; try with_reducible rfl)⟩) hHeld ?_
                simp only [Act.put, List.getElem_toArray, List.getElem_cons_zero, List.getElem_cons_succ, List.setIfInBounds_toArray, List.set_cons_zero, List.set_cons_succ]
                refine wpAnyH_take (i := 6) (oi := _) (v := _) rfl (by kernel_rfl) (by kernel_rfl) (by kernel_rfl) (fun _ _ _ h => h) (Or.inl ⟨by rfl, by (intro w hSw; (try dsimp only at hSw); go_simp; try with_reducible rfl)⟩) hHeld ?_
                simp only [Act.put, List.getElem_toArray, List.getElem_cons_zero, List.getElem_cons_succ, List.setIfInBounds_toArray, List.set_cons_zero, List.set_cons_succ]
                refine wpAnyH_take (i := 7) (oi := _) (v := _) rfl (by kernel_rfl) (by kernel_rfl) (by kernel_rfl) (fun _ _ _ h => h) (Or.inl ⟨by rfl, by (intro w hSw; (try dsimp only at hSw); go_simp; try with_reducible rfl)⟩) hHeld ?_
                simp only [Act.put, List.getElem_toArray, List.getElem_cons_zero, List.getElem_cons_succ, List.setIfInBounds_toArray, List.set_cons_zero, List.set_cons_succ]
                refine wpAnyH_take (i := 8) (oi := _) (v := _) rfl (by kernel_rfl) (by kernel_rfl) (by kernel_rfl) (fun _ _ _ h => h) (Or.inl ⟨by rfl, by (intro w hSw; (try dsimp only at hSw); go_simp; try with_reducible rfl)⟩) hHeld ?_
                simp only [Act.put, List.getElem_toArray, List.getElem_cons_zero, List.getElem_cons_succ, List.setIfInBounds_toArray, List.set_cons_zero, List.set_cons_succ]
                refine wpAnyH_take (i := 9) (oi := _) (v := _) rfl (by kernel_rfl) (by kernel_rfl) (by kernel_rfl) (fun _ _ _ h => h) (Or.inl ⟨by rfl, by (intro w hSw; (try dsimp only at hSw); go_simp; try with_reducible rfl)⟩) hHeld ?_
                simp only [Act.put, List.getElem_toArray, List.getElem_cons_zero, List.getElem_cons_succ, List.setIfInBounds_toArray, List.set_cons_zero, List.set_cons_succ]
                refine wpAnyH_take (i := 10) (oi := _) (v := undef) rfl (by kernel_rfl) (by kernel_rfl) (by kernel_rfl) (fun _ _ _ h => h) (Or.inr ⟨by rfl, rfl⟩) hHeld ?_
                simp only [Act.put, List.getElem_toArray, List.getElem_cons_zero, List.getElem_cons_succ, List.setIfInBounds_toArray, List.set_cons_zero, List.set_cons_succ]
                refine wpAnyH_take (i := 11) (oi := _) (v := undef) rfl (by kernel_rfl) (by kernel_rfl) (by kernel_rfl) (fun _ _ _ h => h) (Or.inr ⟨by rfl, rfl⟩) hHeld ?_
                simp only [Act.put, List.getElem_toArray, List.getElem_cons_zero, List.getElem_cons_succ, List.setIfInBounds_toArray, List.set_cons_zero, List.set_cons_succ]
                refine wpAnyH_take (i := 12) (oi := _) (v := undef) rfl (by kernel_rfl) (by kernel_rfl) (by kernel_rfl) (fun _ _ _ h => h) (Or.inr ⟨by rfl, rfl⟩) hHeld ?_
                simp only [Act.put, List.getElem_toArray, List.getElem_cons_zero, List.getElem_cons_succ, List.setIfInBounds_toArray, List.set_cons_zero, List.set_cons_succ]
                refine wpAnyH_take (i := 13) (oi := _) (v := undef) rfl (by kernel_rfl) (by kernel_rfl) (by kernel_rfl) (fun _ _ _ h => h) (Or.inr ⟨by rfl, rfl⟩) hHeld ?_
                simp only [Act.put, List.getElem_toArray, List.getElem_cons_zero, List.getElem_cons_succ, List.setIfInBounds_toArray, List.set_cons_zero, List.set_cons_succ]
                refine wpAnyH_take (i := 14) (oi := _) (v := undef) rfl (by kernel_rfl) (by kernel_rfl) (by kernel_rfl) (fun _ _ _ h => h) (Or.inr ⟨by rfl, rfl⟩) hHeld ?_
                simp only [Act.put, List.getElem_toArray, List.getElem_cons_zero, List.getElem_cons_succ, List.setIfInBounds_toArray, List.set_cons_zero, List.set_cons_succ]
                refine wpAnyH_take (i := 15) (oi := _) (v := _) rfl (by kernel_rfl) (by kernel_rfl) (by kernel_rfl) (fun _ _ _ h => h) (Or.inl ⟨by rfl, by (intro w hSw; (try dsimp only at hSw); go_simp; try with_reducible rfl)⟩) hHeld ?_
                simp only [Act.put, List.getElem_toArray, List.getElem_cons_zero, List.getElem_cons_succ, List.setIfInBounds_toArray, List.set_cons_zero, List.set_cons_succ]
                refine wpAnyH_take (i := 16) (oi := _) (v := _) rfl (by kernel_rfl) (by kernel_rfl) (by kernel_rfl) (fun _ _ _ h => h) (Or.inl ⟨by rfl, by (intro w hSw; (try dsimp only at hSw); go_simp; try with_reducible rfl)⟩) hHeld ?_
                simp only [Act.put, List.getElem_toArray, List.getElem_cons_zero, List.getElem_cons_succ, List.setIfInBounds_toArray, List.set_cons_zero, List.set_cons_succ]
                refine wpAnyH_take (i := 17) (oi := _) (v := _) rfl (by kernel_rfl) (by kernel_rfl) (by kernel_rfl) (fun _ _ _ h => h) (Or.inl ⟨by rfl, by (intro w hSw; (try dsimp only at hSw); go_simp; try with_reducible rfl)⟩) hHeld ?_
                simp only [Act.put, List.getElem_toArray, List.getElem_cons_zero, List.getElem_cons_succ, List.setIfInBounds_toArray, List.set_cons_zero, List.set_cons_succ]
                refine wpAnyH_take (i := 18) (oi := _) (v := _) rfl (by kernel_rfl) (by kernel_rfl) (by kernel_rfl) (fun _ _ _ h => h) (Or.inl ⟨by rfl, by (intro w hSw; (try dsimp only at hSw); go_simp; try with_reducible rfl)⟩) hHeld ?_
                simp only [Act.put, List.getElem_toArray, List.getElem_cons_zero, List.getElem_cons_succ, List.setIfInBounds_toArray, List.set_cons_zero, List.set_cons_succ]
                refine wpAnyH_take (i := 19) (oi := _) (v := _) rfl (by kernel_rfl) (by kernel_rfl) (by kernel_rfl) (fun _ _ _ h => h) (Or.inl ⟨by rfl, by (intro w hSw; (try dsimp only at hSw); go_simp; try with_reducible rfl)⟩) hHeld ?_
                simp only [Act.put, List.getElem_toArray, List.getElem_cons_zero, List.getElem_cons_succ, List.setIfInBounds_toArray, List.set_cons_zero, List.set_cons_succ]
                refine wpAnyH_take (i := 20) (oi := _) (v := _) rfl (by kernel_rfl) (by kernel_rfl) (by kernel_rfl) (fun _ _ _ h => h) (Or.inl ⟨by rfl, by (intro w hSw; (try dsimp only at hSw); go_simp; try with_reducible rfl)⟩) hHeld ?_
                simp only [Act.put, List.getElem_toArray, List.getElem_cons_zero, List.getElem_cons_succ, List.setIfInBounds_toArray, List.set_cons_zero, List.set_cons_succ]
                refine wpAnyH_take (i := 21) (oi := _) (v := undef) rfl (by kernel_rfl) (by kernel_rfl) (by kernel_rfl) (fun _ _ _ h => h) (Or.inr ⟨by rfl, rfl⟩) hHeld ?_
                simp only [Act.put, List.getElem_toArray, List.getElem_cons_zero, List.getElem_cons_succ, List.setIfInBounds_toArray, List.set_cons_zero, List.set_cons_succ]
                refine wpAnyH_take (i := 22) (oi := _) (v := undef) rfl (by kernel_rfl) (by kernel_rfl) (by kernel_rfl) (fun _ _ _ h => h) (Or.inr ⟨by rfl, rfl⟩) hHeld ?_
                simp only [Act.put, List.getElem_toArray, List.getElem_cons_zero, List.getElem_cons_succ, List.setIfInBounds_toArray, List.set_cons_zero, List.set_cons_succ]
                refine wpAnyH_take (i := 23) (oi := _) (v := undef) rfl (by kernel_rfl) (by kernel_rfl) (by kernel_rfl) (fun _ _ _ h => h) (Or.inr ⟨by rfl, rfl⟩) hHeld ?_
                simp only [Act.put, List.getElem_toArray, List.getElem_cons_zero, List.getElem_cons_succ, List.setIfInBounds_toArray, List.set_cons_zero, List.set_cons_succ]
                refine wpAnyH_take (i := 24) (oi := _) (v := undef) rfl (by kernel_rfl) (by kernel_rfl) (by kernel_rfl) (fun _ _ _ h => h) (Or.inr ⟨by rfl, rfl⟩) hHeld ?_
                simp only [Act.put, List.getElem_toArray, List.getElem_cons_zero, List.getElem_cons_succ, List.setIfInBounds_toArray, List.set_cons_zero, List.set_cons_succ]
                refine wpAnyH_take (i := 25) (oi := _) (v := undef) rfl (by kernel_rfl) (by kernel_rfl) (by kernel_rfl) (fun _ _ _ h => h) (Or.inr ⟨by rfl, rfl⟩) hHeld ?_
                simp only [Act.put, List.getElem_toArray, List.getElem_cons_zero, List.getElem_cons_succ, List.setIfInBounds_toArray, List.set_cons_zero, List.set_cons_succ]
                refine wpAnyH_take (i := 26) (oi := _) (v := undef) rfl (by kernel_rfl) (by kernel_rfl) (by kernel_rfl) (fun _ _ _ h => h) (Or.inr ⟨by rfl, rfl⟩) hHeld ?_
                simp only [Act.put, List.getElem_toArray, List.getElem_cons_zero, List.getElem_cons_succ, List.setIfInBounds_toArray, List.set_cons_zero, List.set_cons_succ]
                refine wpAnyH_take (i := 27) (oi := _) (v := undef) rfl (by kernel_rfl) (by kernel_rfl) (by kernel_rfl) (fun _ _ _ h => h) (Or.inr ⟨by rfl, rfl⟩) hHeld ?_
                simp only [Act.put, List.getElem_toArray, List.getElem_cons_zero, List.getElem_cons_succ, List.setIfInBounds_toArray, List.set_cons_zero, List.set_cons_succ]
                refine wpAnyH_take (i := 28) (oi := _) (v := undef) rfl (by kernel_rfl) (by kernel_rfl) (by kernel_rfl) (fun _ _ _ h => h) (Or.inr ⟨by rfl, rfl⟩) hHeld ?_
                simp only [Act.put, List.getElem_toArray, List.getElem_cons_zero, List.getElem_cons_succ, List.setIfInBounds_toArray, List.set_cons_zero, List.set_cons_succ]
                refine wpAnyH_take (i := 29) (oi := _) (v := _) rfl (by kernel_rfl) (by kernel_rfl) (by kernel_rfl) (fun _ _ _ h => h) (Or.inl ⟨by rfl, by (intro w hSw; (try dsimp only at hSw); go_simp; try with_reducible rfl)⟩) hHeld ?_
                simp only [Act.put, List.getElem_toArray, List.getElem_cons_zero, List.getElem_cons_succ, List.setIfInBounds_toArray, List.set_cons_zero, List.set_cons_succ]
                refine wpAnyH_take (i := 30) (oi := _) (v := _) rfl (by kernel_rfl) (by kernel_rfl) (by kernel_rfl) (fun _ _ _ h => h) (Or.inl ⟨by rfl, by (intro w hSw; (try dsimp only at hSw); go_simp; try with_reducible rfl)⟩) hHeld ?_
                simp only [Act.put, List.getElem_toArray, List.getElem_cons_zero, List.getElem_cons_succ, List.setIfInBounds_toArray, List.set_cons_zero, List.set_cons_succ]
                refine wpAnyH_done (by kernel_rfl) ?_ _
                have YD10 := Aside0.mk (DevX.below D9.out hHeld.1)
                have YB10 := Aside0.mk (B9.out.trans (hHeld.1.mono B9.out.size))
                have YH10 := Aside0.mk ((hHeld.1.block xl (blk_lt H9.out)).trans H9.out)
                clear hHeld
                go_wp2_with fail
                exact ⟨⟨3 + 1, hlt, rfl, YD10, YH10, YB10⟩, HM.out⟩
            · rw [if_neg (fun h => h3 h.1), if_neg (fun h => h3 h.1), LJ.out] at RD
              have d3 : ((j : Int) == 3) = false := beq_eq_false_iff_ne.2 (by omega)
              go_wp2_with fail
              refine (devX_read ZD.out (j : Int) _ RD.out).mono ?_
              rintro e w9 ⟨A8, c8, rfl, hv, hD, hB⟩
              have V8 := Aside0.mk hv
              have D8 := Aside0.mk hD
              have B8 := Aside0.mk (ZB.out.trans (hB.mono ZB.out.size))
              have H8 := Aside0.mk ((hB.block xl (blk_lt ZH.out)).trans ZH.out)
              clear hv hD hB
              rw [bytesL_len] at V8 ⊢
              go_wp2_with fail
              have V9 := V8
              have D9 := D8
              have B9 := B8
              have H9 := H8
              have q1 : (0 : Int) ≤ (j : Int) := Int.natCast_nonneg _
              have q2 : (j : Int) < 8 := by omega
              have MK : Aside0 (∀ w1, Below w9.heap.size w9 w1 → Below w9.heap.size w9 w1 ∧ (∀ c, (convert 30 9 (.slice A8 256 c)).run Try.prog w1 = .ok (.string (strOfNums (bytesL (L[j]?.getD 0) 0))) w1) ∧ w1.cell? ⟨xl, j, none⟩ = some (.int .i64 (L[j]?.getD 0))) :=
                ⟨fun w1 hb => ⟨hb, V9.out w1 hb, (blk_cell ((hb.block xl (blk_lt H9.out)).trans H9.out) j).trans (by rw [IntRow.get L j (by rw [LL.out]; omega), List.getElem?_eq_getElem (by rw [LL.out]; omega)]; rfl)⟩⟩
              obtain ⟨cx, hcx⟩ : ∃ cx, cx = L[j]?.getD 0 := ⟨_, rfl⟩
              refine wp_region_held_drew (S := fun w1 => Below w9.heap.size w9 w1 ∧ (∀ c, (convert 30 9 (.slice A8 256 c)).run Try.prog w1 = .ok (.string (strOfNums (bytesL (L[j]?.getD 0) 0))) w1) ∧ w1.cell? ⟨xl, j, none⟩ = some (.int .i64 (L[j]?.getD 0))) (by kernel_rfl) ?_ (fun hHeld => ?_)
              · try dsimp only
                first | exact MK.out _ (Below.drew (Below.refl _ _)) | exact MK.out _ SB1.out | assumption
              refine wpAnyH_take (i := 0) (oi := _) (v := _) rfl (by kernel_rfl) (by kernel_rfl) (by kernel_rfl) (fun _ _ _ h => h) (Or.inl ⟨by rfl, by (intro w hSw; (try dsimp only at hSw); go_simp; try with_reducible rfl)⟩) hHeld ?_
              simp only [Act.put, List.getElem_toArray, List.getElem_cons_zero, List.getElem_cons_succ, List.setIfInBounds_toArray, List.set_cons_zero, List.set_cons_succ]
              refine wpAnyH_take (i := 1) (oi := _) (v := _) rfl (by kernel_rfl) (by kernel_rfl) (by kernel_rfl) (fun _ _ _ h => h) (Or.inl ⟨by rfl, by (intro w hSw; (try dsimp only at hSw); go_simp; try with_reducible rfl)⟩) hHeld ?_
              simp only [Act.put, List.getElem_toArray, List.getElem_cons_zero, List.getElem_cons_succ, List.setIfInBounds_toArray, List.set_cons_zero, List.set_cons_succ]
              refine wpAnyH_take (i := 2) (oi := _) (v := _) rfl (by kernel_rfl) (by kernel_rfl) (by kernel_rfl) (fun _ _ _ h => h) (Or.inl ⟨by rfl, by (intro w hSw; (try dsimp only at hSw); go_simp; try with_reducible rfl)⟩) hHeld ?_
              simp only [Act.put, List.getElem_toArray, List.getElem_cons_zero, List.getElem_cons_succ, List.setIfInBounds_toArray, List.set_cons_zero, List.set_cons_succ]
              refine wpAnyH_take (i := 3) (oi := _) (v := _) rfl (by kernel_rfl) (by kernel_rfl) (by kernel_rfl) (fun _ _ _ h => h) (Or.inl ⟨by rfl, by (intro w hSw; (try dsimp only at hSw); go_simp; try with_reducible rfl)⟩) hHeld ?_
              simp only [Act.put, List.getElem_toArray, List.getElem_cons_zero, List.getElem_cons_succ, List.setIfInBounds_toArray, List.set_cons_zero, List.set_cons_succ]
              refine wpAnyH_take (i := 4) (oi := _) (v := _) rfl (by kernel_rfl) (by kernel_rfl) (by kernel_rfl) (fun _ _ _ h => h) (Or.inl ⟨by rfl, by (intro w hSw; (try dsimp only at hSw); go_simp; try with_reducible rfl)⟩) hHeld ?_
              simp only [Act.put, List.getElem_toArray, List.getElem_cons_zero, List.getElem_cons_succ, List.setIfInBounds_toArray, List.set_cons_zero, List.set_cons_succ]
              refine wpAnyH_take (i := 5) (oi := _) (v := _) rfl (by kernel_rfl) (by kernel_rfl) (by kernel_rfl) (fun _ _ _ h => h) (Or.inl ⟨by rfl, by (intro w hSw; (try dsimp only at hSw); go_simp; try with_reducible rfl)⟩) hHeld ?_
              simp only [Act.put, List.getElem_toArray, List.getElem_cons_zero, List.getElem_cons_succ, List.setIfInBounds_toArray, List.set_cons_zero, List.set_cons_succ]
              refine wpAnyH_take (i := 6) (oi := _) (v := _) rfl (by kernel_rfl) (by kernel_rfl) (by kernel_rfl) (fun _ _ _ h => h) (Or.inl ⟨by rfl, by (intro w hSw; (try dsimp only at hSw); go_simp; try with_reducible rfl)⟩) hHeld ?_
              simp only [Act.put, List.getElem_toArray, List.getElem_cons_zero, List.getElem_cons_succ, List.setIfInBounds_toArray, List.set_cons_zero, List.set_cons_succ]
              refine wpAnyH_take (i := 7) (oi := _) (v := _) rfl (by kernel_rfl) (by kernel_rfl) (by kernel_rfl) (fun _ _ _ h => h) (Or.inl ⟨by rfl, by (intro w hSw; (try dsimp only at hSw); go_simp; try with_reducible rfl)⟩) hHeld ?_
              simp only [Act.put, List.getElem_toArray, List.getElem_cons_zero, List.getElem_cons_succ, List.setIfInBounds_toArray, List.set_cons_zero, List.set_cons_succ]
              refine wpAnyH_take (i := 8) (oi := _) (v := _) rfl (by kernel_rfl) (by kernel_rfl) (by kernel_rfl) (fun _ _ _ h => h) (Or.inl ⟨by rfl, by (intro w hSw; (try dsimp only at hSw); go_simp; try with_reducible rfl)⟩) hHeld ?_
              simp only [Act.put, List.getElem_toArray, List.getElem_cons_zero, List.getElem_cons_succ, List.setIfInBounds_toArray, List.set_cons_zero, List.set_cons_succ]
              refine wpAnyH_ready (rs := [9]) (by kernel_rfl) (by simp) ?_
              refine AllReadyH.cons rfl (fun K hK => ?_) AllReadyH.nil
              go_simp
              go_wp2_with fail
              refine (bytes_calls (L[j]?.getD 0) 0 _).mono ?_
              rintro e w10 ⟨A10, c10, rfl, hb, hB1⟩
              rw [bytesN_zero] at hb ⊢
              obtain ⟨q10, k10, hq10, -, -, -, hC10⟩ := (hb (by decide)).reads
              rw [Value.slice.injEq] at hq10
              obtain ⟨rfl, -, -⟩ := hq10
              rw [bytesL_len] at hC10
              have SB1 : Aside0 (Below w9.heap.size w9 w10) := ⟨Below.trans hHeld.1 (hB1.mono hHeld.1.size)⟩
              have hv10 : ∀ c, (convert 30 9 (.slice (some ⟨q10, 0, none⟩) 256 c)).run Try.prog w10 = .ok (.string (strOfNums (bytesL (L[j]?.getD 0) 0))) w10 := fun c => Kd.C_string (P := Try.prog) Try.underlying30 Try.underlying5 Try.underlying9 hC10
              clear hb hB1 hC10
              go_wp2_with fail
              refine hK.out _ _ ?_ (fun hNew => ?_)
              · try dsimp only
                first | exact MK.out _ (Below.drew (Below.refl _ _)) | exact MK.out _ SB1.out | assumption
              clear hK K hHeld
              have hHeld := hNew
              clear hNew
              refine wpAnyH_ready (rs := [10]) (by kernel_rfl) (by simp) ?_
              refine AllReadyH.cons rfl (fun K hK => ?_) AllReadyH.nil
              go_simp
              refine hK.out _ _ ?_ (fun hNew => ?_)
              · try dsimp only
                first | exact MK.out _ (Below.drew (Below.refl _ _)) | exact MK.out _ SB1.out | assumption
              clear hK K hHeld
              have hHeld := hNew
              clear hNew
              refine wpAnyH_take (i := 11) (oi := _) (v := _) rfl (by kernel_rfl) (by kernel_rfl) (by kernel_rfl) (fun _ _ _ h => h) (Or.inl ⟨by rfl, by (intro w hSw; (try dsimp only at hSw); go_simp; try with_reducible rfl)⟩) hHeld ?_
              simp only [Act.put, List.getElem_toArray, List.getElem_cons_zero, List.getElem_cons_succ, List.setIfInBounds_toArray, List.set_cons_zero, List.set_cons_succ]
              refine wpAnyH_take (i := 12) (oi := _) (v := _) rfl (by kernel_rfl) (by kernel_rfl) (by kernel_rfl) (fun _ _ _ h => h) (Or.inl ⟨by rfl, by (intro w hSw; (try dsimp only at hSw); go_simp; try with_reducible rfl)⟩) hHeld ?_
              simp only [Act.put, List.getElem_toArray, List.getElem_cons_zero, List.getElem_cons_succ, List.setIfInBounds_toArray, List.set_cons_zero, List.set_cons_succ]
              refine wpAnyH_done (by kernel_rfl) ?_ _
              have YD10 := Aside0.mk (D9.out.below SB1.out)
              have YB10 := Aside0.mk (B9.out.trans (SB1.out.mono B9.out.size))
              have YH10 := Aside0.mk ((SB1.out.block xl (blk_lt H9.out)).trans H9.out)
              go_wp2_with fail
              exact ⟨⟨j + 1, hlt, rfl, YD10, YH10, YB10⟩, HM.out⟩
          · have d2 : decide ((j : Int) < 8) = false := decide_eq_false (by omega)
            go_wp2_with fail
            go_ret
            exact ⟨rfl, ZB.out⟩
    · have d1 : decide (i < l0.length) = false := decide_eq_false hlt
      have FL := Aside0.mk (SO.out.1.flush YD.out.ok)
      go_wp2_with fail
      refine (devX_flush YD.out).mono ?_
      rintro e w2 ⟨rfl, hD, hB, hX⟩
      rw [FL.out.2.2]
      have D2 := Aside0.mk hD
      have B2 := Aside0.mk (YB.out.trans (hB.mono BS.out))
      have H2 := Aside0.mk (hX.trans YH.out)
      clear hD hB hX
      go_wp2_with fail
      refine (devX_pending D2.out 0 (by rw [FL.out.2.1]; rfl)).mono ?_
      rintro e w3 ⟨rfl, rfl⟩
      go_wp2_with fail
      refine (bytes_calls 999 0 _).mono ?_
      rintro e w4 ⟨A4, c4, rfl, hb, hB⟩
      rw [bytesN_zero] at hb ⊢
      have X4 := Aside0.mk (hb (by decide))
      have D4 := Aside0.mk (D2.out.below hB)
      have B4 := Aside0.mk (B2.out.trans (hB.mono B2.out.size))
      have H4 := Aside0.mk ((hB.block xl (blk_lt H2.out)).trans H2.out)
      clear hb hB
      obtain ⟨T, hT⟩ : ∃ T, T = S.flush.1 := ⟨_, rfl⟩
      rw [← hT] at D4 FL
      have W4 : Aside0 (T.write 3 (bytesL 999 0) = ({ T with waits := [((3 : Int), bytesL 999 0)] }, 0)) := ⟨by
        rw [FL.out.1.on.write (FSt.isIn_iff.2 ⟨by decide, by rw [FL.out.1.on.n]; decide⟩) (bytesL_len _), FL.out.2.1]
        rfl⟩
      clear hT D2
      go_wp2_with fail
      refine (devX_write D4.out (by rw [FL.out.2.1]; simp) 3 A4 256 c4 (bytesL 999 0) (bytesL_len _).symm (fun _ => X4.out.move (fun _ _ _ _ => rfl) (fun _ _ _ => trivial))).mono ?_
      rintro e w5 ⟨rfl, hD, hB, hX⟩
      rw [W4.out] at hD ⊢
      have D5 := Aside0.mk hD
      have B5 := Aside0.mk (B4.out.trans (hB.mono BS.out))
      have H5 := Aside0.mk (hX.trans H4.out)
      clear hD hB hX
      obtain ⟨A6, n6, c6, w6, hap, hI, hB⟩ := copy_ints w5 A1 c1 l1 (Kd.C_below R1.out B5.out) Y1.out
      have HAP := Aside0.mk hap
      have I6 := Aside0.mk hI
      have D6 := Aside0.mk (D5.out.below hB)
      have B6 := Aside0.mk (B5.out.trans (hB.mono B5.out.size))
      have H6 := Aside0.mk ((hB.block xl (blk_lt H5.out)).trans H5.out)
      clear hap hI hB
      go_wp2_with (first | (at_builtin; refine wpList_append_ran rfl (.tmp 77) (.tmp 78) 22 rfl _ _ _ rfl rfl HAP.out ?_) | fail)
      refine (devX_crash D6.out _ l1 I6.out).mono ?_
      rintro e w7 ⟨rfl, hD, hB, hX⟩
      have D7 := Aside0.mk hD
      have B7 := Aside0.mk (B6.out.trans (hB.mono BS.out))
      have H7 := Aside0.mk (hX.trans H6.out)
      have CR := Aside0.mk (fun j hj => lasts_crash T FL.out.1.on FL.out.2.1 (bytesL 999 0) l1 j hj)
      clear hD hB hX
      go_wp2_with fail
      go_loopw [11] (fun v w' => ∃ j : Nat, j ≤ 8 ∧ v = .int .i64 (j : Int) ∧ Aside0 (DevX w' wa.heap.size xl g (({ T with waits := [((3 : Int), bytesL 999 0)] } : FSt).crash l1)) ∧ Aside0 (w'.heap[xl]? = some (.cells (IntRow L) 3 (0, 0))) ∧ Aside0 (Below w.heap.size w w')) (fun v _ => ((8 : Int) - intOf v).toNat)
      case atStart => exact ⟨0, Nat.zero_le _, rfl, D7, H7, B7⟩
      case round =>
        obtain ⟨j, hj, rfl, ZD, ZH, ZB⟩ := hrel
        clear D7 H7 B7 YD YB YH H6 B6 D6 I6 HAP H5 B5 D5 H4 B4 D4 H2 B2
        by_cases hlt : j < 8
        · have d2 : decide ((j : Int) < 8) = true := decide_eq_true (by omega)
          have HM : Aside0 (((8 : Int) - intOf (.int .i64 ((j + 1 : Nat) : Int))).toNat < ((8 : Int) - intOf (.int .i64 (j : Int))).toNat) := ⟨by simp [intOf]; omega⟩
          have HW := Aside0.mk (wrap_suc j (by omega))
          have RD := Aside0.mk (CR.out j hlt)
          have LJ := Aside0.mk (FL.out.1.r j hlt)
          have LL := Aside0.mk FL.out.1.l
          by_cases h3 : j = 3
          · subst h3
            have PC := pickAt_three l1 0
            rcases PC with hp | hp | hp
            · rw [hp, if_neg (by rintro ⟨_, h⟩; exact absurd h (by decide)), if_neg (by rintro ⟨_, h⟩; exact absurd h (by decide)), LJ.out] at RD
              have HP := Aside0.mk hp
              clear hp
              go_wp2_with fail
              refine (devX_read ZD.out 3 _ RD.out).mono ?_
              rintro e w8 ⟨A8, c8, rfl, hv, hD, hB⟩
              have V8 := Aside0.mk hv
              have D8 := Aside0.mk hD
              have B8 := Aside0.mk (ZB.out.trans (hB.mono ZB.out.size))
              have H8 := Aside0.mk ((hB.block xl (blk_lt ZH.out)).trans ZH.out)
              clear hv hD hB
              rw [bytesL_len] at V8 ⊢
              go_wp2_with fail
              refine (cisternref01_Pick.calls A1 c1 l1 0 (pickAt l1 0) w8 (Kd.C_below R1.out B8.out) C1.out (pick_val l1 0)).mono ?_
              rintro e w9 ⟨rfl, hd⟩
              have V9 : Aside0 (∀ w', Below w9.heap.size w9 w' → ∀ c, (convert 30 9 (.slice A8 256 c)).run Try.prog w' = .ok (.string (strOfNums (bytesL (L[3]?.getD 0) 0))) w') := ⟨fun w' hb c => V8.out w' (hd.below.trans (hb.mono hd.below.size)) c⟩
              have D9 := Aside0.mk (D8.out.below hd.below)
              have B9 := Aside0.mk (B8.out.trans (hd.below.mono B8.out.size))
              have H9 := Aside0.mk ((hd.below.block xl (blk_lt H8.out)).trans H8.out)
              clear hd V8
              rw [HP.out]
              go_wp2_with fail
              have MK : Aside0 (∀ w1, Below w9.heap.size w9 w1 → Below w9.heap.size w9 w1 ∧ (∀ c, (convert 30 9 (.slice A8 256 c)).run Try.prog w1 = .ok (.string (strOfNums (bytesL (L[3]?.getD 0) 0))) w1) ∧ w1.cell? ⟨xl, 3, none⟩ = some (.int .i64 (L[3]?.getD 0))) :=
                ⟨fun w1 hb => ⟨hb, V9.out w1 hb, (blk_cell ((hb.block xl (blk_lt H9.out)).trans H9.out) 3).trans (by rw [IntRow.get L 3 (by rw [LL.out]; omega), List.getElem?_eq_getElem (by rw [LL.out]; omega)]; rfl)⟩⟩
              obtain ⟨cx, hcx⟩ : ∃ cx, cx = L[3]?.getD 0 := ⟨_, rfl⟩
              refine wp_region_held_drew (S := fun w1 => Below w9.heap.size w9 w1 ∧ (∀ c, (convert 30 9 (.slice A8 256 c)).run Try.prog w1 = .ok (.string (strOfNums (bytesL (L[3]?.getD 0) 0))) w1) ∧ w1.cell? ⟨xl, 3, none⟩ = some (.int .i64 (L[3]?.getD 0))) (by kernel_rfl) ?_ (fun hHeld => ?_)
              · try dsimp only
                first | exact MK.out _ (Below.drew (Below.refl _ _)) | exact MK.out _ SB1.out | assumption
              refine wpAnyH_take (i := 0) (oi := _) (v := _) rfl (by kernel_rfl) (by kernel_rfl) (by kernel_rfl) (fun _ _ _ h => h) (Or.inl ⟨by rfl, by (intro w hSw; (try dsimp only at hSw); go_simp; try with_reducible rfl)⟩) hHeld ?_
              simp only [Act.put, List.getElem_toArray, List.getElem_cons_zero, List.getElem_cons_succ, List.setIfInBounds_toArray, List.set_cons_zero, List.set_cons_succ]
              refine wpAnyH_take (i := 1) (oi := _) (v := _) rfl (by kernel_rfl) (by kernel_rfl) (by kernel_rfl) (fun _ _ _ h => h) (Or.inl ⟨by rfl, by (intro w hSw; (try dsimp only at hSw); go_simp; try with_reducible rfl)⟩) hHeld ?_
              simp only [Act.put, List.getElem_toArray, List.getElem_cons_zero, List.getElem_cons_succ, List.setIfInBounds_toArray, List.set_cons_zero, List.set_cons_succ]
              refine wpAnyH_take (i := 2) (oi := _) (v := _) rfl (by kernel_rfl) (by kernel_rfl) (by kernel_rfl) (fun _ _ _ h => h) (Or.inl ⟨by rfl, by (intro w hSw; (try dsimp only at hSw); go_simp; try with_reducible rfl)⟩) hHeld ?_
              simp only [Act.put, List.getElem_toArray, List.getElem_cons_zero, List.getElem_cons_succ, List.setIfInBounds_toArray, List.set_cons_zero, List.set_cons_succ]
              refine wpAnyH_take (i := 3) (oi := _) (v := undef) rfl (by kernel_rfl) (by kernel_rfl) (by kernel_rfl) (fun _ _ _ h => h) (Or.inr ⟨by rfl, rfl⟩) hHeld ?_
              simp only [Act.put, List.getElem_toArray, List.getElem_cons_zero, List.getElem_cons_succ, List.setIfInBounds_toArray, List.set_cons_zero, List.set_cons_succ]
              refine wpAnyH_take (i := 4) (oi := _) (v := undef) rfl (by kernel_rfl) (by kernel_rfl) (by kernel_rfl) (fun _ _ _ h => h) (Or.inr ⟨by rfl, rfl⟩) hHeld ?_
              simp only [Act.put, List.getElem_toArray, List.getElem_cons_zero, List.getElem_cons_succ, List.setIfInBounds_toArray, List.set_cons_zero, List.set_cons_succ]
              refine wpAnyH_take (i := 5) (oi := _) (v := _) rfl (by kernel_rfl) (by kernel_rfl) (by kernel_rfl) (fun _ _ _ h => h) (Or.inl ⟨by rfl, by (intro w hSw; (try dsimp only at hSw); go_simp; try with_reducible rfl)⟩) hHeld ?_
              simp only [Act.put, List.getElem_toArray, List.getElem_cons_zero, List.getElem_cons_succ, List.setIfInBounds_toArray, List.set_cons_zero, List.set_cons_succ]
              refine wpAnyH_take (i := 6) (oi := _) (v := _) rfl (by kernel_rfl) (by kernel_rfl) (by kernel_rfl) (fun _ _ _ h => h) (Or.inl ⟨by rfl, by (intro w hSw; (try dsimp only at hSw); go_simp; try with_reducible rfl)⟩) hHeld ?_
              simp only [Act.put, List.getElem_toArray, List.getElem_cons_zero, List.getElem_cons_succ, List.setIfInBounds_toArray, List.set_cons_zero, List.set_cons_succ]
              refine wpAnyH_take (i := 7) (oi := _) (v := _) rfl (by kernel_rfl) (by kernel_rfl) (by kernel_rfl) (fun _ _ _ h => h) (Or.inl ⟨by rfl, by (intro w hSw; (try dsimp only at hSw); go_simp; try with_reducible rfl)⟩) hHeld ?_
              simp only [Act.put, List.getElem_toArray, List.getElem_cons_zero, List.getElem_cons_succ, List.setIfInBounds_toArray, List.set_cons_zero, List.set_cons_succ]
              refine wpAnyH_take (i := 8) (oi := _) (v := _) rfl (by kernel_rfl) (by kernel_rfl) (by kernel_rfl) (fun _ _ _ h => h) (Or.inl ⟨by rfl, by (intro w hSw; (try dsimp only at hSw); go_simp; try with_reducible rfl)⟩) hHeld ?_
              simp only [Act.put, List.getElem_toArray, List.getElem_cons_zero, List.getElem_cons_succ, List.setIfInBounds_toArray, List.set_cons_zero, List.set_cons_succ]
              refine wpAnyH_take (i := 9) (oi := _) (v := _) rfl (by kernel_rfl) (by kernel_rfl) (by kernel_rfl) (fun _ _ _ h => h) (Or.inl ⟨by rfl, by (intro w hSw; (try dsimp only at hSw); go_simp; try with_reducible rfl)⟩) hHeld ?_
              simp only [Act.put, List.getElem_toArray, List.getElem_cons_zero, List.getElem_cons_succ, List.setIfInBounds_toArray, List.set_cons_zero, List.set_cons_succ]
              refine wpAnyH_take (i := 10) (oi := _) (v := undef) rfl (by kernel_rfl) (by kernel_rfl) (by kernel_rfl) (fun _ _ _ h => h) (Or.inr ⟨by rfl, rfl⟩) hHeld ?_
              simp only [Act.put, List.getElem_toArray, List.getElem_cons_zero, List.getElem_cons_succ, List.setIfInBounds_toArray, List.set_cons_zero, List.set_cons_succ]
              refine wpAnyH_take (i := 11) (oi := _) (v := undef) rfl (by kernel_rfl) (by kernel_rfl) (by kernel_rfl) (fun _ _ _ h => h) (Or.inr ⟨by rfl, rfl⟩) hHeld ?_
              simp only [Act.put, List.getElem_toArray, List.getElem_cons_zero, List.getElem_cons_succ, List.setIfInBounds_toArray, List.set_cons_zero, List.set_cons_succ]
              refine wpAnyH_take (i := 12) (oi := _) (v := undef) rfl (by kernel_rfl) (by kernel_rfl) (by kernel_rfl) (fun _ _ _ h => h) (Or.inr ⟨by rfl, rfl⟩) hHeld ?_
              simp only [Act.put, List.getElem_toArray, List.getElem_cons_zero, List.getElem_cons_succ, List.setIfInBounds_toArray, List.set_cons_zero, List.set_cons_succ]
              refine wpAnyH_take (i := 13) (oi := _) (v := undef) rfl (by kernel_rfl) (by kernel_rfl) (by kernel_rfl) (fun _ _ _ h => h) (Or.inr ⟨by rfl, rfl⟩) hHeld ?_
              simp only [Act.put, List.getElem_toArray, List.getElem_cons_zero, List.getElem_cons_succ, List.setIfInBounds_toArray, List.set_cons_zero, List.set_cons_succ]
              refine wpAnyH_take (i := 14) (oi := _) (v := undef) rfl (by kernel_rfl) (by kernel_rfl) (by kernel_rfl) (fun _ _ _ h => h) (Or.inr ⟨by rfl, rfl⟩) hHeld ?_
              simp only [Act.put, List.getElem_toArray, List.getElem_cons_zero, List.getElem_cons_succ, List.setIfInBounds_toArray, List.set_cons_zero, List.set_cons_succ]
              refine wpAnyH_take (i := 15) (oi := _) (v := _) rfl (by kernel_rfl) (by kernel_rfl) (by kernel_rfl) (fun _ _ _ h => h) (Or.inl ⟨by rfl, by (intro w hSw; (try dsimp only at hSw); go_simp; try with_reducible rfl)⟩) hHeld ?_
              simp only [Act.put, List.getElem_toArray, List.getElem_cons_zero, List.getElem_cons_succ, List.setIfInBounds_toArray, List.set_cons_zero, List.set_cons_succ]
              refine wpAnyH_take (i := 16) (oi := _) (v := _) rfl (by kernel_rfl) (by kernel_rfl) (by kernel_rfl) (fun _ _ _ h => h) (Or.inl ⟨by rfl, by (intro w hSw; (try dsimp only at hSw); go_simp; try with_reducible rfl)⟩) hHeld ?_
              simp only [Act.put, List.getElem_toArray, List.getElem_cons_zero, List.getElem_cons_succ, List.setIfInBounds_toArray, List.set_cons_zero, List.set_cons_succ]
              refine wpAnyH_take (i := 17) (oi := _) (v := _) rfl (by kernel_rfl) (by kernel_rfl) (by kernel_rfl) (fun _ _ _ h => h) (Or.inl ⟨by rfl, by (intro w hSw; (try dsimp only at hSw); go_simp; try with_reducible rfl)⟩) hHeld ?_
              simp only [Act.put, List.getElem_toArray, List.getElem_cons_zero, List.getElem_cons_succ, List.setIfInBounds_toArray, List.set_cons_zero, List.set_cons_succ]
              refine wpAnyH_take (i := 18) (oi := _) (v := _) rfl (by kernel_rfl) (by kernel_rfl) (by kernel_rfl) (fun _ _ _ h => h) (Or.inl ⟨by rfl, by (intro w hSw; (try dsimp only at hSw); go_simp; try with_reducible rfl)⟩) hHeld ?_
              simp only [Act.put, List.getElem_toArray, List.getElem_cons_zero, List.getElem_cons_succ, List.setIfInBounds_toArray, List.set_cons_zero, List.set_cons_succ]
              refine wpAnyH_take (i := 19) (oi := _) (v := _) rfl (by kernel_rfl) (by kernel_rfl) (by kernel_rfl) (fun _ _ _ h => h) (Or.inl ⟨by rfl, by (intro w hSw; (try dsimp only at hSw); go_simp; try with_reducible rfl)⟩) hHeld ?_
              simp only [Act.put, List.getElem_toArray, List.getElem_cons_zero, List.getElem_cons_succ, List.setIfInBounds_toArray, List.set_cons_zero, List.set_cons_succ]
              refine wpAnyH_take (i := 20) (oi := _) (v := _) rfl (by kernel_rfl) (by kernel_rfl) (by kernel_rfl) (fun _ _ _ h => h) (Or.inl ⟨by rfl, by (intro w hSw; (try dsimp only at hSw); go_simp; try with_reducible rfl)⟩) hHeld ?_
              simp only [Act.put, List.getElem_toArray, List.getElem_cons_zero, List.getElem_cons_succ, List.setIfInBounds_toArray, List.set_cons_zero, List.set_cons_succ]
              refine wpAnyH_take (i := 21) (oi := _) (v := _) rfl (by kernel_rfl) (by kernel_rfl) (by kernel_rfl) (fun _ _ _ h => h) (Or.inl ⟨by rfl, by (intro w hSw; (try dsimp only at hSw); go_simp; try with_reducible rfl)⟩) hHeld ?_
              simp only [Act.put, List.getElem_toArray, List.getElem_cons_zero, List.getElem_cons_succ, List.setIfInBounds_toArray, List.set_cons_zero, List.set_cons_succ]
              refine wpAnyH_take (i := 22) (oi := _) (v := _) rfl (by kernel_rfl) (by kernel_rfl) (by kernel_rfl) (fun _ _ _ h => h) (Or.inl ⟨by rfl, by (intro w hSw; (try dsimp only at hSw); go_simp; try with_reducible rfl)⟩) hHeld ?_
              simp only [Act.put, List.getElem_toArray, List.getElem_cons_zero, List.getElem_cons_succ, List.setIfInBounds_toArray, List.set_cons_zero, List.set_cons_succ]
              refine wpAnyH_take (i := 23) (oi := _) (v := _) rfl (by kernel_rfl) (by kernel_rfl) (by kernel_rfl) (fun _ _ _ h => h) (Or.inl ⟨by rfl, by (intro w hSw; (try dsimp only at hSw); go_simp; try with_reducible rfl)⟩) hHeld ?_
              simp only [Act.put, List.getElem_toArray, List.getElem_cons_zero, List.getElem_cons_succ, List.setIfInBounds_toArray, List.set_cons_zero, List.set_cons_succ]
              refine wpAnyH_take (i := 24) (oi := _) (v := _) rfl (by kernel_rfl) (by kernel_rfl) (by kernel_rfl) (fun _ _ _ h => h) (Or.inl ⟨by rfl, by (intro w hSw; (try dsimp only at hSw); go_simp; try with_reducible rfl)⟩) hHeld ?_
              simp only [Act.put, List.getElem_toArray, List.getElem_cons_zero, List.getElem_cons_succ, List.setIfInBounds_toArray, List.set_cons_zero, List.set_cons_succ]
              refine wpAnyH_take (i := 25) (oi := _) (v := _) rfl (by kernel_rfl) (by kernel_rfl) (by kernel_rfl) (fun _ _ _ h => h) (Or.inl ⟨by rfl, by (intro w hSw; (try dsimp only at hSw); go_simp; try with_reducible rfl)⟩) hHeld ?_
              simp only [Act.put, List.getElem_toArray, List.getElem_cons_zero, List.getElem_cons_succ, List.setIfInBounds_toArray, List.set_cons_zero, List.set_cons_succ]
              refine wpAnyH_ready (rs := [26]) (by kernel_rfl) (by simp) ?_
              refine AllReadyH.cons rfl (fun K hK => ?_) AllReadyH.nil
              go_simp
              go_wp2_with fail
              refine (bytes_calls (L[3]?.getD 0) 0 _).mono ?_
              rintro e w10 ⟨A10, c10, rfl, hb, hB1⟩
              rw [bytesN_zero] at hb ⊢
              obtain ⟨q10, k10, hq10, -, -, -, hC10⟩ := (hb (by decide)).reads
              rw [Value.slice.injEq] at hq10
              obtain ⟨rfl, -, -⟩ := hq10
              rw [bytesL_len] at hC10
              have SB1 : Aside0 (Below w9.heap.size w9 w10) := ⟨Below.trans hHeld.1 (hB1.mono hHeld.1.size)⟩
              have hv10 : ∀ c, (convert 30 9 (.slice (some ⟨q10, 0, none⟩) 256 c)).run Try.prog w10 = .ok (.string (strOfNums (bytesL (L[3]?.getD 0) 0))) w10 := fun c => Kd.C_string (P := Try.prog) Try.underlying30 Try.underlying5 Try.underlying9 hC10
              clear hb hB1 hC10
              go_wp2_with fail
              refine hK.out _ _ ?_ (fun hNew => ?_)
              · try dsimp only
                first | exact MK.out _ (Below.drew (Below.refl _ _)) | exact MK.out _ SB1.out | assumption
              clear hK K hHeld
              have hHeld := hNew
              clear hNew
              refine wpAnyH_ready (rs := [27]) (by kernel_rfl) (by simp) ?_
              refine AllReadyH.cons rfl (fun K hK => ?_) AllReadyH.nil
              go_simp
              refine hK.out _ _ ?_ (fun hNew => ?_)
              · try dsimp only
                first | exact MK.out _ (Below.drew (Below.refl _ _)) | exact MK.out _ SB1.out | assumption
              clear hK K hHeld
              have hHeld := hNew
              clear hNew
              refine wpAnyH_take (i := 28) (oi := _) (v := _) rfl (by kernel_rfl) (by kernel_rfl) (by kernel_rfl) (fun _ _ _ h => h) (Or.inl ⟨by rfl, by (intro w hSw; (try dsimp only at hSw); go_simp; try with_reducible rfl)⟩) hHeld ?_
              simp only [Act.put, List.getElem_toArray, List.getElem_cons_zero, List.getElem_cons_succ, List.setIfInBounds_toArray, List.set_cons_zero, List.set_cons_succ]
              refine wpAnyH_take (i := 29) (oi := _) (v := _) rfl (by kernel_rfl) (by kernel_rfl) (by kernel_rfl) (fun _ _ _ h => h) (Or.inl ⟨by rfl, by (intro w hSw; (try dsimp only at hSw); go_simp; try with_reducible rfl)⟩) hHeld ?_
              simp only [Act.put, List.getElem_toArray, List.getElem_cons_zero, List.getElem_cons_succ, List.setIfInBounds_toArray, List.set_cons_zero, List.set_cons_succ]
              refine wpAnyH_take (i := 30) (oi := _) (v := _) rfl (by kernel_rfl) (by kernel_rfl) (by kernel_rfl) (fun _ _ _ h => h) (Or.inl ⟨by rfl, by (intro w hSw; (try dsimp only at hSw); go_simp; try with_reducible rfl)⟩) hHeld ?_
              simp only [Act.put, List.getElem_toArray, List.getElem_cons_zero, List.getElem_cons_succ, List.setIfInBounds_toArray, List.set_cons_zero, List.set_cons_succ]
              refine wpAnyH_done (by kernel_rfl) ?_ _
              have YD10 := Aside0.mk (D9.out.below SB1.out)
              have YB10 := Aside0.mk (B9.out.trans (SB1.out.mono B9.out.size))
              have YH10 := Aside0.mk ((SB1.out.block xl (blk_lt H9.out)).trans H9.out)
              go_wp2_with fail
              exact ⟨⟨3 + 1, hlt, rfl, YD10, YH10, YB10⟩, HM.out⟩
            · rw [hp, if_pos ⟨rfl, rfl⟩] at RD
              have HP := Aside0.mk hp
              clear hp
              go_wp2_with fail
              refine (devX_read ZD.out 3 _ RD.out).mono ?_
              rintro e w8 ⟨A8, c8, rfl, hv, hD, hB⟩
              have V8 := Aside0.mk hv
              have D8 := Aside0.mk hD
              have B8 := Aside0.mk (ZB.out.trans (hB.mono ZB.out.size))
              have H8 := Aside0.mk ((hB.block xl (blk_lt ZH.out)).trans ZH.out)
              clear hv hD hB
              rw [bytesL_len] at V8 ⊢
              go_wp2_with fail
              refine (cisternref01_Pick.calls A1 c1 l1 0 (pickAt l1 0) w8 (Kd.C_below R1.out B8.out) C1.out (pick_val l1 0)).mono ?_
              rintro e w9 ⟨rfl, hd⟩
              have V9 : Aside0 (∀ w', Below w9.heap.size w9 w' → ∀ c, (convert 30 9 (.slice A8 256 c)).run Try.prog w' = .ok (.string (strOfNums (bytesL 999 0))) w') := ⟨fun w' hb c => V8.out w' (hd.below.trans (hb.mono hd.below.size)) c⟩
              have D9 := Aside0.mk (D8.out.below hd.below)
              have B9 := Aside0.mk (B8.out.trans (hd.below.mono B8.out.size))
              have H9 := Aside0.mk ((hd.below.block xl (blk_lt H8.out)).trans H8.out)
              clear hd V8
              rw [HP.out]
              go_wp2_with fail
              have MK : Aside0 (∀ w1, Below w9.heap.size w9 w1 → Below w9.heap.size w9 w1 ∧ (∀ c, (convert 30 9 (.slice A8 256 c)).run Try.prog w1 = .ok (.string (strOfNums (bytesL 999 0))) w1) ∧ w1.cell? ⟨xl, 3, none⟩ = some (.int .i64 (L[3]?.getD 0))) :=
                ⟨fun w1 hb => ⟨hb, V9.out w1 hb, (blk_cell ((hb.block xl (blk_lt H9.out)).trans H9.out) 3).trans (by rw [IntRow.get L 3 (by rw [LL.out]; omega), List.getElem?_eq_getElem (by rw [LL.out]; omega)]; rfl)⟩⟩
              obtain ⟨cx, hcx⟩ : ∃ cx, cx = L[3]?.getD 0 := ⟨_, rfl⟩
              refine wp_region_held_drew (S := fun w1 => Below w9.heap.size w9 w1 ∧ (∀ c, (convert 30 9 (.slice A8 256 c)).run Try.prog w1 = .ok (.string (strOfNums (bytesL 999 0))) w1) ∧ w1.cell? ⟨xl, 3, none⟩ = some (.int .i64 (L[3]?.getD 0))) (by kernel_rfl) ?_ (fun hHeld => ?_)
              · try dsimp only
                first | exact MK.out _ (Below.drew (Below.refl _ _)) | exact MK.out _ SB1.out | assumption
              refine wpAnyH_take (i := 0) (oi := _) (v := _) rfl (by kernel_rfl) (by kernel_rfl) (by kernel_rfl) (fun _ _ _ h => h) (Or.inl ⟨by rfl, by (intro w hSw; (try dsimp only at hSw); go_simp; try with_reducible rfl)⟩) hHeld ?_
              simp only [Act.put, List.getElem_toArray, List.getElem_cons_zero, List.getElem_cons_succ, List.setIfInBounds_toArray, List.set_cons_zero, List.set_cons_succ]
              refine wpAnyH_take (i := 1) (oi := _) (v := _) rfl (by kernel_rfl) (by kernel_rfl) (by kernel_rfl) (fun _ _ _ h => h) (Or.inl ⟨by rfl, by (intro w hSw; (try dsimp only at hSw); go_simp; try with_reducible rfl)⟩) hHeld ?_
              simp only [Act.put, List.getElem_toArray, List.getElem_cons_zero, List.getElem_cons_succ, List.setIfInBounds_toArray, List.set_cons_zero, List.set_cons_succ]
              refine wpAnyH_take (i := 2) (oi := _) (v := _) rfl (by kernel_rfl) (by kernel_rfl) (by kernel_rfl) (fun _ _ _ h => h) (Or.inl ⟨by rfl, by (intro w hSw; (try dsimp only at hSw); go_simp; try with_reducible rfl)⟩) hHeld ?_
              simp only [Act.put, List.getElem_toArray, List.getElem_cons_zero, List.getElem_cons_succ, List.setIfInBounds_toArray, List.set_cons_zero, List.set_cons_succ]
              refine wpAnyH_take (i := 3) (oi := _) (v := undef) rfl (by kernel_rfl) (by kernel_rfl) (by kernel_rfl) (fun _ _ _ h => h) (Or.inr ⟨by rfl, rfl⟩) hHeld ?_
              simp only [Act.put, List.getElem_toArray, List.getElem_cons_zero, List.getElem_cons_succ, List.setIfInBounds_toArray, List.set_cons_zero, List.set_cons_succ]
              refine wpAnyH_take (i := 4) (oi := _) (v := undef) rfl (by kernel_rfl) (by kernel_rfl) (by kernel_rfl) (fun _ _ _ h => h) (Or.inr ⟨by rfl, rfl⟩) hHeld ?_
              simp only [Act.put, List.getElem_toArray, List.getElem_cons_zero, List.getElem_cons_succ, List.setIfInBounds_toArray, List.set_cons_zero, List.set_cons_succ]
              refine wpAnyH_take (i := 5) (oi := _) (v := _) rfl (by kernel_rfl) (by kernel_rfl) (by kernel_rfl) (fun _ _ _ h => h) (Or.inl ⟨by rfl, by (intro w hSw; (try dsimp only at hSw); go_simp; try with_reducible rfl)⟩) hHeld ?_
              simp only [Act.put, List.getElem_toArray, List.getElem_cons_zero, List.getElem_cons_succ, List.setIfInBounds_toArray, List.set_cons_zero, List.set_cons_succ]
              refine wpAnyH_take (i := 6) (oi := _) (v := _) rfl (by kernel_rfl) (by kernel_rfl) (by kernel_rfl) (fun _ _ _ h => h) (Or.inl ⟨by rfl, by (intro w hSw; (try dsimp only at hSw); go_simp; try with_reducible rfl)⟩) hHeld ?_
              simp only [Act.put, List.getElem_toArray, List.getElem_cons_zero, List.getElem_cons_succ, List.setIfInBounds_toArray, List.set_cons_zero, List.set_cons_succ]
              refine wpAnyH_take (i := 7) (oi := _) (v := _) rfl (by kernel_rfl) (by kernel_rfl) (by kernel_rfl) (fun _ _ _ h => h) (Or.inl ⟨by rfl, by (intro w hSw; (try dsimp only at hSw); go_simp; try with_reducible rfl)⟩) hHeld ?_
              simp only [Act.put, List.getElem_toArray, List.getElem_cons_zero, List.getElem_cons_succ, List.setIfInBounds_toArray, List.set_cons_zero, List.set_cons_succ]
              refine wpAnyH_take (i := 8) (oi := _) (v := _) rfl (by kernel_rfl) (by kernel_rfl) (by kernel_rfl) (fun _ _ _ h => h) (Or.inl ⟨by rfl, by (intro w hSw; (try dsimp only at hSw); go_simp; try with_reducible rfl)⟩) hHeld ?_
              simp only [Act.put, List.getElem_toArray, List.getElem_cons_zero, List.getElem_cons_succ, List.setIfInBounds_toArray, List.set_cons_zero, List.set_cons_succ]
              refine wpAnyH_take (i := 9) (oi := _) (v := _) rfl (by kernel_rfl) (by kernel_rfl) (by kernel_rfl) (fun _ _ _ h => h) (Or.inl ⟨by rfl, by (intro w hSw; (try dsimp only at hSw); go_simp; try with_reducible rfl)⟩) hHeld ?_
              simp only [Act.put, List.getElem_toArray, List.getElem_cons_zero, List.getElem_cons_succ, List.setIfInBounds_toArray, List.set_cons_zero, List.set_cons_succ]
              refine wpAnyH_take (i := 10) (oi := _) (v := _) rfl (by kernel_rfl) (by kernel_rfl) (by kernel_rfl) (fun _ _ _ h => h) (Or.inl ⟨by rfl, by (intro w hSw; (try dsimp only at hSw); go_simp; try with_reducible rfl)⟩) hHeld ?_
              simp only [Act.put, List.getElem_toArray, List.getElem_cons_zero, List.getElem_cons_succ, List.setIfInBounds_toArray, List.set_cons_zero, List.set_cons_succ]
              refine wpAnyH_take (i := 11) (oi := _) (v := _) rfl (by kernel_rfl) (by kernel_rfl) (by kernel_rfl) (fun _ _ _ h => h) (Or.inl ⟨by rfl, by (intro w hSw; (try dsimp only at hSw); go_simp; try with_reducible rfl)⟩) hHeld ?_
              simp only [Act.put, List.getElem_toArray, List.getElem_cons_zero, List.getElem_cons_succ, List.setIfInBounds_toArray, List.set_cons_zero, List.set_cons_succ]
              refine wpAnyH_ready (rs := [12]) (by kernel_rfl) (by simp) ?_
              refine AllReadyH.cons rfl (fun K hK => ?_) AllReadyH.nil
              go_simp
              go_wp2_with fail
              refine (bytes_calls 999 0 _).mono ?_
              rintro e w10 ⟨A10, c10, rfl, hb, hB1⟩
              rw [bytesN_zero] at hb ⊢
              obtain ⟨q10, k10, hq10, -, -, -, hC10⟩ := (hb (by decide)).reads
              rw [Value.slice.injEq] at hq10
              obtain ⟨rfl, -, -⟩ := hq10
              rw [bytesL_len] at hC10
              have SB1 : Aside0 (Below w9.heap.size w9 w10) := ⟨Below.trans hHeld.1 (hB1.mono hHeld.1.size)⟩
              have hv10 : ∀ c, (convert 30 9 (.slice (some ⟨q10, 0, none⟩) 256 c)).run Try.prog w10 = .ok (.string (strOfNums (bytesL 999 0))) w10 := fun c => Kd.C_string (P := Try.prog) Try.underlying30 Try.underlying5 Try.underlying9 hC10
              clear hb hB1 hC10
              go_wp2_with fail
              refine hK.out _ _ ?_ (fun hNew => ?_)
              · try dsimp only
                first | exact MK.out _ (Below.drew (Below.refl _ _)) | exact MK.out _ SB1.out | assumption
              clear hK K hHeld
              have hHeld := hNew
              clear hNew
              refine wpAnyH_ready (rs := [13]) (by kernel_rfl) (by simp) ?_
              refine AllReadyH.cons rfl (fun K hK => ?_) AllReadyH.nil
              go_simp
              refine hK.out _ _ ?_ (fun hNew => ?_)
              · try dsimp only
                first | exact MK.out _ (Below.drew (Below.refl _ _)) | exact MK.out _ SB1.out | assumption
              clear hK K hHeld
              have hHeld := hNew
              clear hNew
              refine wpAnyH_take (i := 14) (oi := _) (v := _) rfl (by kernel_rfl) (by kernel_rfl) (by kernel_rfl) (fun _ _ _ h => h) (Or.inl ⟨by rfl, by (intro w hSw; (try dsimp only at hSw); go_simp; try with_reducible rfl)⟩) hHeld ?_
              simp only [Act.put, List.getElem_toArray, List.getElem_cons_zero, List.getElem_cons_succ, List.setIfInBounds_toArray, List.set_cons_zero, List.set_cons_succ]
              refine wpAnyH_take (i := 15) (oi := _) (v := _) rfl (by kernel_rfl) (by kernel_rfl) (by kernel_rfl) (fun _ _ _ h => h) (Or.inl ⟨by rfl, by (intro w hSw; (try dsimp only at hSw); go_simp; try with_reducible rfl)⟩) hHeld ?_
              simp only [Act.put, List.getElem_toArray, List.getElem_cons_zero, List.getElem_cons_succ, List.setIfInBounds_toArray, List.set_cons_zero, List.set_cons_succ]
              refine wpAnyH_take (i := 16) (oi := _) (v := _) rfl (by kernel_rfl) (by kernel_rfl) (by kernel_rfl) (fun _ _ _ h => h) (Or.inl ⟨by rfl, by (intro w hSw; (try dsimp only at hSw); go_simp; try with_reducible rfl)⟩) hHeld ?_
              simp only [Act.put, List.getElem_toArray, List.getElem_cons_zero, List.getElem_cons_succ, List.setIfInBounds_toArray, List.set_cons_zero, List.set_cons_succ]
              refine wpAnyH_take (i := 17) (oi := _) (v := _) rfl (by kernel_rfl) (by kernel_rfl) (by kernel_rfl) (fun _ _ _ h => h) (Or.inl ⟨by rfl, by (intro w hSw; (try dsimp only at hSw); go_simp; try with_reducible rfl)⟩) hHeld ?_
              simp only [Act.put, List.getElem_toArray, List.getElem_cons_zero, List.getElem_cons_succ, List.setIfInBounds_toArray, List.set_cons_zero, List.set_cons_succ]
              refine wpAnyH_take (i := 18) (oi := _) (v := _) rfl (by kernel_rfl) (by kernel_rfl) (by kernel_rfl) (fun _ _ _ h => h) (Or.inl ⟨by rfl, by (intro w hSw; (try dsimp only at hSw); go_simp; try with_reducible rfl)⟩) hHeld ?_
              simp only [Act.put, List.getElem_toArray, List.getElem_cons_zero, List.getElem_cons_succ, List.setIfInBounds_toArray, List.set_cons_zero, List.set_cons_succ]
              refine wpAnyH_take (i := 19) (oi := _) (v := _) rfl (by kernel_rfl) (by kernel_rfl) (by kernel_rfl) (fun _ _ _ h => h) (Or.inl ⟨by rfl, by (intro w hSw; (try dsimp only at hSw); go_simp; try with_reducible rfl)⟩) hHeld ?_
              simp only [Act.put, List.getElem_toArray, List.getElem_cons_zero, List.getElem_cons_succ, List.setIfInBounds_toArray, List.set_cons_zero, List.set_cons_succ]
              refine wpAnyH_take (i := 20) (oi := _) (v := _) rfl (by kernel_rfl) (by kernel_rfl) (by kernel_rfl) (fun _ _ _ h => h) (Or.inl ⟨by rfl, by (intro w hSw; (try dsimp only at hSw); go_simp; try with_reducible rfl)⟩) hHeld ?_
              simp only [Act.put, List.getElem_toArray, List.getElem_cons_zero, List.getElem_cons_succ, List.setIfInBounds_toArray, List.set_cons_zero, List.set_cons_succ]
              refine wpAnyH_take (i := 21) (oi := _) (v := undef) rfl (by kernel_rfl) (by kernel_rfl) (by kernel_rfl) (fun _ _ _ h => h) (Or.inr ⟨by rfl, rfl⟩) hHeld ?_
              simp only [Act.put, List.getElem_toArray, List.getElem_cons_zero, List.getElem_cons_succ, List.setIfInBounds_toArray, List.set_cons_zero, List.set_cons_succ]
              refine wpAnyH_take (i := 22) (oi := _) (v := undef) rfl (by kernel_rfl) (by kernel_rfl) (by kernel_rfl) (fun _ _ _ h => h) (Or.inr ⟨by rfl, rfl⟩) hHeld ?_
              simp only [Act.put, List.getElem_toArray, List.getElem_cons_zero, List.getElem_cons_succ, List.setIfInBounds_toArray, List.set_cons_zero, List.set_cons_succ]
              refine wpAnyH_take (i := 23) (oi := _) (v := undef) rfl (by kernel_rfl) (by kernel_rfl) (by kernel_rfl) (fun _ _ _ h => h) (Or.inr ⟨by rfl, rfl⟩) hHeld ?_
              simp only [Act.put, List.getElem_toArray, List.getElem_cons_zero, List.getElem_cons_succ, List.setIfInBounds_toArray, List.set_cons_zero, List.set_cons_succ]
              refine wpAnyH_take (i := 24) (oi := _) (v := undef) rfl (by kernel_rfl) (by kernel_rfl) (by kernel_rfl) (fun _ _ _ h => h) (Or.inr ⟨by rfl, rfl⟩) hHeld ?_
              simp only [Act.put, List.getElem_toArray, List.getElem_cons_zero, List.getElem_cons_succ, List.setIfInBounds_toArray, List.set_cons_zero, List.set_cons_succ]
              refine wpAnyH_take (i := 25) (oi := _) (v := undef) rfl (by kernel_rfl) (by kernel_rfl) (by kernel_rfl) (fun _ _ _ h => h) (Or.inr ⟨by rfl, rfl⟩) hHeld ?_
              simp only [Act.put, List.getElem_toArray, List.getElem_cons_zero, List.getElem_cons_succ, List.setIfInBounds_toArray, List.set_cons_zero, List.set_cons_succ]
              refine wpAnyH_take (i := 26) (oi := _) (v := undef) rfl (by kernel_rfl) (by kernel_rfl) (by kernel_rfl) (fun _ _ _ h => h) (Or.inr ⟨by rfl, rfl⟩) hHeld ?_
              simp only [Act.put, List.getElem_toArray, List.getElem_cons_zero, List.getElem_cons_succ, List.setIfInBounds_toArray, List.set_cons_zero, List.set_cons_succ]
              refine wpAnyH_take (i := 27) (oi := _) (v := undef) rfl (by kernel_rfl) (by kernel_rfl) (by kernel_rfl) (fun _ _ _ h => h) (Or.inr ⟨by rfl, rfl⟩) hHeld ?_
              simp only [Act.put, List.getElem_toArray, List.getElem_cons_zero, List.getElem_cons_succ, List.setIfInBounds_toArray, List.set_cons_zero, List.set_cons_succ]
              refine wpAnyH_take (i := 28) (oi := _) (v := undef) rfl (by kernel_rfl) (by kernel_rfl) (by kernel_rfl) (fun _ _ _ h => h) (Or.inr ⟨by rfl, rfl⟩) hHeld ?_
              simp only [Act.put, List.getElem_toArray, List.getElem_cons_zero, List.getElem_cons_succ, List.setIfInBounds_toArray, List.set_cons_zero, List.set_cons_succ]
              refine wpAnyH_take (i := 29) (oi := _) (v := _) rfl (by kernel_rfl) (by kernel_rfl) (by kernel_rfl) (fun _ _ _ h => h) (Or.inl ⟨by rfl, by (intro w hSw; (try dsimp only at hSw); go_simp; try with_reducible rfl)⟩) hHeld ?_
              simp only [Act.put, List.getElem_toArray, List.getElem_cons_zero, List.getElem_cons_succ, List.setIfInBounds_toArray, List.set_cons_zero, List.set_cons_succ]
              refine wpAnyH_take (i := 30) (oi := _) (v := _) rfl (by kernel_rfl) (by kernel_rfl) (by kernel_rfl) (fun _ _ _ h => h) (Or.inl ⟨by rfl, by (intro w hSw; (try dsimp only at hSw); go_simp; try with_reducible rfl)⟩) hHeld ?_
              simp only [Act.put, List.getElem_toArray, List.getElem_cons_zero, List.getElem_cons_succ, List.setIfInBounds_toArray, List.set_cons_zero, List.set_cons_succ]
              refine wpAnyH_done (by kernel_rfl) ?_ _
              have YD10 := Aside0.mk (D9.out.below SB1.out)
              have YB10 := Aside0.mk (B9.out.trans (SB1.out.mono B9.out.size))
              have YH10 := Aside0.mk ((SB1.out.block xl (blk_lt H9.out)).trans H9.out)
              go_wp2_with fail
              exact ⟨⟨3 + 1, hlt, rfl, YD10, YH10, YB10⟩, HM.out⟩
            · rw [hp, if_neg (by rintro ⟨_, h⟩; exact absurd h (by decide)), if_pos ⟨rfl, rfl⟩] at RD
              have HP := Aside0.mk hp
              clear hp
              go_wp2_with fail
              refine (devX_read ZD.out 3 _ RD.out).mono ?_
              rintro e w8 ⟨A8, c8, rfl, hv, hD, hB⟩
              have V8 := Aside0.mk hv
              have D8 := Aside0.mk hD
              have B8 := Aside0.mk (ZB.out.trans (hB.mono ZB.out.size))
              have H8 := Aside0.mk ((hB.block xl (blk_lt ZH.out)).trans ZH.out)
              clear hv hD hB

              go_wp2_with fail
              refine (cisternref01_Pick.calls A1 c1 l1 0 (pickAt l1 0) w8 (Kd.C_below R1.out B8.out) C1.out (pick_val l1 0)).mono ?_
              rintro e w9 ⟨rfl, hd⟩
              have V9 : Aside0 (∀ w', Below w9.heap.size w9 w' → ∀ c, (convert 30 9 (.slice A8 ([] : List Int).length c)).run Try.prog w' = .ok (.string (strOfNums [])) w') := ⟨fun w' hb c => V8.out w' (hd.below.trans (hb.mono hd.below.size)) c⟩
              have D9 := Aside0.mk (D8.out.below hd.below)
              have B9 := Aside0.mk (B8.out.trans (hd.below.mono B8.out.size))
              have H9 := Aside0.mk ((hd.below.block xl (blk_lt H8.out)).trans H8.out)
              clear hd V8
              rw [HP.out]
              go_wp2_with fail
              have MK : Aside0 (∀ w1, Below w9.heap.size w9 w1 → Below w9.heap.size w9 w1 ∧ (∀ c, (convert 30 9 (.slice A8 ([] : List Int).length c)).run Try.prog w1 = .ok (.string (strOfNums [])) w1) ∧ w1.cell? ⟨xl, 3, none⟩ = some (.int .i64 (L[3]?.getD 0))) :=
                ⟨fun w1 hb => ⟨hb, V9.out w1 hb, (blk_cell ((hb.block xl (blk_lt H9.out)).trans H9.out) 3).trans (by rw [IntRow.get L 3 (by rw [LL.out]; omega), List.getElem?_eq_getElem (by rw [LL.out]; omega)]; rfl)⟩⟩
              obtain ⟨cx, hcx⟩ : ∃ cx, cx = L[3]?.getD 0 := ⟨_, rfl⟩
              refine wp_region_held_drew (S := fun w1 => Below w9.heap.size w9 w1 ∧ (∀ c, (convert 30 9 (.slice A8 ([] : List Int).length c)).run Try.prog w1 = .ok (.string (strOfNums [])) w1) ∧ w1.cell? ⟨xl, 3, none⟩ = some (.int .i64 (L[3]?.getD 0))) (by kernel_rfl) ?_ (fun hHeld => ?_)
              · try dsimp only
                first | exact MK.out _ (Below.drew (Below.refl _ _)) | exact MK.out _ SB1.out | assumption
              refine wpAnyH_take (i := 0) (oi := _) (v := _) rfl (by kernel_rfl) (by kernel_rfl) (by kernel_rfl) (fun _ _ _ h => h) (Or.inl ⟨by rfl, by (intro w hSw; (try dsimp only at hSw); go_simp; try with_reducible rfl)⟩) hHeld ?_
              simp only [Act.put, List.getElem_toArray, List.getElem_cons_zero, List.getElem_cons_succ, List.setIfInBounds_toArray, List.set_cons_zero, List.set_cons_succ]
              refine wpAnyH_take (i := 1) (oi := _) (v := _) rfl (by kernel_rfl) (by kernel_rfl) (by kernel_rfl) (fun _ _ _ h => h) (Or.inl ⟨by rfl, by (intro w hSw; (try dsimp only at hSw); go_simp; try with_reducible rfl)⟩) hHeld ?_
              simp only [Act.put, List.getElem_toArray, List.getElem_cons_zero, List.getElem_cons_succ, List.setIfInBounds_toArray, List.set_cons_zero, List.set_cons_succ]
              refine wpAnyH_take (i := 2) (oi := _) (v := _) rfl (by kernel_rfl) (by kernel_rfl) (by kernel_rfl) (fun _ _ _ h => h) (Or.inl ⟨by rfl, by (intro w hSw; (try dsimp only at hSw); go_simp; try with_reducible rfl)⟩) hHeld ?_
              simp only [Act.put, List.getElem_toArray, List.getElem_cons_zero, List.getElem_cons_succ, List.setIfInBounds_toArray, List.set_cons_zero, List.set_cons_succ]
              refine wpAnyH_take (i := 3) (oi := _) (v := _) rfl (by kernel_rfl) (by kernel_rfl) (by kernel_rfl) (fun _ _ _ h => h) (Or.inl ⟨by rfl, by (intro w hSw; (try dsimp only at hSw); go_simp; try with_reducible rfl)⟩) hHeld ?_
              simp only [Act.put, List.getElem_toArray, List.getElem_cons_zero, List.getElem_cons_succ, List.setIfInBounds_toArray, List.set_cons_zero, List.set_cons_succ]
              refine wpAnyH_take (i := 4) (oi := _) (v := _) rfl (by kernel_rfl) (by kernel_rfl) (by kernel_rfl) (fun _ _ _ h => h) (Or.inl ⟨by rfl, by (intro w hSw; (try dsimp only at hSw); go_simp; try with_reducible rfl)⟩) hHeld ?_
              simp only [Act.put, List.getElem_toArray, List.getElem_cons_zero, List.getElem_cons_succ, List.setIfInBounds_toArray, List.set_cons_zero, List.set_cons_succ]
              refine wpAnyH_take (i := 5) (oi := _) (v := _) rfl (by kernel_rfl) (by kernel_rfl) (by kernel_rfl) (fun _ _ _ h => h) (Or.inl ⟨by rfl, by (intro w hSw; (try dsimp only at hSw); go_simp; try with_reducible rfl)⟩) hHeld ?_
              simp only [Act.put, List.getElem_toArray, List.getElem_cons_zero, List.getElem_cons_succ, List.setIfInBounds_toArray, List.set_cons_zero, List.set_cons_succ]
              refine wpAnyH_take (i := 6) (oi := _) (v := _) rfl (by kernel_rfl) (by kernel_rfl) (by kernel_rfl) (fun _ _ _ h => h) (Or.inl ⟨by rfl, by (intro w hSw; (try dsimp only at hSw); go_simp; try with_reducible rfl)⟩) hHeld ?_
              simp only [Act.put, List.getElem_toArray, List.getElem_cons_zero, List.getElem_cons_succ, List.setIfInBounds_toArray, List.set_cons_zero, List.set_cons_succ]
              refine wpAnyH_take (i := 7) (oi := _) (v := _) rfl (by kernel_rfl) (by kernel_rfl) (by kernel_rfl) (fun _ _ _ h => h) (Or.inl ⟨by rfl, by (intro w hSw; (try dsimp only at hSw); go_simp; try with_reducible rfl)⟩) hHeld ?_
              simp only [Act.put, List.getElem_toArray, List.getElem_cons_zero, List.getElem_cons_succ, List.setIfInBounds_toArray, List.set_cons_zero, List.set_cons_succ]
              refine wpAnyH_take (i := 8) (oi := _) (v := _) rfl (by kernel_rfl) (by kernel_rfl) (by kernel_rfl) (fun _ _ _ h => h) (Or.inl ⟨by rfl, by (intro w hSw; (try dsimp only at hSw); go_simp; try with_reducible rfl)⟩) hHeld ?_
              simp only [Act.put, List.getElem_toArray, List.getElem_cons_zero, List.getElem_cons_succ, List.setIfInBounds_toArray, List.set_cons_zero, List.set_cons_succ]
              refine wpAnyH_take (i := 9) (oi := _) (v := _) rfl (by kernel_rfl) (by kernel_rfl) (by kernel_rfl) (fun _ _ _ h => h) (Or.inl ⟨by rfl, by (intro w hSw; (try dsimp only at hSw); go_simp; try with_reducible rfl)⟩) hHeld ?_
              simp only [Act.put, List.getElem_toArray, List.getElem_cons_zero, List.getElem_cons_succ, List.setIfInBounds_toArray, List.set_cons_zero, List.set_cons_succ]
              refine wpAnyH_take (i := 10) (oi := _) (v := undef) rfl (by kernel_rfl) (by kernel_rfl) (by kernel_rfl) (fun _ _ _ h => h) (Or.inr ⟨by rfl, rfl⟩) hHeld ?_
              simp only [Act.put, List.getElem_toArray, List.getElem_cons_zero, List.getElem_cons_succ, List.setIfInBounds_toArray, List.set_cons_zero, List.set_cons_succ]
              refine wpAnyH_take (i := 11) (oi := _) (v := undef) rfl (by kernel_rfl) (by kernel_rfl) (by kernel_rfl) (fun _ _ _ h => h) (Or.inr ⟨by rfl, rfl⟩) hHeld ?_
              simp only [Act.put, List.getElem_toArray, List.getElem_cons_zero, List.getElem_cons_succ, List.setIfInBounds_toArray, List.set_cons_zero, List.set_cons_succ]
              refine wpAnyH_take (i := 12) (oi := _) (v := undef) rfl (by kernel_rfl) (by kernel_rfl) (by kernel_rfl) (fun _ _ _ h => h) (Or.inr ⟨by rfl, rfl⟩) hHeld ?_
              simp only [Act.put, List.getElem_toArray, List.getElem_cons_zero, List.getElem_cons_succ, List.setIfInBounds_toArray, List.set_cons_zero, List.set_cons_succ]
              refine wpAnyH_take (i := 13) (oi := _) (v := undef) rfl (by kernel_rfl) (by kernel_rfl) (by kernel_rfl) (fun _ _ _ h => h) (Or.inr ⟨by rfl, rfl⟩) hHeld ?_
              simp only [Act.put, List.getElem_toArray, List.getElem_cons_zero, List.getElem_cons_succ, List.setIfInBounds_toArray, List.set_cons_zero, List.set_cons_succ]
              refine wpAnyH_take (i := 14) (oi := _) (v := undef) rfl (by kernel_rfl) (by kernel_rfl) (by kernel_rfl) (fun _ _ _ h => h) (Or.inr ⟨by rfl, rfl⟩) hHeld ?_
              simp only [Act.put, List.getElem_toArray, List.getElem_cons_zero, List.getElem_cons_succ, List.setIfInBounds_toArray, List.set_cons_zero, List.set_cons_succ]
              refine wpAnyH_take (i := 15) (oi := _) (v := _) rfl (by kernel_rfl) (by kernel_rfl) (by kernel_rfl) (fun _ _ _ h => h) (Or.inl ⟨by rfl, by (intro w hSw; (try dsimp only at hSw); go_simp; try with_reducible rfl)⟩) hHeld ?_
              simp only [Act.put, List.getElem_toArray, List.getElem_cons_zero, List.getElem_cons_succ, List.setIfInBounds_toArray, List.set_cons_zero, List.set_cons_succ]
              refine wpAnyH_take (i := 16) (oi := _) (v := _) rfl (by kernel_rfl) (by kernel_rfl) (by kernel_rfl) (fun _ _ _ h => h) (Or.inl ⟨by rfl, by (intro w hSw; (try dsimp only at hSw); go_simp; try with_reducible rfl)⟩) hHeld ?_
              simp only [Act.put, List.getElem_toArray, List.getElem_cons_zero, List.getElem_cons_succ, List.setIfInBounds_toArray, List.set_cons_zero, List.set_cons_succ]
              refine wpAnyH_take (i := 17) (oi := _) (v := _) rfl (by kernel_rfl) (by kernel_rfl) (by kernel_rfl) (fun _ _ _ h => h) (Or.inl ⟨by rfl, by (intro w hSw; (try dsimp only at hSw); go_simp; try with_reducible rfl)⟩) hHeld ?_
              simp only [Act.put, List.getElem_toArray, List.getElem_cons_zero, List.getElem_cons_succ, List.setIfInBounds_toArray, List.set_cons_zero, List.set_cons_succ]
              refine wpAnyH_take (i := 18) (oi := _) (v := _) rfl (by kernel_rfl) (by kernel_rfl) (by kernel_rfl) (fun _ _ _ h => h) (Or.inl ⟨by rfl, by (intro w hSw; (try dsimp only at hSw); go_simp; try with_reducible rfl)⟩) hHeld ?_
              simp only [Act.put, List.getElem_toArray, List.getElem_cons_zero, List.getElem_cons_succ, List.setIfInBounds_toArray, List.set_cons_zero, List.set_cons_succ]
              refine wpAnyH_take (i := 19) (oi := _) (v := _) rfl (by kernel_rfl) (by kernel_rfl) (by kernel_rfl) (fun _ _ _ h => h) (Or.inl ⟨by rfl, by (intro w hSw; (try dsimp only at hSw); go_simp; try with_reducible rfl)⟩) hHeld ?_
              simp only [Act.put, List.getElem_toArray, List.getElem_cons_zero, List.getElem_cons_succ, List.setIfInBounds_toArray, List.set_cons_zero, List.set_cons_succ]
              refine wpAnyH_take (i := 20) (oi := _) (v := _) rfl (by kernel_rfl) (by kernel_rfl) (by kernel_rfl) (fun _ _ _ h => h) (Or.inl ⟨by rfl, by (intro w hSw; (try dsimp only at hSw); go_simp; try with_reducible rfl)⟩) hHeld ?_
              simp only [Act.put, List.getElem_toArray, List.getElem_cons_zero, List.getElem_cons_succ, List.setIfInBounds_toArray, List.set_cons_zero, List.set_cons_succ]
              refine wpAnyH_take (i := 21) (oi := _) (v := undef) rfl (by kernel_rfl) (by kernel_rfl) (by kernel_rfl) (fun _ _ _ h => h) (Or.inr ⟨by rfl, rfl⟩) hHeld ?_
              simp only [Act.put, List.getElem_toArray, List.getElem_cons_zero, List.getElem_cons_succ, List.setIfInBounds_toArray, List.set_cons_zero, List.set_cons_succ]
              refine wpAnyH_take (i := 22) (oi := _) (v := undef) rfl (by kernel_rfl) (by kernel_rfl) (by kernel_rfl) (fun _ _ _ h => h) (Or.inr ⟨by rfl, rfl⟩) hHeld ?_
              simp only [Act.put, List.getElem_toArray, List.getElem_cons_zero, List.getElem_cons_succ, List.setIfInBounds_toArray, List.set_cons_zero, List.set_cons_succ]
              refine wpAnyH_take (i := 23) (oi := _) (v := undef) rfl (by kernel_rfl) (by kernel_rfl) (by kernel_rfl) (fun _ _ _ h => h) (Or.inr ⟨by rfl, rfl⟩) hHeld ?_
              simp only [Act.put, List.getElem_toArray, List.getElem_cons_zero, List.getElem_cons_succ, List.setIfInBounds_toArray, List.set_cons_zero, List.set_cons_succ]
              refine wpAnyH_take (i := 24) (oi := _) (v := undef) rfl (by kernel_rfl) (by kernel_rfl) (by kernel_rfl) (fun _ _ _ h => h) (Or.inr ⟨by rfl, rfl⟩) hHeld ?_
              simp only [Act.put, List.getElem_toArray, List.getElem_cons_zero, List.getElem_cons_succ, List.setIfInBounds_toArray, List.set_cons_zero, List.set_cons_succ]
              refine wpAnyH_take (i := 25) (oi := _) (v := undef) rfl (by kernel_rfl) (by kernel_rfl) (by kernel_rfl) (fun _ _ _ h => h) (Or.inr ⟨by rfl, rfl⟩) hHeld ?_
              simp only [Act.put, List.getElem_toArray, List.getElem_cons_zero, List.getElem_cons_succ, List.setIfInBounds_toArray, List.set_cons_zero, List.set_cons_succ]
              refine wpAnyH_take (i := 26) (oi := _) (v := undef) rfl (by kernel_rfl) (by kernel_rfl) (by kernel_rfl) (fun _ _ _ h => h) (Or.inr ⟨by rfl, rfl⟩) hHeld ?_
              simp only [Act.put, List.getElem_toArray, List.getElem_cons_zero, List.getElem_cons_succ, List.setIfInBounds_toArray, List.set_cons_zero, List.set_cons_succ]
              refine wpAnyH_take (i := 27) (oi := _) (v := undef) rfl (by kernel_rfl) (by kernel_rfl) (by kernel_rfl) (fun _ _ _ h => h) (Or.inr ⟨by rfl, rfl⟩) hHeld ?_
              simp only [Act.put, List.getElem_toArray, List.getElem_cons_zero, List.getElem_cons_succ, List.setIfInBounds_toArray, List.set_cons_zero, List.set_cons_succ]
              refine wpAnyH_take (i := 28) (oi := _) (v := undef) rfl (by kernel_rfl) (by kernel_rfl) (by kernel_rfl) (fun _ _ _ h => h) (Or.inr ⟨by rfl, rfl⟩) hHeld ?_
              simp only [Act.put, List.getElem_toArray, List.getElem_cons_zero, List.getElem_cons_succ, List.setIfInBounds_toArray, List.set_cons_zero, List.set_cons_succ]
              refine wpAnyH_take (i := 29) (oi := _) (v := _) rfl (by kernel_rfl) (by kernel_rfl) (by kernel_rfl) (fun _ _ _ h => h) (Or.inl ⟨by rfl, by (intro w hSw; (try dsimp only at hSw); go_simp; try with_reducible rfl)⟩) hHeld ?_
              simp only [Act.put, List.getElem_toArray, List.getElem_cons_zero, List.getElem_cons_succ, List.setIfInBounds_toArray, List.set_cons_zero, List.set_cons_succ]
              refine wpAnyH_take (i := 30) (oi := _) (v := _) rfl (by kernel_rfl) (by kernel_rfl) (by kernel_rfl) (fun _ _ _ h => h) (Or.inl ⟨by rfl, by (intro w hSw; (try dsimp only at hSw); go_simp; try with_reducible rfl)⟩) hHeld ?_
              simp only [Act.put, List.getElem_toArray, List.getElem_cons_zero, List.getElem_cons_succ, List.setIfInBounds_toArray, List.set_cons_zero, List.set_cons_succ]
              refine wpAnyH_done (by kernel_rfl) ?_ _
              have YD10 := Aside0.mk (DevX.below D9.out hHeld.1)
              have YB10 := Aside0.mk (B9.out.trans (hHeld.1.mono B9.out.size))
              have YH10 := Aside0.mk ((hHeld.1.block xl (blk_lt H9.out)).trans H9.out)
              clear hHeld
              go_wp2_with fail
              exact ⟨⟨3 + 1, hlt, rfl, YD10, YH10, YB10⟩, HM.out⟩
          · rw [if_neg (fun h => h3 h.1), if_neg (fun h => h3 h.1), LJ.out] at RD
            have d3 : ((j : Int) == 3) = false := beq_eq_false_iff_ne.2 (by omega)
            go_wp2_with fail
            refine (devX_read ZD.out (j : Int) _ RD.out).mono ?_
            rintro e w9 ⟨A8, c8, rfl, hv, hD, hB⟩
            have V8 := Aside0.mk hv
            have D8 := Aside0.mk hD
            have B8 := Aside0.mk (ZB.out.trans (hB.mono ZB.out.size))
            have H8 := Aside0.mk ((hB.block xl (blk_lt ZH.out)).trans ZH.out)
            clear hv hD hB
            rw [bytesL_len] at V8 ⊢
            go_wp2_with fail
            have V9 := V8
            have D9 := D8
            have B9 := B8
            have H9 := H8
            have q1 : (0 : Int) ≤ (j : Int) := Int.natCast_nonneg _
            have q2 : (j : Int) < 8 := by omega
            have MK : Aside0 (∀ w1, Below w9.heap.size w9 w1 → Below w9.heap.size w9 w1 ∧ (∀ c, (convert 30 9 (.slice A8 256 c)).run Try.prog w1 = .ok (.string (strOfNums (bytesL (L[j]?.getD 0) 0))) w1) ∧ w1.cell? ⟨xl, j, none⟩ = some (.int .i64 (L[j]?.getD 0))) :=
              ⟨fun w1 hb => ⟨hb, V9.out w1 hb, (blk_cell ((hb.block xl (blk_lt H9.out)).trans H9.out) j).trans (by rw [IntRow.get L j (by rw [LL.out]; omega), List.getElem?_eq_getElem (by rw [LL.out]; omega)]; rfl)⟩⟩
            obtain ⟨cx, hcx⟩ : ∃ cx, cx = L[j]?.getD 0 := ⟨_, rfl⟩
            refine wp_region_held_drew (S := fun w1 => Below w9.heap.size w9 w1 ∧ (∀ c, (convert 30 9 (.slice A8 256 c)).run Try.prog w1 = .ok (.string (strOfNums (bytesL (L[j]?.getD 0) 0))) w1) ∧ w1.cell? ⟨xl, j, none⟩ = some (.int .i64 (L[j]?.getD 0))) (by kernel_rfl) ?_ (fun hHeld => ?_)
            · try dsimp only
              first | exact MK.out _ (Below.drew (Below.refl _ _)) | exact MK.out _ SB1.out | assumption
            refine wpAnyH_take (i := 0) (oi := _) (v := _) rfl (by kernel_rfl) (by kernel_rfl) (by kernel_rfl) (fun _ _ _ h => h) (Or.inl ⟨by rfl, by (intro w hSw; (try dsimp only at hSw); go_simp; try with_reducible rfl)⟩) hHeld ?_
            simp only [Act.put, List.getElem_toArray, List.getElem_cons_zero, List.getElem_cons_succ, List.setIfInBounds_toArray, List.set_cons_zero, List.set_cons_succ]
            refine wpAnyH_take (i := 1) (oi := _) (v := _) rfl (by kernel_rfl) (by kernel_rfl) (by kernel_rfl) (fun _ _ _ h => h) (Or.inl ⟨by rfl, by (intro w hSw; (try dsimp only at hSw); go_simp; try with_reducible rfl)⟩) hHeld ?_
            simp only [Act.put, List.getElem_toArray, List.getElem_cons_zero, List.getElem_cons_succ, List.setIfInBounds_toArray, List.set_cons_zero, List.set_cons_succ]
            refine wpAnyH_take (i := 2) (oi := _) (v := _) rfl (by kernel_rfl) (by kernel_rfl) (by kernel_rfl) (fun _ _ _ h => h) (Or.inl ⟨by rfl, by (intro w hSw; (try dsimp only at hSw); go_simp; try with_reducible rfl)⟩) hHeld ?_
            simp only [Act.put, List.getElem_toArray, List.getElem_cons_zero, List.getElem_cons_succ, List.setIfInBounds_toArray, List.set_cons_zero, List.set_cons_succ]
            refine wpAnyH_take (i := 3) (oi := _) (v := _) rfl (by kernel_rfl) (by kernel_rfl) (by kernel_rfl) (fun _ _ _ h => h) (Or.inl ⟨by rfl, by (intro w hSw; (try dsimp only at hSw); go_simp; try with_reducible rfl)⟩) hHeld ?_
            simp only [Act.put, List.getElem_toArray, List.getElem_cons_zero, List.getElem_cons_succ, List.setIfInBounds_toArray, List.set_cons_zero, List.set_cons_succ]
            refine wpAnyH_take (i := 4) (oi := _) (v := _) rfl (by kernel_rfl) (by kernel_rfl) (by kernel_rfl) (fun _ _ _ h => h) (Or.inl ⟨by rfl, by (intro w hSw; (try dsimp only at hSw); go_simp; try with_reducible rfl)⟩) hHeld ?_
            simp only [Act.put, List.getElem_toArray, List.getElem_cons_zero, List.getElem_cons_succ, List.setIfInBounds_toArray, List.set_cons_zero, List.set_cons_succ]
            refine wpAnyH_take (i := 5) (oi := _) (v := _) rfl (by kernel_rfl) (by kernel_rfl) (by kernel_rfl) (fun _ _ _ h => h) (Or.inl ⟨by rfl, by (intro w hSw; (try dsimp only at hSw); go_simp; try with_reducible rfl)⟩) hHeld ?_
            simp only [Act.put, List.getElem_toArray, List.getElem_cons_zero, List.getElem_cons_succ, List.setIfInBounds_toArray, List.set_cons_zero, List.set_cons_succ]
            refine wpAnyH_take (i := 6) (oi := _) (v := _) rfl (by kernel_rfl) (by kernel_rfl) (by kernel_rfl) (fun _ _ _ h => h) (Or.inl ⟨by rfl, by (intro w hSw; (try dsimp only at hSw); go_simp; try with_reducible rfl)⟩) hHeld ?_
            simp only [Act.put, List.getElem_toArray, List.getElem_cons_zero, List.getElem_cons_succ, List.setIfInBounds_toArray, List.set_cons_zero, List.set_cons_succ]
            refine wpAnyH_take (i := 7) (oi := _) (v := _) rfl (by kernel_rfl) (by kernel_rfl) (by kernel_rfl) (fun _ _ _ h => h) (Or.inl ⟨by rfl, by (intro w hSw; (try dsimp only at hSw); go_simp; try with_reducible rfl)⟩) hHeld ?_
            simp only [Act.put, List.getElem_toArray, List.getElem_cons_zero, List.getElem_cons_succ, List.setIfInBounds_toArray, List.set_cons_zero, List.set_cons_succ]
            refine wpAnyH_take (i := 8) (oi := _) (v := _) rfl (by kernel_rfl) (by kernel_rfl) (by kernel_rfl) (fun _ _ _ h => h) (Or.inl ⟨by rfl, by (intro w hSw; (try dsimp only at hSw); go_simp; try with_reducible rfl)⟩) hHeld ?_
            simp only [Act.put, List.getElem_toArray, List.getElem_cons_zero, List.getElem_cons_succ, List.setIfInBounds_toArray, List.set_cons_zero, List.set_cons_succ]
            refine wpAnyH_ready (rs := [9]) (by kernel_rfl) (by simp) ?_
            refine AllReadyH.cons rfl (fun K hK => ?_) AllReadyH.nil
            go_simp
            go_wp2_with fail
            refine (bytes_calls (L[j]?.getD 0) 0 _).mono ?_
            rintro e w10 ⟨A10, c10, rfl, hb, hB1⟩
            rw [bytesN_zero] at hb ⊢
            obtain ⟨q10, k10, hq10, -, -, -, hC10⟩ := (hb (by decide)).reads
            rw [Value.slice.injEq] at hq10
            obtain ⟨rfl, -, -⟩ := hq10
            rw [bytesL_len] at hC10
            have SB1 : Aside0 (Below w9.heap.size w9 w10) := ⟨Below.trans hHeld.1 (hB1.mono hHeld.1.size)⟩
            have hv10 : ∀ c, (convert 30 9 (.slice (some ⟨q10, 0, none⟩) 256 c)).run Try.prog w10 = .ok (.string (strOfNums (bytesL (L[j]?.getD 0) 0))) w10 := fun c => Kd.C_string (P := Try.prog) Try.underlying30 Try.underlying5 Try.underlying9 hC10
            clear hb hB1 hC10
            go_wp2_with fail
            refine hK.out _ _ ?_ (fun hNew => ?_)
            · try dsimp only
              first | exact MK.out _ (Below.drew (Below.refl _ _)) | exact MK.out _ SB1.out | assumption
            clear hK K hHeld
            have hHeld := hNew
            clear hNew
            refine wpAnyH_ready (rs := [10]) (by kernel_rfl) (by simp) ?_
            refine AllReadyH.cons rfl (fun K hK => ?_) AllReadyH.nil
            go_simp
            refine hK.out _ _ ?_ (fun hNew => ?_)
            · try dsimp only
              first | exact MK.out _ (Below.drew (Below.refl _ _)) | exact MK.out _ SB1.out | assumption
            clear hK K hHeld
            have hHeld := hNew
            clear hNew
            refine wpAnyH_take (i := 11) (oi := _) (v := _) rfl (by kernel_rfl) (by kernel_rfl) (by kernel_rfl) (fun _ _ _ h => h) (Or.inl ⟨by rfl, by (intro w hSw; (try dsimp only at hSw); go_simp; try with_reducible rfl)⟩) hHeld ?_
            simp only [Act.put, List.getElem_toArray, List.getElem_cons_zero, List.getElem_cons_succ, List.setIfInBounds_toArray, List.set_cons_zero, List.set_cons_succ]
            refine wpAnyH_take (i := 12) (oi := _) (v := _) rfl (by kernel_rfl) (by kernel_rfl) (by kernel_rfl) (fun _ _ _ h => h) (Or.inl ⟨by rfl, by (intro w hSw; (try dsimp only at hSw); go_simp; try with_reducible rfl)⟩) hHeld ?_
            simp only [Act.put, List.getElem_toArray, List.getElem_cons_zero, List.getElem_cons_succ, List.setIfInBounds_toArray, List.set_cons_zero, List.set_cons_succ]
            refine wpAnyH_done (by kernel_rfl) ?_ _
            have YD10 := Aside0.mk (D9.out.below SB1.out)
            have YB10 := Aside0.mk (B9.out.trans (SB1.out.mono B9.out.size))
            have YH10 := Aside0.mk ((SB1.out.block xl (blk_lt H9.out)).trans H9.out)
            go_wp2_with fail
            exact ⟨⟨j + 1, hlt, rfl, YD10, YH10, YB10⟩, HM.out⟩
        · have d2 : decide ((j : Int) < 8) = false := decide_eq_false (by omega)
          go_wp2_with fail
          go_ret
          exact ⟨rfl, ZB.out⟩

end Go.Proofs.Ytgakjpnfbgmjjaa.PA
