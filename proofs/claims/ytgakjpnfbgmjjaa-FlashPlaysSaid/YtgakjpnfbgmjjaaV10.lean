import Derived.Test.YtgakjpnfbgmjjaaV9
import Derived.Deep.RegionHeldLaw
import Derived.BigQuiet
import Derived.Deep.Slices
import Derived.SizedLaws
import Derived.IntWalk
import Derived.ArgAppend
namespace Go.Proofs.Ytgakjpnfbgmjjaa.PA
open Go.RowKit Go.Proofs.YtgakjpnfbgmjjaaW.PrintWords Go.Proofs.YtgakjpnfbgmjjaaW.PrintLast Go.Proofs.YtgakjpnfbgmjjaaW.PrintMore
set_option linter.unusedVariables false
set_option linter.unusedSimpArgs false
/-! ### A nil device -/
theorem nil_is (W : World) (p : Int) : Calls Try.prog 24 #[.pointer none, .int .i64 p] W fun e W' => e = .returned (.bool false) ∧ W' = W := by
  go_enter Try.func24, Try.ntmps24
  go_wp2_with fail
  go_ret
  exact ⟨rfl, rfl⟩
theorem nil_size (W : World) : Calls Try.prog 16 #[.pointer none] W fun e W' => e = .returned (.int .i64 0) ∧ W' = W := by
  go_enter Try.func16, Try.ntmps16
  go_wp2_with fail
  go_ret
  exact ⟨rfl, rfl⟩
theorem nil_pending (W : World) : Calls Try.prog 19 #[.pointer none] W fun e W' => e = .returned (.int .i64 0) ∧ W' = W := by
  go_enter Try.func19, Try.ntmps19
  go_wp2_with fail
  go_ret
  exact ⟨rfl, rfl⟩
theorem nil_flush (W : World) : Calls Try.prog 14 #[.pointer none] W fun e W' => e = .returned (.int .i64 1) ∧ W' = W := by
  go_enter Try.func14, Try.ntmps14
  go_wp2_with fail
  go_ret
  exact ⟨rfl, rfl⟩
theorem nil_crash (W : World) (v : Value) : Calls Try.prog 18 #[.pointer none, v] W fun e W' => e = .returned (.tuple #[]) ∧ W' = W := by
  go_enter Try.func18, Try.ntmps18
  go_wp2_with fail
  refine bodyPost_ret (results_none rfl _ _ _) rfl ?_
  exact ⟨rfl, rfl⟩
theorem nil_write (W : World) (p : Int) (A : Option Addr) (n c : Nat) : Calls Try.prog 12 #[.pointer none, .int .i64 p, .slice A n c] W fun e W' => e = .returned (.int .i64 1) ∧ W' = W := by
  go_enter Try.func12, Try.ntmps12
  go_wp2_with fail
  refine (nil_is W p).mono ?_
  rintro e w ⟨rfl, rfl⟩
  go_wp2_with fail
  go_ret
  exact ⟨rfl, rfl⟩
set_option maxHeartbeats 4000000 in
theorem nil_read (W : World) (p : Int) :
    Calls Try.prog 15 #[.pointer none, .int .i64 p] W fun e W' => e = .returned (.tuple #[.slice none 0 0, .int .i64 1]) ∧ Below W.heap.size W W' := by
  refine (callsIn_wide (n := 3)).1 ?_
  refine callsIn_of_wp_marks Try.func15 rfl trivial ?_ rfl
  simp only [Try.ntmps15, List.size_toArray, List.length_cons, List.length_nil, Nat.reduceAdd, Nat.reduceSub, Array.replicate_succ, Array.replicate_zero, List.push_toArray, List.append_toArray, List.nil_append, List.cons_append]
  gi_wp2
  refine ⟨trivial, (callsIn_wide.2 (nil_is _ p)).mono ?_⟩
  rintro e w1 ⟨rfl, rfl⟩
  obtain ⟨n, hn⟩ : ∃ n, n = W.heap.size := ⟨_, rfl⟩
  have b3 := ((Boxed.new W 3 (.int .i64 p)).alloc (.cells #[.slice none 0 0] 30)).alloc (.cells #[.int .i64 0] 26)
  have b4 := (Boxed.new (W.alloc (.cells #[.int .i64 p] 3)) 30 (.slice none 0 0)).alloc (.cells #[.int .i64 0] 26)
  have b5 := Boxed.new ((W.alloc (.cells #[.int .i64 p] 3)).alloc (.cells #[.slice none 0 0] 30)) 26 (.int .i64 0)
  have hB3 := ((Below.refl W.heap.size W).alloc (Nat.le_refl _) (.cells #[.int .i64 p] 3)).alloc (by simp) (.cells #[.slice none 0 0] 30) |>.alloc (by simp; omega) (.cells #[.int .i64 0] 26)
  have hsz : (((W.alloc (.cells #[.int .i64 p] 3)).alloc (.cells #[.slice none 0 0] 30)).alloc (.cells #[.int .i64 0] 26)).heap.size = n + 3 := by simp [hn]
  simp only [World.size_alloc, ← hn] at b3 b4 b5
  obtain ⟨W3, hW3⟩ : ∃ W3, ((W.alloc (.cells #[.int .i64 p] 3)).alloc (.cells #[.slice none 0 0] 30)).alloc (.cells #[.int .i64 0] 26) = W3 := ⟨_, rfl⟩
  rw [hW3] at b3 b4 b5 hB3 hsz ⊢
  rw [← hn]
  have B3 := Aside0.mk hB3
  have c3 := b3.cell
  have f4 := b4.frozen
  have f5 := b5.frozen
  have c4 := b4.cell
  have c5 := b5.cell
  have HN2 := Aside0.mk hn
  clear hW3 hB3 hn
  have Q4 := Aside0.mk ((b4.set (.slice none 0 0)).other (B' := n + 1 + 1) (by omega) (.int .i64 1))
  have Q5 := Aside0.mk ((b5.other (B' := n + 1) (by omega) (.slice none 0 0)).set (.int .i64 1))
  clear b3 b4 b5
  gi_wp2
  exact ⟨_, res15 rfl rfl Q4.out Q5.out, rfl, (B3.out.setCell (by rw [HN2.out]; show _ ≤ _ + 1; omega) _).setCell (by rw [HN2.out]; show _ ≤ _ + 1 + 1; omega) _⟩
/-! ### FlashPlays -/
set_option maxHeartbeats 8000000 in
set_option maxRecDepth 100000 in
theorem cisternlaw01_FlashPlays.walk (x0 : Int) (A1 : Option Addr) (c1 : Nat) (l1 : List S44) (w : World) (w0 : (Lit.int .i64 x0).wf = true) (hr1 : Kd.C k44 w A1 l1.length l1) (hc1 : l1.length ≤ c1) (y1 : l1.length * 56 ≤ 140737488351232) (w1 : ∀ v ∈ l1, Wf44 v) :
    Calls Try.prog 8 #[.int .i64 x0, .slice A1 l1.length c1] w fun e w' => e = .returned (.bool true) ∧ Below w.heap.size w w' := by
  have R0 := Aside0.mk hr1
  have W0 := Aside0.mk w1
  clear hr1 hc1 y1 w1 w0
  by_cases hbad : x0 < 1 ∨ 4096 < x0
  · have d1 : (decide (64 < x0) && decide (x0 ≤ 4096)) = false := by
      rcases hbad with h | h
      · rw [decide_eq_false (show ¬ 64 < x0 by omega)]; rfl
      · rw [decide_eq_false (show ¬ x0 ≤ 4096 by omega), Bool.and_false]
    have HB := Aside0.mk hbad
    by_cases h64 : 64 < x0
    · have e1 : decide (64 < x0) = true := decide_eq_true h64
      have e2 : decide (x0 ≤ 4096) = false := decide_eq_false (by omega)
      clear hbad d1 h64
      go_enter Try.func8, Try.ntmps8
      go_wp2_with fail
      refine (known_calls w).mono ?_
      rintro e wa ⟨rfl, hB⟩
      have BA := Aside0.mk hB
      clear hB
      go_wp2_with fail
      refine (dev_new_bad x0 HB.out wa).mono ?_
      rintro e w2 ⟨rfl, rfl⟩
      go_wp2_with fail
      refine (ref_new_bad x0 HB.out _).mono ?_
      rintro e w2 ⟨rfl, rfl⟩
      go_wp2_with fail
      refine (nil_read _ 0).mono ?_
      rintro e w3 ⟨rfl, hB⟩
      have B3 := Aside0.mk (BA.out.trans (hB.mono BA.out.size))
      clear hB
      go_wp2_with fail
      refine (nil_crash _ _).mono ?_
      rintro e w4 ⟨rfl, rfl⟩
      go_wp2_with fail
      refine (bytes_calls 1 0 _).mono ?_
      rintro e w5 ⟨A5, k5, rfl, -, hB⟩
      have B5 := Aside0.mk (B3.out.trans (hB.mono B3.out.size))
      clear hB
      go_wp2_with fail
      refine (nil_write _ 0 _ _ _).mono ?_
      rintro e w6 ⟨rfl, rfl⟩
      go_wp2_with fail
      refine (nil_flush _).mono ?_
      rintro e w6 ⟨rfl, rfl⟩
      go_wp2_with fail
      refine (nil_size _).mono ?_
      rintro e w6 ⟨rfl, rfl⟩
      go_wp2_with fail
      refine (nil_pending _).mono ?_
      rintro e w6 ⟨rfl, rfl⟩
      go_wp2_with fail
      go_ret
      exact ⟨rfl, B5.out⟩
    · have e1 : decide (64 < x0) = false := decide_eq_false h64
      clear hbad d1 h64
      go_enter Try.func8, Try.ntmps8
      go_wp2_with fail
      refine (known_calls w).mono ?_
      rintro e wa ⟨rfl, hB⟩
      have BA := Aside0.mk hB
      clear hB
      go_wp2_with fail
      refine (dev_new_bad x0 HB.out wa).mono ?_
      rintro e w2 ⟨rfl, rfl⟩
      go_wp2_with fail
      refine (ref_new_bad x0 HB.out _).mono ?_
      rintro e w2 ⟨rfl, rfl⟩
      go_wp2_with fail
      refine (nil_read _ 0).mono ?_
      rintro e w3 ⟨rfl, hB⟩
      have B3 := Aside0.mk (BA.out.trans (hB.mono BA.out.size))
      clear hB
      go_wp2_with fail
      refine (nil_crash _ _).mono ?_
      rintro e w4 ⟨rfl, rfl⟩
      go_wp2_with fail
      refine (bytes_calls 1 0 _).mono ?_
      rintro e w5 ⟨A5, k5, rfl, -, hB⟩
      have B5 := Aside0.mk (B3.out.trans (hB.mono B3.out.size))
      clear hB
      go_wp2_with fail
      refine (nil_write _ 0 _ _ _).mono ?_
      rintro e w6 ⟨rfl, rfl⟩
      go_wp2_with fail
      refine (nil_flush _).mono ?_
      rintro e w6 ⟨rfl, rfl⟩
      go_wp2_with fail
      refine (nil_size _).mono ?_
      rintro e w6 ⟨rfl, rfl⟩
      go_wp2_with fail
      refine (nil_pending _).mono ?_
      rintro e w6 ⟨rfl, rfl⟩
      go_wp2_with fail
      go_ret
      exact ⟨rfl, B5.out⟩
  · by_cases h64 : 64 < x0
    · have e1 : decide (64 < x0) = true := decide_eq_true h64
      have e2 : decide (x0 ≤ 4096) = true := decide_eq_true (by omega)
      clear hbad h64
      go_enter Try.func8, Try.ntmps8
      go_wp2_with fail
      refine (known_calls w).mono ?_
      rintro e wa ⟨rfl, hB⟩
      have BA := Aside0.mk hB
      clear hB
      go_wp2_with fail
      refine (devB_new 64 (by decide) (by decide) wa (64 : Int) rfl).mono ?_
      rintro e wb ⟨g, rfl, hD, hB⟩
      have DB := Aside0.mk hD
      have BB := Aside0.mk (BA.out.trans (hB.mono BA.out.size))
      have BS := Aside0.mk BA.out.size
      clear hD hB
      go_wp2_with fail
      refine (ref_new 64 (by decide) (by decide) wb (64 : Int) rfl).mono ?_
      rintro e wc ⟨r, rfl, hR, hB⟩
      have TT := Aside0.mk (Two.new DB.out hR hB)
      have BC := Aside0.mk (BB.out.trans (hB.mono BB.out.size))
      have BS2 := Aside0.mk (Nat.le_trans DB.out.b hB.size)
      clear hR hB
      go_wp2_with fail
      go_loopw [11] (fun v w' => ∃ i : Nat, i ≤ l1.length ∧ i ≤ 200 ∧ v = .int .i64 (i : Int) ∧ Aside0 (∃ S, Two w' (pB wa.heap.size) g r S S ∧ Fit 64 i S) ∧ Aside0 (Below w.heap.size w w' ∧ wa.heap.size ≤ w'.heap.size)) (fun v _ => ((200 : Int) - intOf v).toNat)
      case atStart => exact ⟨0, Nat.zero_le _, Nat.zero_le _, rfl, ⟨_, TT.out, .new (by decide) 0⟩, ⟨BC.out, BS2.out⟩⟩
      case round =>
        obtain ⟨i, hi, hi40, rfl, YT, YB⟩ := hrel
        clear DB BB TT BC BS2
        by_cases hlt : i < l1.length
        · have d1 : decide (i < l1.length) = true := decide_eq_true hlt
          by_cases hlt2 : i < 200
          · have d2 : decide ((i : Int) < 200) = true := decide_eq_true (by omega)
            have p1 : (0 : Int) ≤ (i : Int) := Int.natCast_nonneg _
            have p2 : (i : Int) < (l1.length : Int) := Int.ofNat_lt.2 hlt
            obtain ⟨ad, k, a, f, n, A4, c4, l, hA, k0, k1, k2, k3, k4, OP⟩ := op44 R0.out W0.out YB.out.1 i hlt
            subst hA
            have HM : Aside0 (((200 : Int) - intOf (.int .i64 ((i + 1 : Nat) : Int))).toNat < ((200 : Int) - intOf (.int .i64 (i : Int))).toNat) := ⟨by simp [intOf]; omega⟩
            have HW := Aside0.mk (wrap_suc i (by omega))
            obtain ⟨⟨S, hT, hF⟩⟩ := YT
            have YT := Aside0.mk (hT.below (Below.refl wr.heap.size wr).drew)
            have YF := Aside0.mk hF
            have YB := Aside0.mk (And.intro (YB.out.1.trans ((Below.refl wr.heap.size wr).drew.mono YB.out.1.size)) YB.out.2)
            clear hT hF
            go_wp2_with fail
            refine wp_region_held_drew (S := fun _ => True) (by kernel_rfl) trivial (fun hHeld => ?_)
            refine wpAnyH_take (i := 0) (oi := _) (v := _) rfl (by kernel_rfl) (by kernel_rfl) (by kernel_rfl) (fun _ _ _ h => h) (Or.inl ⟨by rfl, by (intro w hSw; (try dsimp only at hSw); go_simp; try with_reducible rfl)⟩) hHeld ?_
            simp only [Act.put, List.getElem_toArray, List.getElem_cons_zero, List.getElem_cons_succ, List.setIfInBounds_toArray, List.set_cons_zero, List.set_cons_succ]
            refine wpAnyH_take (i := 1) (oi := _) (v := _) rfl (by kernel_rfl) (by kernel_rfl) (by kernel_rfl) (fun _ _ _ h => h) (Or.inl ⟨by rfl, by (intro w hSw; (try dsimp only at hSw); go_simp; try with_reducible rfl)⟩) hHeld ?_
            simp only [Act.put, List.getElem_toArray, List.getElem_cons_zero, List.getElem_cons_succ, List.setIfInBounds_toArray, List.set_cons_zero, List.set_cons_succ]
            refine wpAnyH_take (i := 2) (oi := _) (v := _) rfl (by kernel_rfl) (by kernel_rfl) (by kernel_rfl) (fun _ _ _ h => h) (Or.inl ⟨by rfl, by (intro w hSw; (try dsimp only at hSw); go_simp; try with_reducible rfl)⟩) hHeld ?_
            simp only [Act.put, List.getElem_toArray, List.getElem_cons_zero, List.getElem_cons_succ, List.setIfInBounds_toArray, List.set_cons_zero, List.set_cons_succ]
            refine wpAnyH_take (i := 3) (oi := _) (v := _) rfl (by kernel_rfl) (by kernel_rfl) (by kernel_rfl) (fun _ _ _ h => h) (Or.inl ⟨by rfl, by (intro w hSw; (try dsimp only at hSw); go_simp; try with_reducible rfl)⟩) hHeld ?_
            simp only [Act.put, List.getElem_toArray, List.getElem_cons_zero, List.getElem_cons_succ, List.setIfInBounds_toArray, List.set_cons_zero, List.set_cons_succ]
            refine wpAnyH_take (i := 4) (oi := _) (v := _) rfl (by kernel_rfl) (by kernel_rfl) (by kernel_rfl) (fun _ _ _ h => h) (Or.inl ⟨by rfl, by (intro w hSw; (try dsimp only at hSw); go_simp; try with_reducible rfl)⟩) hHeld ?_
            simp only [Act.put, List.getElem_toArray, List.getElem_cons_zero, List.getElem_cons_succ, List.setIfInBounds_toArray, List.set_cons_zero, List.set_cons_succ]
            refine wpAnyH_ready (rs := [5]) (by kernel_rfl) (by simp) ?_
            refine AllReadyH.cons rfl (fun K hK => ?_) AllReadyH.nil
            go_simp
            refine hK.out _ _ trivial (fun hNew => ?_)
            clear hK K hNew
            refine wpAnyH_ready (rs := [6]) (by kernel_rfl) (by simp) ?_
            refine AllReadyH.cons rfl (fun K hK => ?_) AllReadyH.nil
            go_simp
            refine (step_calls YT.out YF.out (by omega) k a f n OP.out.1 A4 c4 l (fun w' hw' => OP.out.2.2.2 w' (YB.out.1.trans (hw'.mono BS.out))) OP.out.2.1 OP.out.2.2.1).mono ?_
            rintro e w2 ⟨rfl, ⟨S2, hT, hF⟩, hB⟩
            have YB2 := Aside0.mk (And.intro (YB.out.1.trans (hB.mono BS.out)) (Nat.le_trans YB.out.2 hB.size))
            have YT2 := Aside0.mk (show ∃ S, Two w2 (pB wa.heap.size) g r S S ∧ Fit 64 (i + 1) S from ⟨S2, hT, hF⟩)
            have DB2 := Aside0.mk (hT.devB hF (by omega) YB2.out.2)
            obtain ⟨vl, vt, vw, hw⟩ := hT.w
            obtain ⟨⟨Al, cl, rfl⟩, ⟨At, ct, rfl⟩, ⟨Aw, cw, rfl⟩⟩ := hw.slices
            obtain ⟨-, -, r2, -, -, -⟩ := hw.cells
            obtain ⟨n2, hn2⟩ : ∃ n2, n2 = S2.waits.length := ⟨_, rfl⟩
            rw [← hn2] at r2
            have N2 := Aside0.mk hn2
            clear hT hF hB hw hn2
            go_simp
            refine hK.out _ _ trivial (fun hNew => ?_)
            clear hK K hNew
            refine wpAnyH_take (i := 7) (oi := _) (v := _) rfl (by kernel_rfl) (by kernel_rfl) (by kernel_rfl) (fun _ _ _ h => h) (Or.inl ⟨by rfl, by (intro w hSw; (try dsimp only at hSw); go_simp; try with_reducible rfl)⟩) hHeld ?_
            simp only [Act.put, List.getElem_toArray, List.getElem_cons_zero, List.getElem_cons_succ, List.setIfInBounds_toArray, List.set_cons_zero, List.set_cons_succ]
            refine wpAnyH_take (i := 8) (oi := _) (v := _) rfl (by kernel_rfl) (by kernel_rfl) (by kernel_rfl) (fun _ _ _ h => h) (Or.inl ⟨by rfl, by (intro w hSw; (try dsimp only at hSw); go_simp; try with_reducible rfl)⟩) hHeld ?_
            simp only [Act.put, List.getElem_toArray, List.getElem_cons_zero, List.getElem_cons_succ, List.setIfInBounds_toArray, List.set_cons_zero, List.set_cons_succ]
            refine wpAnyH_take (i := 9) (oi := _) (v := _) rfl (by kernel_rfl) (by kernel_rfl) (by kernel_rfl) (fun _ _ _ h => h) (Or.inl ⟨by rfl, by (intro w hSw; (try dsimp only at hSw); go_simp; try with_reducible rfl)⟩) hHeld ?_
            simp only [Act.put, List.getElem_toArray, List.getElem_cons_zero, List.getElem_cons_succ, List.setIfInBounds_toArray, List.set_cons_zero, List.set_cons_succ]
            refine wpAnyH_take (i := 11) (oi := _) (v := _) rfl (by kernel_rfl) (by kernel_rfl) (by kernel_rfl) (fun _ _ _ h => h) (Or.inl ⟨by rfl, by (intro w hSw; (try dsimp only at hSw); go_simp; try with_reducible rfl)⟩) hHeld ?_
            simp only [Act.put, List.getElem_toArray, List.getElem_cons_zero, List.getElem_cons_succ, List.setIfInBounds_toArray, List.set_cons_zero, List.set_cons_succ]
            refine wpAnyH_take (i := 12) (oi := _) (v := _) rfl (by kernel_rfl) (by kernel_rfl) (by kernel_rfl) (fun _ _ _ h => h) (Or.inl ⟨by rfl, by (intro w hSw; (try dsimp only at hSw); go_simp; try with_reducible rfl)⟩) hHeld ?_
            simp only [Act.put, List.getElem_toArray, List.getElem_cons_zero, List.getElem_cons_succ, List.setIfInBounds_toArray, List.set_cons_zero, List.set_cons_succ]
            refine wpAnyH_take (i := 13) (oi := _) (v := _) rfl (by kernel_rfl) (by kernel_rfl) (by kernel_rfl) (fun _ _ _ h => h) (Or.inl ⟨by rfl, by (intro w hSw; (try dsimp only at hSw); go_simp; try with_reducible rfl)⟩) hHeld ?_
            simp only [Act.put, List.getElem_toArray, List.getElem_cons_zero, List.getElem_cons_succ, List.setIfInBounds_toArray, List.set_cons_zero, List.set_cons_succ]
            refine wpAnyH_ready (rs := [10, 14]) (by kernel_rfl) (by simp) ?_
            refine (AllReadyH.cons rfl (fun K hK => ?_) (AllReadyH.cons rfl (fun K hK => ?_) AllReadyH.nil))
            · go_simp
              refine (devB_pending DB2.out n2 N2.out.symm).mono ?_
              rintro e w3 ⟨rfl, rfl⟩
              go_simp
              refine hK.out _ _ trivial (fun hNew => ?_)
              clear hK K hNew
              refine wpAnyH_ready (rs := [14]) (by kernel_rfl) (by simp) ?_
              refine AllReadyH.cons rfl (fun K hK => ?_) AllReadyH.nil
              go_simp
              refine hK.out _ _ trivial (fun hNew => ?_)
              clear hK K hNew
              refine wpAnyH_take (i := 15) (oi := _) (v := _) rfl (by kernel_rfl) (by kernel_rfl) (by kernel_rfl) (fun _ _ _ h => h) (Or.inl ⟨by rfl, by (intro w hSw; (try dsimp only at hSw); go_simp; try with_reducible rfl)⟩) hHeld ?_
              simp only [Act.put, List.getElem_toArray, List.getElem_cons_zero, List.getElem_cons_succ, List.setIfInBounds_toArray, List.set_cons_zero, List.set_cons_succ]
              refine wpAnyH_take (i := 16) (oi := _) (v := _) rfl (by kernel_rfl) (by kernel_rfl) (by kernel_rfl) (fun _ _ _ h => h) (Or.inl ⟨by rfl, by (intro w hSw; (try dsimp only at hSw); go_simp; try with_reducible rfl)⟩) hHeld ?_
              simp only [Act.put, List.getElem_toArray, List.getElem_cons_zero, List.getElem_cons_succ, List.setIfInBounds_toArray, List.set_cons_zero, List.set_cons_succ]
              refine wpAnyH_take (i := 17) (oi := _) (v := _) rfl (by kernel_rfl) (by kernel_rfl) (by kernel_rfl) (fun _ _ _ h => h) (Or.inl ⟨by rfl, by (intro w hSw; (try dsimp only at hSw); go_simp; try with_reducible rfl)⟩) hHeld ?_
              simp only [Act.put, List.getElem_toArray, List.getElem_cons_zero, List.getElem_cons_succ, List.setIfInBounds_toArray, List.set_cons_zero, List.set_cons_succ]
              refine wpAnyH_done (by kernel_rfl) ?_ _
              go_wp2_with fail
              exact ⟨⟨i + 1, hlt, hlt2, rfl, YT2, YB2⟩, HM.out⟩
            · go_simp
              refine hK.out _ _ trivial (fun hNew => ?_)
              clear hK K hNew
              refine wpAnyH_take (i := 15) (oi := _) (v := _) rfl (by kernel_rfl) (by kernel_rfl) (by kernel_rfl) (fun _ _ _ h => h) (Or.inl ⟨by rfl, by (intro w hSw; (try dsimp only at hSw); go_simp; try with_reducible rfl)⟩) hHeld ?_
              simp only [Act.put, List.getElem_toArray, List.getElem_cons_zero, List.getElem_cons_succ, List.setIfInBounds_toArray, List.set_cons_zero, List.set_cons_succ]
              refine wpAnyH_ready (rs := [10]) (by kernel_rfl) (by simp) ?_
              refine AllReadyH.cons rfl (fun K hK => ?_) AllReadyH.nil
              go_simp
              refine (devB_pending DB2.out n2 N2.out.symm).mono ?_
              rintro e w3 ⟨rfl, rfl⟩
              go_simp
              refine hK.out _ _ trivial (fun hNew => ?_)
              clear hK K hNew
              refine wpAnyH_take (i := 16) (oi := _) (v := _) rfl (by kernel_rfl) (by kernel_rfl) (by kernel_rfl) (fun _ _ _ h => h) (Or.inl ⟨by rfl, by (intro w hSw; (try dsimp only at hSw); go_simp; try with_reducible rfl)⟩) hHeld ?_
              simp only [Act.put, List.getElem_toArray, List.getElem_cons_zero, List.getElem_cons_succ, List.setIfInBounds_toArray, List.set_cons_zero, List.set_cons_succ]
              refine wpAnyH_take (i := 17) (oi := _) (v := _) rfl (by kernel_rfl) (by kernel_rfl) (by kernel_rfl) (fun _ _ _ h => h) (Or.inl ⟨by rfl, by (intro w hSw; (try dsimp only at hSw); go_simp; try with_reducible rfl)⟩) hHeld ?_
              simp only [Act.put, List.getElem_toArray, List.getElem_cons_zero, List.getElem_cons_succ, List.setIfInBounds_toArray, List.set_cons_zero, List.set_cons_succ]
              refine wpAnyH_done (by kernel_rfl) ?_ _
              go_wp2_with fail
              exact ⟨⟨i + 1, hlt, hlt2, rfl, YT2, YB2⟩, HM.out⟩
          · have d2 : decide ((i : Int) < 200) = false := decide_eq_false (by omega)
            go_wp2_with fail
            go_loopw [12] (fun v w' => ∃ j : Nat, j ≤ 64 ∧ v = .int .i64 (j : Int) ∧ Aside0 (∃ S, Two w' (pB wa.heap.size) g r S S ∧ Fit 64 (200 + j) S) ∧ Aside0 (Below w.heap.size w w' ∧ wa.heap.size ≤ w'.heap.size)) (fun v _ => ((64 : Int) - intOf v).toNat)
            case atStart => exact ⟨0, Nat.zero_le _, rfl, ⟨by
                obtain ⟨S, hT, hF⟩ := YT.out
                exact ⟨S, hT, hF.mono (by omega)⟩⟩, YB⟩
            case round =>
              obtain ⟨j, hj, rfl, ZT, ZB⟩ := hrel
              by_cases hlt3 : j < 64
              · have d3 : decide ((j : Int) < 64) = true := decide_eq_true (by omega)
                have HM : Aside0 (((64 : Int) - intOf (.int .i64 ((j + 1 : Nat) : Int))).toNat < ((64 : Int) - intOf (.int .i64 (j : Int))).toNat) := ⟨by simp [intOf]; omega⟩
                have HW := Aside0.mk (wrap_suc j (by omega))
                obtain ⟨⟨S, hT, hF⟩⟩ := ZT
                have YT := Aside0.mk hT
                have YF := Aside0.mk hF
                clear hT hF
                go_wp2_with fail
                refine (step_calls YT.out YF.out (by omega) 1 (j : Int) 0 0 (by decide) none 0 [] (fun w' hw' => ⟨rfl, by simp, fun h => absurd h (by simp)⟩) (Nat.le_refl _) (by simp)).mono ?_
                rintro e w2 ⟨rfl, hS, hB⟩
                have YB2 := Aside0.mk (And.intro (ZB.out.1.trans (hB.mono BS.out)) (Nat.le_trans ZB.out.2 hB.size))
                have YT2 := Aside0.mk (show ∃ S, Two w2 (pB wa.heap.size) g r S S ∧ Fit 64 (200 + (j + 1)) S from by
                  obtain ⟨S, hT, hF⟩ := hS
                  exact ⟨S, hT, hF⟩)
                clear hS hB
                go_wp2_with fail
                exact ⟨⟨j + 1, hlt3, rfl, YT2, YB2⟩, HM.out⟩
              · have d3 : decide ((j : Int) < 64) = false := decide_eq_false (by omega)
                go_wp2_with fail
                go_ret
                exact ⟨rfl, ZB.out.1⟩
        · have d1 : decide (i < l1.length) = false := decide_eq_false hlt
          go_wp2_with fail
          go_loopw [12] (fun v w' => ∃ j : Nat, j ≤ 64 ∧ v = .int .i64 (j : Int) ∧ Aside0 (∃ S, Two w' (pB wa.heap.size) g r S S ∧ Fit 64 (200 + j) S) ∧ Aside0 (Below w.heap.size w w' ∧ wa.heap.size ≤ w'.heap.size)) (fun v _ => ((64 : Int) - intOf v).toNat)
          case atStart => exact ⟨0, Nat.zero_le _, rfl, ⟨by
              obtain ⟨S, hT, hF⟩ := YT.out
              exact ⟨S, hT, hF.mono (by omega)⟩⟩, YB⟩
          case round =>
            obtain ⟨j, hj, rfl, ZT, ZB⟩ := hrel
            by_cases hlt3 : j < 64
            · have d3 : decide ((j : Int) < 64) = true := decide_eq_true (by omega)
              have HM : Aside0 (((64 : Int) - intOf (.int .i64 ((j + 1 : Nat) : Int))).toNat < ((64 : Int) - intOf (.int .i64 (j : Int))).toNat) := ⟨by simp [intOf]; omega⟩
              have HW := Aside0.mk (wrap_suc j (by omega))
              obtain ⟨⟨S, hT, hF⟩⟩ := ZT
              have YT := Aside0.mk hT
              have YF := Aside0.mk hF
              clear hT hF
              go_wp2_with fail
              refine (step_calls YT.out YF.out (by omega) 1 (j : Int) 0 0 (by decide) none 0 [] (fun w' hw' => ⟨rfl, by simp, fun h => absurd h (by simp)⟩) (Nat.le_refl _) (by simp)).mono ?_
              rintro e w2 ⟨rfl, hS, hB⟩
              have YB2 := Aside0.mk (And.intro (ZB.out.1.trans (hB.mono BS.out)) (Nat.le_trans ZB.out.2 hB.size))
              have YT2 := Aside0.mk (show ∃ S, Two w2 (pB wa.heap.size) g r S S ∧ Fit 64 (200 + (j + 1)) S from by
                obtain ⟨S, hT, hF⟩ := hS
                exact ⟨S, hT, hF⟩)
              clear hS hB
              go_wp2_with fail
              exact ⟨⟨j + 1, hlt3, rfl, YT2, YB2⟩, HM.out⟩
            · have d3 : decide ((j : Int) < 64) = false := decide_eq_false (by omega)
              go_wp2_with fail
              go_ret
              exact ⟨rfl, ZB.out.1⟩
    · obtain ⟨m, rfl⟩ : ∃ m : Nat, x0 = (m : Int) := ⟨x0.toNat, by omega⟩
      have e1 : decide (64 < (m : Int)) = false := decide_eq_false h64
      have hm1 : 1 ≤ m := by omega
      have hm2 : m ≤ 64 := by omega
      clear hbad h64
      go_enter Try.func8, Try.ntmps8
      go_wp2_with fail
      refine (known_calls w).mono ?_
      rintro e wa ⟨rfl, hB⟩
      have BA := Aside0.mk hB
      clear hB
      go_wp2_with fail
      refine (devB_new m hm1 (Nat.le_trans hm2 (by decide)) wa (m : Int) rfl).mono ?_
      rintro e wb ⟨g, rfl, hD, hB⟩
      have DB := Aside0.mk hD
      have BB := Aside0.mk (BA.out.trans (hB.mono BA.out.size))
      have BS := Aside0.mk BA.out.size
      clear hD hB
      go_wp2_with fail
      refine (ref_new m hm1 (Nat.le_trans hm2 (by decide)) wb (m : Int) rfl).mono ?_
      rintro e wc ⟨r, rfl, hR, hB⟩
      have TT := Aside0.mk (Two.new DB.out hR hB)
      have BC := Aside0.mk (BB.out.trans (hB.mono BB.out.size))
      have BS2 := Aside0.mk (Nat.le_trans DB.out.b hB.size)
      clear hR hB
      go_wp2_with fail
      go_loopw [11] (fun v w' => ∃ i : Nat, i ≤ l1.length ∧ i ≤ 200 ∧ v = .int .i64 (i : Int) ∧ Aside0 (∃ S, Two w' (pB wa.heap.size) g r S S ∧ Fit m i S) ∧ Aside0 (Below w.heap.size w w' ∧ wa.heap.size ≤ w'.heap.size)) (fun v _ => ((200 : Int) - intOf v).toNat)
      case atStart => exact ⟨0, Nat.zero_le _, Nat.zero_le _, rfl, ⟨_, TT.out, .new (Nat.le_trans hm2 (by decide)) 0⟩, ⟨BC.out, BS2.out⟩⟩
      case round =>
        obtain ⟨i, hi, hi40, rfl, YT, YB⟩ := hrel
        clear DB BB TT BC BS2
        by_cases hlt : i < l1.length
        · have d1 : decide (i < l1.length) = true := decide_eq_true hlt
          by_cases hlt2 : i < 200
          · have d2 : decide ((i : Int) < 200) = true := decide_eq_true (by omega)
            have p1 : (0 : Int) ≤ (i : Int) := Int.natCast_nonneg _
            have p2 : (i : Int) < (l1.length : Int) := Int.ofNat_lt.2 hlt
            obtain ⟨ad, k, a, f, n, A4, c4, l, hA, k0, k1, k2, k3, k4, OP⟩ := op44 R0.out W0.out YB.out.1 i hlt
            subst hA
            have HM : Aside0 (((200 : Int) - intOf (.int .i64 ((i + 1 : Nat) : Int))).toNat < ((200 : Int) - intOf (.int .i64 (i : Int))).toNat) := ⟨by simp [intOf]; omega⟩
            have HW := Aside0.mk (wrap_suc i (by omega))
            obtain ⟨⟨S, hT, hF⟩⟩ := YT
            have YT := Aside0.mk (hT.below (Below.refl wr.heap.size wr).drew)
            have YF := Aside0.mk hF
            have YB := Aside0.mk (And.intro (YB.out.1.trans ((Below.refl wr.heap.size wr).drew.mono YB.out.1.size)) YB.out.2)
            clear hT hF
            go_wp2_with fail
            refine wp_region_held_drew (S := fun _ => True) (by kernel_rfl) trivial (fun hHeld => ?_)
            refine wpAnyH_take (i := 0) (oi := _) (v := _) rfl (by kernel_rfl) (by kernel_rfl) (by kernel_rfl) (fun _ _ _ h => h) (Or.inl ⟨by rfl, by (intro w hSw; (try dsimp only at hSw); go_simp; try with_reducible rfl)⟩) hHeld ?_
            simp only [Act.put, List.getElem_toArray, List.getElem_cons_zero, List.getElem_cons_succ, List.setIfInBounds_toArray, List.set_cons_zero, List.set_cons_succ]
            refine wpAnyH_take (i := 1) (oi := _) (v := _) rfl (by kernel_rfl) (by kernel_rfl) (by kernel_rfl) (fun _ _ _ h => h) (Or.inl ⟨by rfl, by (intro w hSw; (try dsimp only at hSw); go_simp; try with_reducible rfl)⟩) hHeld ?_
            simp only [Act.put, List.getElem_toArray, List.getElem_cons_zero, List.getElem_cons_succ, List.setIfInBounds_toArray, List.set_cons_zero, List.set_cons_succ]
            refine wpAnyH_take (i := 2) (oi := _) (v := _) rfl (by kernel_rfl) (by kernel_rfl) (by kernel_rfl) (fun _ _ _ h => h) (Or.inl ⟨by rfl, by (intro w hSw; (try dsimp only at hSw); go_simp; try with_reducible rfl)⟩) hHeld ?_
            simp only [Act.put, List.getElem_toArray, List.getElem_cons_zero, List.getElem_cons_succ, List.setIfInBounds_toArray, List.set_cons_zero, List.set_cons_succ]
            refine wpAnyH_take (i := 3) (oi := _) (v := _) rfl (by kernel_rfl) (by kernel_rfl) (by kernel_rfl) (fun _ _ _ h => h) (Or.inl ⟨by rfl, by (intro w hSw; (try dsimp only at hSw); go_simp; try with_reducible rfl)⟩) hHeld ?_
            simp only [Act.put, List.getElem_toArray, List.getElem_cons_zero, List.getElem_cons_succ, List.setIfInBounds_toArray, List.set_cons_zero, List.set_cons_succ]
            refine wpAnyH_take (i := 4) (oi := _) (v := _) rfl (by kernel_rfl) (by kernel_rfl) (by kernel_rfl) (fun _ _ _ h => h) (Or.inl ⟨by rfl, by (intro w hSw; (try dsimp only at hSw); go_simp; try with_reducible rfl)⟩) hHeld ?_
            simp only [Act.put, List.getElem_toArray, List.getElem_cons_zero, List.getElem_cons_succ, List.setIfInBounds_toArray, List.set_cons_zero, List.set_cons_succ]
            refine wpAnyH_ready (rs := [5]) (by kernel_rfl) (by simp) ?_
            refine AllReadyH.cons rfl (fun K hK => ?_) AllReadyH.nil
            go_simp
            refine hK.out _ _ trivial (fun hNew => ?_)
            clear hK K hNew
            refine wpAnyH_ready (rs := [6]) (by kernel_rfl) (by simp) ?_
            refine AllReadyH.cons rfl (fun K hK => ?_) AllReadyH.nil
            go_simp
            refine (step_calls YT.out YF.out (by omega) k a f n OP.out.1 A4 c4 l (fun w' hw' => OP.out.2.2.2 w' (YB.out.1.trans (hw'.mono BS.out))) OP.out.2.1 OP.out.2.2.1).mono ?_
            rintro e w2 ⟨rfl, ⟨S2, hT, hF⟩, hB⟩
            have YB2 := Aside0.mk (And.intro (YB.out.1.trans (hB.mono BS.out)) (Nat.le_trans YB.out.2 hB.size))
            have YT2 := Aside0.mk (show ∃ S, Two w2 (pB wa.heap.size) g r S S ∧ Fit m (i + 1) S from ⟨S2, hT, hF⟩)
            have DB2 := Aside0.mk (hT.devB hF (by omega) YB2.out.2)
            obtain ⟨vl, vt, vw, hw⟩ := hT.w
            obtain ⟨⟨Al, cl, rfl⟩, ⟨At, ct, rfl⟩, ⟨Aw, cw, rfl⟩⟩ := hw.slices
            obtain ⟨-, -, r2, -, -, -⟩ := hw.cells
            obtain ⟨n2, hn2⟩ : ∃ n2, n2 = S2.waits.length := ⟨_, rfl⟩
            rw [← hn2] at r2
            have N2 := Aside0.mk hn2
            clear hT hF hB hw hn2
            go_simp
            refine hK.out _ _ trivial (fun hNew => ?_)
            clear hK K hNew
            refine wpAnyH_take (i := 7) (oi := _) (v := _) rfl (by kernel_rfl) (by kernel_rfl) (by kernel_rfl) (fun _ _ _ h => h) (Or.inl ⟨by rfl, by (intro w hSw; (try dsimp only at hSw); go_simp; try with_reducible rfl)⟩) hHeld ?_
            simp only [Act.put, List.getElem_toArray, List.getElem_cons_zero, List.getElem_cons_succ, List.setIfInBounds_toArray, List.set_cons_zero, List.set_cons_succ]
            refine wpAnyH_take (i := 8) (oi := _) (v := _) rfl (by kernel_rfl) (by kernel_rfl) (by kernel_rfl) (fun _ _ _ h => h) (Or.inl ⟨by rfl, by (intro w hSw; (try dsimp only at hSw); go_simp; try with_reducible rfl)⟩) hHeld ?_
            simp only [Act.put, List.getElem_toArray, List.getElem_cons_zero, List.getElem_cons_succ, List.setIfInBounds_toArray, List.set_cons_zero, List.set_cons_succ]
            refine wpAnyH_take (i := 9) (oi := _) (v := _) rfl (by kernel_rfl) (by kernel_rfl) (by kernel_rfl) (fun _ _ _ h => h) (Or.inl ⟨by rfl, by (intro w hSw; (try dsimp only at hSw); go_simp; try with_reducible rfl)⟩) hHeld ?_
            simp only [Act.put, List.getElem_toArray, List.getElem_cons_zero, List.getElem_cons_succ, List.setIfInBounds_toArray, List.set_cons_zero, List.set_cons_succ]
            refine wpAnyH_take (i := 11) (oi := _) (v := _) rfl (by kernel_rfl) (by kernel_rfl) (by kernel_rfl) (fun _ _ _ h => h) (Or.inl ⟨by rfl, by (intro w hSw; (try dsimp only at hSw); go_simp; try with_reducible rfl)⟩) hHeld ?_
            simp only [Act.put, List.getElem_toArray, List.getElem_cons_zero, List.getElem_cons_succ, List.setIfInBounds_toArray, List.set_cons_zero, List.set_cons_succ]
            refine wpAnyH_take (i := 12) (oi := _) (v := _) rfl (by kernel_rfl) (by kernel_rfl) (by kernel_rfl) (fun _ _ _ h => h) (Or.inl ⟨by rfl, by (intro w hSw; (try dsimp only at hSw); go_simp; try with_reducible rfl)⟩) hHeld ?_
            simp only [Act.put, List.getElem_toArray, List.getElem_cons_zero, List.getElem_cons_succ, List.setIfInBounds_toArray, List.set_cons_zero, List.set_cons_succ]
            refine wpAnyH_take (i := 13) (oi := _) (v := _) rfl (by kernel_rfl) (by kernel_rfl) (by kernel_rfl) (fun _ _ _ h => h) (Or.inl ⟨by rfl, by (intro w hSw; (try dsimp only at hSw); go_simp; try with_reducible rfl)⟩) hHeld ?_
            simp only [Act.put, List.getElem_toArray, List.getElem_cons_zero, List.getElem_cons_succ, List.setIfInBounds_toArray, List.set_cons_zero, List.set_cons_succ]
            refine wpAnyH_ready (rs := [10, 14]) (by kernel_rfl) (by simp) ?_
            refine (AllReadyH.cons rfl (fun K hK => ?_) (AllReadyH.cons rfl (fun K hK => ?_) AllReadyH.nil))
            · go_simp
              refine (devB_pending DB2.out n2 N2.out.symm).mono ?_
              rintro e w3 ⟨rfl, rfl⟩
              go_simp
              refine hK.out _ _ trivial (fun hNew => ?_)
              clear hK K hNew
              refine wpAnyH_ready (rs := [14]) (by kernel_rfl) (by simp) ?_
              refine AllReadyH.cons rfl (fun K hK => ?_) AllReadyH.nil
              go_simp
              refine hK.out _ _ trivial (fun hNew => ?_)
              clear hK K hNew
              refine wpAnyH_take (i := 15) (oi := _) (v := _) rfl (by kernel_rfl) (by kernel_rfl) (by kernel_rfl) (fun _ _ _ h => h) (Or.inl ⟨by rfl, by (intro w hSw; (try dsimp only at hSw); go_simp; try with_reducible rfl)⟩) hHeld ?_
              simp only [Act.put, List.getElem_toArray, List.getElem_cons_zero, List.getElem_cons_succ, List.setIfInBounds_toArray, List.set_cons_zero, List.set_cons_succ]
              refine wpAnyH_take (i := 16) (oi := _) (v := _) rfl (by kernel_rfl) (by kernel_rfl) (by kernel_rfl) (fun _ _ _ h => h) (Or.inl ⟨by rfl, by (intro w hSw; (try dsimp only at hSw); go_simp; try with_reducible rfl)⟩) hHeld ?_
              simp only [Act.put, List.getElem_toArray, List.getElem_cons_zero, List.getElem_cons_succ, List.setIfInBounds_toArray, List.set_cons_zero, List.set_cons_succ]
              refine wpAnyH_take (i := 17) (oi := _) (v := _) rfl (by kernel_rfl) (by kernel_rfl) (by kernel_rfl) (fun _ _ _ h => h) (Or.inl ⟨by rfl, by (intro w hSw; (try dsimp only at hSw); go_simp; try with_reducible rfl)⟩) hHeld ?_
              simp only [Act.put, List.getElem_toArray, List.getElem_cons_zero, List.getElem_cons_succ, List.setIfInBounds_toArray, List.set_cons_zero, List.set_cons_succ]
              refine wpAnyH_done (by kernel_rfl) ?_ _
              go_wp2_with fail
              exact ⟨⟨i + 1, hlt, hlt2, rfl, YT2, YB2⟩, HM.out⟩
            · go_simp
              refine hK.out _ _ trivial (fun hNew => ?_)
              clear hK K hNew
              refine wpAnyH_take (i := 15) (oi := _) (v := _) rfl (by kernel_rfl) (by kernel_rfl) (by kernel_rfl) (fun _ _ _ h => h) (Or.inl ⟨by rfl, by (intro w hSw; (try dsimp only at hSw); go_simp; try with_reducible rfl)⟩) hHeld ?_
              simp only [Act.put, List.getElem_toArray, List.getElem_cons_zero, List.getElem_cons_succ, List.setIfInBounds_toArray, List.set_cons_zero, List.set_cons_succ]
              refine wpAnyH_ready (rs := [10]) (by kernel_rfl) (by simp) ?_
              refine AllReadyH.cons rfl (fun K hK => ?_) AllReadyH.nil
              go_simp
              refine (devB_pending DB2.out n2 N2.out.symm).mono ?_
              rintro e w3 ⟨rfl, rfl⟩
              go_simp
              refine hK.out _ _ trivial (fun hNew => ?_)
              clear hK K hNew
              refine wpAnyH_take (i := 16) (oi := _) (v := _) rfl (by kernel_rfl) (by kernel_rfl) (by kernel_rfl) (fun _ _ _ h => h) (Or.inl ⟨by rfl, by (intro w hSw; (try dsimp only at hSw); go_simp; try with_reducible rfl)⟩) hHeld ?_
              simp only [Act.put, List.getElem_toArray, List.getElem_cons_zero, List.getElem_cons_succ, List.setIfInBounds_toArray, List.set_cons_zero, List.set_cons_succ]
              refine wpAnyH_take (i := 17) (oi := _) (v := _) rfl (by kernel_rfl) (by kernel_rfl) (by kernel_rfl) (fun _ _ _ h => h) (Or.inl ⟨by rfl, by (intro w hSw; (try dsimp only at hSw); go_simp; try with_reducible rfl)⟩) hHeld ?_
              simp only [Act.put, List.getElem_toArray, List.getElem_cons_zero, List.getElem_cons_succ, List.setIfInBounds_toArray, List.set_cons_zero, List.set_cons_succ]
              refine wpAnyH_done (by kernel_rfl) ?_ _
              go_wp2_with fail
              exact ⟨⟨i + 1, hlt, hlt2, rfl, YT2, YB2⟩, HM.out⟩
          · have d2 : decide ((i : Int) < 200) = false := decide_eq_false (by omega)
            go_wp2_with fail
            go_loopw [12] (fun v w' => ∃ j : Nat, j ≤ m ∧ v = .int .i64 (j : Int) ∧ Aside0 (∃ S, Two w' (pB wa.heap.size) g r S S ∧ Fit m (200 + j) S) ∧ Aside0 (Below w.heap.size w w' ∧ wa.heap.size ≤ w'.heap.size)) (fun v _ => ((m : Int) - intOf v).toNat)
            case atStart => exact ⟨0, Nat.zero_le _, rfl, ⟨by
                obtain ⟨S, hT, hF⟩ := YT.out
                exact ⟨S, hT, hF.mono (by omega)⟩⟩, YB⟩
            case round =>
              obtain ⟨j, hj, rfl, ZT, ZB⟩ := hrel
              by_cases hlt3 : j < m
              · have d3 : decide (j < m) = true := decide_eq_true (by omega)
                have HM : Aside0 (((m : Int) - intOf (.int .i64 ((j + 1 : Nat) : Int))).toNat < ((m : Int) - intOf (.int .i64 (j : Int))).toNat) := ⟨by simp [intOf]; omega⟩
                have HW := Aside0.mk (wrap_suc j (by omega))
                obtain ⟨⟨S, hT, hF⟩⟩ := ZT
                have YT := Aside0.mk hT
                have YF := Aside0.mk hF
                clear hT hF
                go_wp2_with fail
                refine (step_calls YT.out YF.out (by omega) 1 (j : Int) 0 0 (by decide) none 0 [] (fun w' hw' => ⟨rfl, by simp, fun h => absurd h (by simp)⟩) (Nat.le_refl _) (by simp)).mono ?_
                rintro e w2 ⟨rfl, hS, hB⟩
                have YB2 := Aside0.mk (And.intro (ZB.out.1.trans (hB.mono BS.out)) (Nat.le_trans ZB.out.2 hB.size))
                have YT2 := Aside0.mk (show ∃ S, Two w2 (pB wa.heap.size) g r S S ∧ Fit m (200 + (j + 1)) S from by
                  obtain ⟨S, hT, hF⟩ := hS
                  exact ⟨S, hT, hF⟩)
                clear hS hB
                go_wp2_with fail
                exact ⟨⟨j + 1, hlt3, rfl, YT2, YB2⟩, HM.out⟩
              · have d3 : decide (j < m) = false := decide_eq_false (by omega)
                go_wp2_with fail
                go_ret
                exact ⟨rfl, ZB.out.1⟩
        · have d1 : decide (i < l1.length) = false := decide_eq_false hlt
          go_wp2_with fail
          go_loopw [12] (fun v w' => ∃ j : Nat, j ≤ m ∧ v = .int .i64 (j : Int) ∧ Aside0 (∃ S, Two w' (pB wa.heap.size) g r S S ∧ Fit m (200 + j) S) ∧ Aside0 (Below w.heap.size w w' ∧ wa.heap.size ≤ w'.heap.size)) (fun v _ => ((m : Int) - intOf v).toNat)
          case atStart => exact ⟨0, Nat.zero_le _, rfl, ⟨by
              obtain ⟨S, hT, hF⟩ := YT.out
              exact ⟨S, hT, hF.mono (by omega)⟩⟩, YB⟩
          case round =>
            obtain ⟨j, hj, rfl, ZT, ZB⟩ := hrel
            by_cases hlt3 : j < m
            · have d3 : decide (j < m) = true := decide_eq_true (by omega)
              have HM : Aside0 (((m : Int) - intOf (.int .i64 ((j + 1 : Nat) : Int))).toNat < ((m : Int) - intOf (.int .i64 (j : Int))).toNat) := ⟨by simp [intOf]; omega⟩
              have HW := Aside0.mk (wrap_suc j (by omega))
              obtain ⟨⟨S, hT, hF⟩⟩ := ZT
              have YT := Aside0.mk hT
              have YF := Aside0.mk hF
              clear hT hF
              go_wp2_with fail
              refine (step_calls YT.out YF.out (by omega) 1 (j : Int) 0 0 (by decide) none 0 [] (fun w' hw' => ⟨rfl, by simp, fun h => absurd h (by simp)⟩) (Nat.le_refl _) (by simp)).mono ?_
              rintro e w2 ⟨rfl, hS, hB⟩
              have YB2 := Aside0.mk (And.intro (ZB.out.1.trans (hB.mono BS.out)) (Nat.le_trans ZB.out.2 hB.size))
              have YT2 := Aside0.mk (show ∃ S, Two w2 (pB wa.heap.size) g r S S ∧ Fit m (200 + (j + 1)) S from by
                obtain ⟨S, hT, hF⟩ := hS
                exact ⟨S, hT, hF⟩)
              clear hS hB
              go_wp2_with fail
              exact ⟨⟨j + 1, hlt3, rfl, YT2, YB2⟩, HM.out⟩
            · have d3 : decide (j < m) = false := decide_eq_false (by omega)
              go_wp2_with fail
              go_ret
              exact ⟨rfl, ZB.out.1⟩

end Go.Proofs.Ytgakjpnfbgmjjaa.PA
