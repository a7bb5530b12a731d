/- Texts of this claim: contracts of the functions that the statement reaches, and plain laws of what they compute. -/
import Derived.Test.YtmkkeccmjejfnaaDoorQDecodes4
set_option linter.unusedVariables false
set_option linter.unusedSimpArgs false
namespace Go.Proofs.YtmkkeccmjejfnaaDoor.PA
section

open Go.RowKit Go.Proofs.YtmkkeccmjejfnaaDoorW.PrintWords Go.Proofs.YtmkkeccmjejfnaaDoorW.PrintLast Go.Proofs.YtmkkeccmjejfnaaDoorW.PrintMore
set_option linter.unusedVariables false
set_option linter.unusedSimpArgs false
theorem box3 {W : World} {g : Nat} {t : TypeId} {c0 c1 c2 : Value} (h : W.heap[g]? = some (.cells #[c0, c1, c2] t (0, 0))) : (W.cell? ⟨g, 0, none⟩ = some c0 ∧ W.frozen? ⟨g, 0, none⟩ = false) ∧ (W.cell? ⟨g, 1, none⟩ = some c1 ∧ W.frozen? ⟨g, 1, none⟩ = false) ∧ (W.cell? ⟨g, 2, none⟩ = some c2 ∧ W.frozen? ⟨g, 2, none⟩ = false) := ⟨⟨(blk_cell h 0).trans rfl, blk_frozen h 0⟩, ⟨(blk_cell h 1).trans rfl, blk_frozen h 1⟩, ⟨(blk_cell h 2).trans rfl, blk_frozen h 2⟩⟩
theorem box2 {W : World} {g : Nat} {t : TypeId} {c0 c1 : Value} (h : W.heap[g]? = some (.cells #[c0, c1] t (0, 0))) : (W.cell? ⟨g, 0, none⟩ = some c0 ∧ W.frozen? ⟨g, 0, none⟩ = false) ∧ (W.cell? ⟨g, 1, none⟩ = some c1 ∧ W.frozen? ⟨g, 1, none⟩ = false) := ⟨⟨(blk_cell h 0).trans rfl, blk_frozen h 0⟩, ⟨(blk_cell h 1).trans rfl, blk_frozen h 1⟩⟩
theorem box8d {W : World} {g : Nat} {t : TypeId} {c0 c1 c2 c3 c4 c5 c6 c7 : Value} (h : W.heap[g]? = some (.cells #[c0, c1, c2, c3, c4, c5, c6, c7] t (0, 0))) : (W.cell? ⟨g, 0, none⟩ = some c0 ∧ W.frozen? ⟨g, 0, none⟩ = false) ∧ (W.cell? ⟨g, 1, none⟩ = some c1 ∧ W.frozen? ⟨g, 1, none⟩ = false) ∧ (W.cell? ⟨g, 2, none⟩ = some c2 ∧ W.frozen? ⟨g, 2, none⟩ = false) ∧ (W.cell? ⟨g, 3, none⟩ = some c3 ∧ W.frozen? ⟨g, 3, none⟩ = false) ∧ (W.cell? ⟨g, 4, none⟩ = some c4 ∧ W.frozen? ⟨g, 4, none⟩ = false) ∧ (W.cell? ⟨g, 5, none⟩ = some c5 ∧ W.frozen? ⟨g, 5, none⟩ = false) ∧ (W.cell? ⟨g, 6, none⟩ = some c6 ∧ W.frozen? ⟨g, 6, none⟩ = false) ∧ (W.cell? ⟨g, 7, none⟩ = some c7 ∧ W.frozen? ⟨g, 7, none⟩ = false) := ⟨⟨(blk_cell h 0).trans rfl, blk_frozen h 0⟩, ⟨(blk_cell h 1).trans rfl, blk_frozen h 1⟩, ⟨(blk_cell h 2).trans rfl, blk_frozen h 2⟩, ⟨(blk_cell h 3).trans rfl, blk_frozen h 3⟩, ⟨(blk_cell h 4).trans rfl, blk_frozen h 4⟩, ⟨(blk_cell h 5).trans rfl, blk_frozen h 5⟩, ⟨(blk_cell h 6).trans rfl, blk_frozen h 6⟩, ⟨(blk_cell h 7).trans rfl, blk_frozen h 7⟩⟩
theorem put3 {W : World} {g : Nat} {t : TypeId} {c0 c1 c2 v0 v1 v2 : Value} (h : W.heap[g]? = some (.cells #[c0, c1, c2] t (0, 0))) : ((((W.setCell ⟨g, 0, none⟩ v0).setCell ⟨g, 1, none⟩ v1).setCell ⟨g, 2, none⟩ v2)).heap[g]? = some (.cells #[v0, v1, v2] t (0, 0)) := by
  have h0 := heap_setCell_same _ g 0 _ t v0 h
  have h1 := heap_setCell_same _ g 1 _ t v1 h0
  have h2 := heap_setCell_same _ g 2 _ t v2 h1
  rw [h2]
  simp only [List.setIfInBounds_toArray, List.set_cons_zero, List.set_cons_succ]
theorem other3 {W : World} {g k : Nat} {v0 v1 v2 : Value} (h : k ≠ g) : ((((W.setCell ⟨g, 0, none⟩ v0).setCell ⟨g, 1, none⟩ v1).setCell ⟨g, 2, none⟩ v2)).heap[k]? = W.heap[k]? := by
  rw [Below.heap_setCell _ ⟨g, 2, none⟩ v2 k h, Below.heap_setCell _ ⟨g, 1, none⟩ v1 k h, Below.heap_setCell _ ⟨g, 0, none⟩ v0 k h]
theorem below3 {B : Nat} {w W : World} {g : Nat} {v0 v1 v2 : Value} (hg : B ≤ g) (h : Below B w W) : Below B w (((W.setCell ⟨g, 0, none⟩ v0).setCell ⟨g, 1, none⟩ v1).setCell ⟨g, 2, none⟩ v2) := ((h.setCell hg _).setCell hg _).setCell hg _
theorem kept3 {W : World} {g : Nat} {v0 v1 v2 : Value} {A : Option Addr} {xs : List Int} {c : Nat} (h : (Kd.int .i64).R 3 W (g + 1) (fun _ => True) (.slice A xs.length c) xs) : (Kd.int .i64).C (((W.setCell ⟨g, 0, none⟩ v0).setCell ⟨g, 1, none⟩ v1).setCell ⟨g, 2, none⟩ v2) A xs.length xs := by
  have h2 := Kd.R_mono (ok' := fun k => k ≠ g) (Kd.R_bound h) (fun k hk => by have := hk.2.1; omega)
  have h3 := Kd.R_far (p := ⟨g, 2, none⟩) (Kd.R_far (p := ⟨g, 1, none⟩) (Kd.R_far (p := ⟨g, 0, none⟩) h2 (fun _ hk => hk) v0) (fun _ hk => hk) v1) (fun _ hk => hk) v2
  exact (Kd.R_reads' h3).2.2
set_option maxHeartbeats 8000000 in
set_option maxRecDepth 100000 in
theorem cisternlaw07_RecordDecodes.walk (A0 : Option Addr) (c0 : Nat) (l0 : List Int) (w : World) (hr0 : Kd.C (Kd.int .u8) w A0 l0.length l0) (hc0 : l0.length ≤ c0) (y0 : l0.length * 1 ≤ 140737488351232) (w0 : ∀ v ∈ l0, (Lit.int .u8 v).wf = true) :
    Calls Tryd.prog 4 #[.slice A0 l0.length c0] w fun e w' => e = .returned (.bool true) ∧ Below w.heap.size w w' := by
  have W0 := Aside0.mk (wf_u8 w0)
  have R0 := Aside0.mk hr0
  have C0 := Aside0.mk hc0
  have hl0 : l0.length ≤ 140737488351232 := by omega
  clear hr0 hc0 y0 w0
  obtain ⟨K, hK⟩ : ∃ K, K = l0.length + 1000000 := ⟨_, rfl⟩
  have K1 : Aside0 (300000 ≤ K) := ⟨by omega⟩
  have K2 : Aside0 (l0.length + 1000000 ≤ K) := ⟨by omega⟩
  clear hK
  go_enter Tryd.func4, Tryd.ntmps4
  go_wp2_with fail
  refine (cisternlaw07_known.calls K true _ (known_val _ K1.out)).mono ?_
  rintro e wa ⟨rfl, hB⟩
  have BA := Aside0.mk hB
  clear hB
  rcases super_tells l0 W0.out hl0 K K1.out with ⟨x0, x1, x2, hd, hp⟩ | ⟨ee, he, hd, hp⟩
  · have DD := Aside0.mk (recdecode_val l0 W0.out hl0 1 (by omega) (by omega) K K2.out)
    rw [hd] at DD
    have HP := Aside0.mk hp
    clear hd hp
    go_wp2_with fail
    refine (record_DecodeSuper.calls K A0 c0 l0 x0 x1 x2 0 wa (Kd.C_below R0.out BA.out) C0.out HP.out).mono ?_
    rintro e wa0 ⟨rfl, hB⟩
    have B1 := Aside0.mk (BA.out.trans (hB.mono BA.out.size))
    have cv := fun (ob : Obj) c => Kd.C_string (c := c) (P := Tryd.prog) Tryd.underlying36 Tryd.underlying5 Tryd.underlying9 (Kd.C_alloc (Kd.C_below R0.out B1.out) ob)
    clear hB
    go_wp2_with fail
    refine (cisternref07_DocDecode.calls K (strOfNums l0) 1 1 [x0, x1, x2] ⟨#[]⟩ 0 _ DD.out).mono ?_
    rintro e wb0 ⟨v, rfl, hR, hB⟩
    obtain ⟨A2, c2, rfl, hc2, hC2⟩ := Kd.R_reads hR
    have L2 := Aside0.mk hc2
    have B2 := Aside0.mk (B1.out.trans ((below_alloc (Below.refl _ _) _).trans (hB.mono (by simp)) |>.mono B1.out.size))
    have X1 := Aside0.mk ((hB.block wa0.heap.size (by simp)).trans (heap_alloc_new wa0 (.cells #[.int .i64 x0, .int .i64 x1, .int .i64 x2] 23)))
    have Z1 : wa0.heap.size < wb0.heap.size := by have := hB.size; simp at this; omega
    clear hR hB cv hc2
    go_wp2_with fail
    have X5 := Aside0.mk (heap_alloc_new wb0 (.cells #[.int .i64 1, .slice A2 ([x0, x1, x2] : List Int).length c2, .string ⟨#[]⟩] 34))
    have X3 := Aside0.mk (((below_alloc (Below.refl wb0.heap.size wb0) (.cells #[.int .i64 1, .slice A2 ([x0, x1, x2] : List Int).length c2, .string ⟨#[]⟩] 34)).block wa0.heap.size Z1).trans X1.out)
    have GW := Aside0.mk B2.out.size
    have C3 := Aside0.mk (Kd.C_alloc hC2 (.cells #[.int .i64 1, .slice A2 ([x0, x1, x2] : List Int).length c2, .string ⟨#[]⟩] 34))
    have B3 := Aside0.mk (below_alloc B2.out (.cells #[.int .i64 1, .slice A2 ([x0, x1, x2] : List Int).length c2, .string ⟨#[]⟩] 34))
    have G5 : wb0.heap.size < (wb0.alloc (.cells #[.int .i64 1, .slice A2 ([x0, x1, x2] : List Int).length c2, .string ⟨#[]⟩] 34)).heap.size := by simp
    simp only [List.length_cons, List.length_nil, Nat.zero_add, Nat.reduceAdd] at X5 X3 C3 B3 G5
    clear hC2
    generalize hw : wb0.alloc (.cells #[.int .i64 1, .slice A2 3 c2, .string ⟨#[]⟩] 34) = wc0 at X5 X3 C3 B3 G5 ⊢
    clear hw X1 B2
    have MK : Aside0 (∀ w', Below wc0.heap.size wc0 w' → (Below wc0.heap.size wc0 w' ∧ w'.cell? ⟨wa0.heap.size, 0, none⟩ = some (.int .i64 x0) ∧ w'.cell? ⟨wa0.heap.size, 1, none⟩ = some (.int .i64 x1) ∧ w'.cell? ⟨wa0.heap.size, 2, none⟩ = some (.int .i64 x2) ∧ w'.cell? ⟨wb0.heap.size, 0, none⟩ = some (.int .i64 1) ∧ w'.cell? ⟨wb0.heap.size, 1, none⟩ = some (.slice A2 3 c2) ∧ w'.cell? ⟨wb0.heap.size, 2, none⟩ = some (.string ⟨#[]⟩))) := ⟨fun w' h => by
      have Y3 := (h.block wa0.heap.size (Array.getElem?_eq_some_iff.1 X3.out).1).trans X3.out
      have Y5 := (h.block wb0.heap.size (Array.getElem?_eq_some_iff.1 X5.out).1).trans X5.out
      obtain ⟨⟨m0, _⟩, ⟨m1, _⟩, ⟨m2, _⟩⟩ := box3 Y3
      obtain ⟨⟨n0, _⟩, ⟨n1, _⟩, ⟨n2, _⟩⟩ := box3 Y5
      exact ⟨h, m0, m1, m2, n0, n1, n2⟩⟩
    refine wp_region_held_drew (S := (fun w' => Below wc0.heap.size wc0 w' ∧ w'.cell? ⟨wa0.heap.size, 0, none⟩ = some (.int .i64 x0) ∧ w'.cell? ⟨wa0.heap.size, 1, none⟩ = some (.int .i64 x1) ∧ w'.cell? ⟨wa0.heap.size, 2, none⟩ = some (.int .i64 x2) ∧ w'.cell? ⟨wb0.heap.size, 0, none⟩ = some (.int .i64 1) ∧ w'.cell? ⟨wb0.heap.size, 1, none⟩ = some (.slice A2 3 c2) ∧ w'.cell? ⟨wb0.heap.size, 2, none⟩ = some (.string ⟨#[]⟩))) (by kernel_rfl) ?_ (fun hHeld => ?_)
    · try dsimp only
      (first
        | exact MK.out _ (Below.drew (Below.refl _ _))
        | exact MK.out _ (pw_below_drewN (Below.refl _ _) _)
        | exact MK.out _ SB1.out
        | exact MK.out _ SB2.out
        | exact (by go_split_ands; assumption)
        | fail)
    refine wpAnyH_take (i := 0) (oi := _) (v := _) rfl (by kernel_rfl) (by kernel_rfl) (by kernel_rfl) (fun _ _ _ h => h) (Or.inl ⟨by rfl, by (intro w hSw; (try dsimp only at hSw); go_simp; try with_reducible rfl)⟩) hHeld ?_
    simp only [Act.put, List.getElem_toArray, List.getElem_cons_zero, List.getElem_cons_succ, List.setIfInBounds_toArray, List.set_cons_zero, List.set_cons_succ]
    refine wpAnyH_take (i := 1) (oi := _) (v := _) rfl (by kernel_rfl) (by kernel_rfl) (by kernel_rfl) (fun _ _ _ h => h) (Or.inl ⟨by rfl, by (intro w hSw; (try dsimp only at hSw); go_simp; try with_reducible rfl)⟩) hHeld ?_
    simp only [Act.put, List.getElem_toArray, List.getElem_cons_zero, List.getElem_cons_succ, List.setIfInBounds_toArray, List.set_cons_zero, List.set_cons_succ]
    refine wpAnyH_take (i := 2) (oi := _) (v := _) rfl (by kernel_rfl) (by kernel_rfl) (by kernel_rfl) (fun _ _ _ h => h) (Or.inl ⟨by rfl, by (intro w hSw; (try dsimp only at hSw); go_simp; try with_reducible rfl)⟩) hHeld ?_
    simp only [Act.put, List.getElem_toArray, List.getElem_cons_zero, List.getElem_cons_succ, List.setIfInBounds_toArray, List.set_cons_zero, List.set_cons_succ]
    refine wpAnyH_take (i := 3) (oi := _) (v := _) rfl (by kernel_rfl) (by kernel_rfl) (by kernel_rfl) (fun _ _ _ h => h) (Or.inl ⟨by rfl, by (intro w hSw; (try dsimp only at hSw); go_simp; try with_reducible rfl)⟩) hHeld ?_
    simp only [Act.put, List.getElem_toArray, List.getElem_cons_zero, List.getElem_cons_succ, List.setIfInBounds_toArray, List.set_cons_zero, List.set_cons_succ]
    refine wpAnyH_take (i := 4) (oi := _) (v := _) rfl (by kernel_rfl) (by kernel_rfl) (by kernel_rfl) (fun _ _ _ h => h) (Or.inl ⟨by rfl, by (intro w hSw; (try dsimp only at hSw); go_simp; try with_reducible rfl)⟩) hHeld ?_
    simp only [Act.put, List.getElem_toArray, List.getElem_cons_zero, List.getElem_cons_succ, List.setIfInBounds_toArray, List.set_cons_zero, List.set_cons_succ]
    refine wpAnyH_take (i := 5) (oi := _) (v := _) rfl (by kernel_rfl) (by kernel_rfl) (by kernel_rfl) (fun _ _ _ h => h) (Or.inl ⟨by rfl, by (intro w hSw; (try dsimp only at hSw); go_simp; try with_reducible rfl)⟩) hHeld ?_
    simp only [Act.put, List.getElem_toArray, List.getElem_cons_zero, List.getElem_cons_succ, List.setIfInBounds_toArray, List.set_cons_zero, List.set_cons_succ]
    refine wpAnyH_take (i := 6) (oi := _) (v := _) rfl (by kernel_rfl) (by kernel_rfl) (by kernel_rfl) (fun _ _ _ h => h) (Or.inl ⟨by rfl, by (intro w hSw; (try dsimp only at hSw); go_simp; try with_reducible rfl)⟩) hHeld ?_
    simp only [Act.put, List.getElem_toArray, List.getElem_cons_zero, List.getElem_cons_succ, List.setIfInBounds_toArray, List.set_cons_zero, List.set_cons_succ]
    refine wpAnyH_take (i := 7) (oi := _) (v := _) rfl (by kernel_rfl) (by kernel_rfl) (by kernel_rfl) (fun _ _ _ h => h) (Or.inl ⟨by rfl, by (intro w hSw; (try dsimp only at hSw); go_simp; try with_reducible rfl)⟩) hHeld ?_
    simp only [Act.put, List.getElem_toArray, List.getElem_cons_zero, List.getElem_cons_succ, List.setIfInBounds_toArray, List.set_cons_zero, List.set_cons_succ]
    refine wpAnyH_take (i := 9) (oi := _) (v := _) rfl (by kernel_rfl) (by kernel_rfl) (by kernel_rfl) (fun _ _ _ h => h) (Or.inl ⟨by rfl, by (intro w hSw; (try dsimp only at hSw); go_simp; try with_reducible rfl)⟩) hHeld ?_
    simp only [Act.put, List.getElem_toArray, List.getElem_cons_zero, List.getElem_cons_succ, List.setIfInBounds_toArray, List.set_cons_zero, List.set_cons_succ]
    refine wpAnyH_ready (rs := [8]) (by kernel_rfl) (by simp) ?_
    refine AllReadyH.cons rfl (fun K hK => ?_) AllReadyH.nil
    go_simp
    go_wp2_with (refine (cisternlaw07_superRec.calls x0 x1 x2 _ _ _ _ rfl).mono ?_; rintro e w4 ⟨v, rfl, hR, hB⟩; obtain ⟨A4, c4, rfl, h4, hC4⟩ := Kd.R_reads hR; have SB1 : Aside0 (Below wc0.heap.size wc0 w4) := ⟨by go_split_ands; exact Below.trans (by assumption) (hB.mono (Below.size (by assumption)))⟩; have C4 := Aside0.mk hC4; have L4 := Aside0.mk h4; clear hR hB hC4 h4)
    refine hK.out _ _ ?_ (fun hNew => ?_)
    · try dsimp only
      (first
        | exact MK.out _ (Below.drew (Below.refl _ _))
        | exact MK.out _ (pw_below_drewN (Below.refl _ _) _)
        | exact MK.out _ SB1.out
        | exact MK.out _ SB2.out
        | exact (by go_split_ands; assumption)
        | fail)
    clear hK K hHeld
    have hHeld := hNew
    clear hNew
    refine wpAnyH_ready (rs := [10]) (by kernel_rfl) (by simp) ?_
    refine AllReadyH.cons rfl (fun K hK => ?_) AllReadyH.nil
    go_simp
    go_wp2_with (refine (cisternlaw07_same.calls 50 1 A4 c4 [x0, x1, x2] ⟨#[]⟩ 1 A2 c2 [x0, x1, x2] ⟨#[]⟩ true _ C4.out L4.out (Kd.C_below C3.out (by go_split_ands; assumption)) L2.out (recsame_val 1 [x0, x1, x2] ⟨#[]⟩ (by simp) 50 (by simp))).mono ?_; rintro e w5 ⟨rfl, hB⟩; have SB2 : Aside0 (Below wc0.heap.size wc0 w5) := ⟨by go_split_ands; exact Below.trans (by assumption) (hB.mono (Below.size (by assumption)))⟩; clear hB)
    refine hK.out _ _ ?_ (fun hNew => ?_)
    · try dsimp only
      (first
        | exact MK.out _ (Below.drew (Below.refl _ _))
        | exact MK.out _ (pw_below_drewN (Below.refl _ _) _)
        | exact MK.out _ SB1.out
        | exact MK.out _ SB2.out
        | exact (by go_split_ands; assumption)
        | fail)
    clear hK K hHeld
    have hHeld := hNew
    clear hNew
    refine wpAnyH_take (i := 11) (oi := _) (v := _) rfl (by kernel_rfl) (by kernel_rfl) (by kernel_rfl) (fun _ _ _ h => h) (Or.inl ⟨by rfl, by (intro w hSw; (try dsimp only at hSw); go_simp; try with_reducible rfl)⟩) hHeld ?_
    simp only [Act.put, List.getElem_toArray, List.getElem_cons_zero, List.getElem_cons_succ, List.setIfInBounds_toArray, List.set_cons_zero, List.set_cons_succ]
    refine wpAnyH_take (i := 12) (oi := _) (v := _) rfl (by kernel_rfl) (by kernel_rfl) (by kernel_rfl) (fun _ _ _ h => h) (Or.inl ⟨by rfl, by (intro w hSw; (try dsimp only at hSw); go_simp; try with_reducible rfl)⟩) hHeld ?_
    simp only [Act.put, List.getElem_toArray, List.getElem_cons_zero, List.getElem_cons_succ, List.setIfInBounds_toArray, List.set_cons_zero, List.set_cons_succ]
    refine wpAnyH_take (i := 13) (oi := _) (v := _) rfl (by kernel_rfl) (by kernel_rfl) (by kernel_rfl) (fun _ _ _ h => h) (Or.inl ⟨by rfl, by (intro w hSw; (try dsimp only at hSw); go_simp; try with_reducible rfl)⟩) hHeld ?_
    simp only [Act.put, List.getElem_toArray, List.getElem_cons_zero, List.getElem_cons_succ, List.setIfInBounds_toArray, List.set_cons_zero, List.set_cons_succ]
    refine wpAnyH_take (i := 14) (oi := _) (v := _) rfl (by kernel_rfl) (by kernel_rfl) (by kernel_rfl) (fun _ _ _ h => h) (Or.inl ⟨by rfl, by (intro w hSw; (try dsimp only at hSw); go_simp; try with_reducible rfl)⟩) hHeld ?_
    simp only [Act.put, List.getElem_toArray, List.getElem_cons_zero, List.getElem_cons_succ, List.setIfInBounds_toArray, List.set_cons_zero, List.set_cons_succ]
    refine wpAnyH_take (i := 15) (oi := _) (v := _) rfl (by kernel_rfl) (by kernel_rfl) (by kernel_rfl) (fun _ _ _ h => h) (Or.inl ⟨by rfl, by (intro w hSw; (try dsimp only at hSw); go_simp; try with_reducible rfl)⟩) hHeld ?_
    simp only [Act.put, List.getElem_toArray, List.getElem_cons_zero, List.getElem_cons_succ, List.setIfInBounds_toArray, List.set_cons_zero, List.set_cons_succ]
    refine wpAnyH_take (i := 16) (oi := _) (v := _) rfl (by kernel_rfl) (by kernel_rfl) (by kernel_rfl) (fun _ _ _ h => h) (Or.inl ⟨by rfl, by (intro w hSw; (try dsimp only at hSw); go_simp; try with_reducible rfl)⟩) hHeld ?_
    simp only [Act.put, List.getElem_toArray, List.getElem_cons_zero, List.getElem_cons_succ, List.setIfInBounds_toArray, List.set_cons_zero, List.set_cons_succ]
    refine wpAnyH_take (i := 17) (oi := _) (v := _) rfl (by kernel_rfl) (by kernel_rfl) (by kernel_rfl) (fun _ _ _ h => h) (Or.inl ⟨by rfl, by (intro w hSw; (try dsimp only at hSw); go_simp; try with_reducible rfl)⟩) hHeld ?_
    simp only [Act.put, List.getElem_toArray, List.getElem_cons_zero, List.getElem_cons_succ, List.setIfInBounds_toArray, List.set_cons_zero, List.set_cons_succ]
    refine wpAnyH_take (i := 18) (oi := _) (v := undef) rfl (by kernel_rfl) (by kernel_rfl) (by kernel_rfl) (fun _ _ _ h => h) (Or.inr ⟨by rfl, rfl⟩) hHeld ?_
    simp only [Act.put, List.getElem_toArray, List.getElem_cons_zero, List.getElem_cons_succ, List.setIfInBounds_toArray, List.set_cons_zero, List.set_cons_succ]
    refine wpAnyH_take (i := 19) (oi := _) (v := undef) rfl (by kernel_rfl) (by kernel_rfl) (by kernel_rfl) (fun _ _ _ h => h) (Or.inr ⟨by rfl, rfl⟩) hHeld ?_
    simp only [Act.put, List.getElem_toArray, List.getElem_cons_zero, List.getElem_cons_succ, List.setIfInBounds_toArray, List.set_cons_zero, List.set_cons_succ]
    refine wpAnyH_take (i := 20) (oi := _) (v := undef) rfl (by kernel_rfl) (by kernel_rfl) (by kernel_rfl) (fun _ _ _ h => h) (Or.inr ⟨by rfl, rfl⟩) hHeld ?_
    simp only [Act.put, List.getElem_toArray, List.getElem_cons_zero, List.getElem_cons_succ, List.setIfInBounds_toArray, List.set_cons_zero, List.set_cons_succ]
    refine wpAnyH_take (i := 21) (oi := _) (v := _) rfl (by kernel_rfl) (by kernel_rfl) (by kernel_rfl) (fun _ _ _ h => h) (Or.inl ⟨by rfl, by (intro w hSw; (try dsimp only at hSw); go_simp; try with_reducible rfl)⟩) hHeld ?_
    simp only [Act.put, List.getElem_toArray, List.getElem_cons_zero, List.getElem_cons_succ, List.setIfInBounds_toArray, List.set_cons_zero, List.set_cons_succ]
    refine wpAnyH_take (i := 22) (oi := _) (v := _) rfl (by kernel_rfl) (by kernel_rfl) (by kernel_rfl) (fun _ _ _ h => h) (Or.inl ⟨by rfl, by (intro w hSw; (try dsimp only at hSw); go_simp; try with_reducible rfl)⟩) hHeld ?_
    simp only [Act.put, List.getElem_toArray, List.getElem_cons_zero, List.getElem_cons_succ, List.setIfInBounds_toArray, List.set_cons_zero, List.set_cons_succ]
    refine wpAnyH_done (by kernel_rfl) ?_ _
    obtain ⟨we0, h5, hw⟩ : ∃ we0, Aside0 (Below wc0.heap.size wc0 we0) ∧ we0 = w5 := ⟨_, SB2, rfl⟩
    rw [← hw]
    have P5 := Aside0.mk ((h5.out.block wb0.heap.size G5).trans X5.out)
    have G5 : wb0.heap.size < we0.heap.size := Nat.lt_of_lt_of_le G5 h5.out.size
    have BA := Aside0.mk (B3.out.trans (h5.out.mono B3.out.size))
    clear DD HP B1 L2 X3 X5 C3 B3 MK hHeld hw h5 C4 L4 SB1 SB2 Z1
    rcases log_tells l0 W0.out hl0 K K1.out with ⟨x0, x1, x2, x3, x4, x5, x6, xt, hd, hp⟩ | ⟨ee, he, hd, hp⟩
    · have DD := Aside0.mk (recdecode_val l0 W0.out hl0 2 (by omega) (by omega) K K2.out)
      rw [hd] at DD
      have HP := Aside0.mk hp
      clear hd hp
      go_wp2_with fail
      refine (record_DecodeLog.calls K A0 c0 l0 x0 x1 x2 x3 x4 x5 x6 xt 0 we0 (Kd.C_below R0.out BA.out) C0.out HP.out).mono ?_
      rintro e wa1 ⟨rfl, hB⟩
      have B1 := Aside0.mk (BA.out.trans (hB.mono BA.out.size))
      have cv := fun (ob : Obj) c => Kd.C_string (c := c) (P := Tryd.prog) Tryd.underlying36 Tryd.underlying5 Tryd.underlying9 (Kd.C_alloc (Kd.C_below R0.out B1.out) ob)
      have P5 := Aside0.mk ((hB.block wb0.heap.size G5).trans P5.out)
      have G5 : wb0.heap.size < wa1.heap.size := Nat.lt_of_lt_of_le G5 hB.size
      clear hB
      go_wp2_with fail
      refine (cisternref07_DocDecode.calls K (strOfNums l0) 2 2 [x0, x1, x2, x3, x4, x5, x6] xt 0 _ DD.out).mono ?_
      rintro e wb1 ⟨v, rfl, hR, hB⟩
      have B2 := Aside0.mk (B1.out.trans ((below_alloc (Below.refl _ _) _).trans (hB.mono (by simp)) |>.mono B1.out.size))
      have X1 := Aside0.mk ((hB.block wa1.heap.size (by simp)).trans (heap_alloc_new wa1 (.cells #[.int .i64 x0, .int .i64 x1, .int .i64 x2, .int .i64 x3, .int .i64 x4, .int .i64 x5, .int .i64 x6, .string xt] 25)))
      have Z1 : wa1.heap.size < wb1.heap.size := by have := hB.size; simp at this; omega
      have P5 := Aside0.mk ((hB.block wb0.heap.size (by simp; omega)).trans (((below_alloc (Below.refl wa1.heap.size wa1) (.cells #[.int .i64 x0, .int .i64 x1, .int .i64 x2, .int .i64 x3, .int .i64 x4, .int .i64 x5, .int .i64 x6, .string xt] 25)).block wb0.heap.size G5).trans P5.out))
      have R2 := Kd.R_lower (base' := wb0.heap.size + 1) hR (by simp; omega)
      obtain ⟨A2, c2, rfl⟩ := Kd.R_slice R2
      have L2 := Aside0.mk (Kd.R_reads' R2).2.1
      have C2 := fun v0 v1 v2 => kept3 (v0 := v0) (v1 := v1) (v2 := v2) R2
      have G5b : wb0.heap.size < wb1.heap.size := by have := hB.size; simp at this; omega
      obtain ⟨⟨t0, u0⟩, ⟨t1, u1⟩, ⟨t2, u2⟩⟩ := box3 P5.out
      clear hR hB cv R2
      go_wp2_with fail
      have X5 := Aside0.mk (put3 (v0 := .int .i64 2) (v1 := .slice A2 ([x0, x1, x2, x3, x4, x5, x6] : List Int).length c2) (v2 := .string xt) P5.out)
      have X3 := Aside0.mk ((other3 (W := wb1) (g := wb0.heap.size) (v0 := .int .i64 2) (v1 := .slice A2 ([x0, x1, x2, x3, x4, x5, x6] : List Int).length c2) (v2 := .string xt) (k := wa1.heap.size) (by omega)).trans X1.out)
      have C3 := Aside0.mk (C2 (.int .i64 2) (.slice A2 ([x0, x1, x2, x3, x4, x5, x6] : List Int).length c2) (.string xt))
      have B3 := Aside0.mk (below3 (v0 := .int .i64 2) (v1 := .slice A2 ([x0, x1, x2, x3, x4, x5, x6] : List Int).length c2) (v2 := .string xt) GW.out B2.out)
      have G5 : wb0.heap.size < ((((wb1.setCell ⟨wb0.heap.size, 0, none⟩ (.int .i64 2)).setCell ⟨wb0.heap.size, 1, none⟩ (.slice A2 ([x0, x1, x2, x3, x4, x5, x6] : List Int).length c2)).setCell ⟨wb0.heap.size, 2, none⟩ (.string xt))).heap.size := by simpa [World.setCell] using G5b
      simp only [List.length_cons, List.length_nil, Nat.zero_add, Nat.reduceAdd] at X5 X3 C3 B3 G5
      clear C2 t0 u0 t1 u1 t2 u2
      generalize hw : (((wb1.setCell ⟨wb0.heap.size, 0, none⟩ (.int .i64 2)).setCell ⟨wb0.heap.size, 1, none⟩ (.slice A2 7 c2)).setCell ⟨wb0.heap.size, 2, none⟩ (.string xt)) = wc1 at X5 X3 C3 B3 G5 ⊢
      clear hw X1 B2 G5b Z1
      have MK : Aside0 (∀ w', Below wc1.heap.size wc1 w' → (Below wc1.heap.size wc1 w' ∧ w'.cell? ⟨wa1.heap.size, 0, none⟩ = some (.int .i64 x0) ∧ w'.cell? ⟨wa1.heap.size, 1, none⟩ = some (.int .i64 x1) ∧ w'.cell? ⟨wa1.heap.size, 2, none⟩ = some (.int .i64 x2) ∧ w'.cell? ⟨wa1.heap.size, 3, none⟩ = some (.int .i64 x3) ∧ w'.cell? ⟨wa1.heap.size, 4, none⟩ = some (.int .i64 x4) ∧ w'.cell? ⟨wa1.heap.size, 5, none⟩ = some (.int .i64 x5) ∧ w'.cell? ⟨wa1.heap.size, 6, none⟩ = some (.int .i64 x6) ∧ w'.cell? ⟨wa1.heap.size, 7, none⟩ = some (.string xt) ∧ w'.cell? ⟨wb0.heap.size, 0, none⟩ = some (.int .i64 2) ∧ w'.cell? ⟨wb0.heap.size, 1, none⟩ = some (.slice A2 7 c2) ∧ w'.cell? ⟨wb0.heap.size, 2, none⟩ = some (.string xt))) := ⟨fun w' h => by
        have Y3 := (h.block wa1.heap.size (Array.getElem?_eq_some_iff.1 X3.out).1).trans X3.out
        have Y5 := (h.block wb0.heap.size (Array.getElem?_eq_some_iff.1 X5.out).1).trans X5.out
        obtain ⟨⟨m0, _⟩, ⟨m1, _⟩, ⟨m2, _⟩, ⟨m3, _⟩, ⟨m4, _⟩, ⟨m5, _⟩, ⟨m6, _⟩, ⟨m7, _⟩⟩ := box8d Y3
        obtain ⟨⟨n0, _⟩, ⟨n1, _⟩, ⟨n2, _⟩⟩ := box3 Y5
        exact ⟨h, m0, m1, m2, m3, m4, m5, m6, m7, n0, n1, n2⟩⟩
      refine wp_region_held_drew (S := (fun w' => Below wc1.heap.size wc1 w' ∧ w'.cell? ⟨wa1.heap.size, 0, none⟩ = some (.int .i64 x0) ∧ w'.cell? ⟨wa1.heap.size, 1, none⟩ = some (.int .i64 x1) ∧ w'.cell? ⟨wa1.heap.size, 2, none⟩ = some (.int .i64 x2) ∧ w'.cell? ⟨wa1.heap.size, 3, none⟩ = some (.int .i64 x3) ∧ w'.cell? ⟨wa1.heap.size, 4, none⟩ = some (.int .i64 x4) ∧ w'.cell? ⟨wa1.heap.size, 5, none⟩ = some (.int .i64 x5) ∧ w'.cell? ⟨wa1.heap.size, 6, none⟩ = some (.int .i64 x6) ∧ w'.cell? ⟨wa1.heap.size, 7, none⟩ = some (.string xt) ∧ w'.cell? ⟨wb0.heap.size, 0, none⟩ = some (.int .i64 2) ∧ w'.cell? ⟨wb0.heap.size, 1, none⟩ = some (.slice A2 7 c2) ∧ w'.cell? ⟨wb0.heap.size, 2, none⟩ = some (.string xt))) (by kernel_rfl) ?_ (fun hHeld => ?_)
      · try dsimp only
        (first
          | exact MK.out _ (Below.drew (Below.refl _ _))
          | exact MK.out _ (pw_below_drewN (Below.refl _ _) _)
          | exact MK.out _ SB1.out
          | exact MK.out _ SB2.out
          | exact (by go_split_ands; assumption)
          | fail)
      refine wpAnyH_take (i := 0) (oi := _) (v := _) rfl (by kernel_rfl) (by kernel_rfl) (by kernel_rfl) (fun _ _ _ h => h) (Or.inl ⟨by rfl, by (intro w hSw; (try dsimp only at hSw); go_simp; try with_reducible rfl)⟩) hHeld ?_
      simp only [Act.put, List.getElem_toArray, List.getElem_cons_zero, List.getElem_cons_succ, List.setIfInBounds_toArray, List.set_cons_zero, List.set_cons_succ]
      refine wpAnyH_take (i := 1) (oi := _) (v := _) rfl (by kernel_rfl) (by kernel_rfl) (by kernel_rfl) (fun _ _ _ h => h) (Or.inl ⟨by rfl, by (intro w hSw; (try dsimp only at hSw); go_simp; try with_reducible rfl)⟩) hHeld ?_
      simp only [Act.put, List.getElem_toArray, List.getElem_cons_zero, List.getElem_cons_succ, List.setIfInBounds_toArray, List.set_cons_zero, List.set_cons_succ]
      refine wpAnyH_take (i := 2) (oi := _) (v := _) rfl (by kernel_rfl) (by kernel_rfl) (by kernel_rfl) (fun _ _ _ h => h) (Or.inl ⟨by rfl, by (intro w hSw; (try dsimp only at hSw); go_simp; try with_reducible rfl)⟩) hHeld ?_
      simp only [Act.put, List.getElem_toArray, List.getElem_cons_zero, List.getElem_cons_succ, List.setIfInBounds_toArray, List.set_cons_zero, List.set_cons_succ]
      refine wpAnyH_take (i := 3) (oi := _) (v := _) rfl (by kernel_rfl) (by kernel_rfl) (by kernel_rfl) (fun _ _ _ h => h) (Or.inl ⟨by rfl, by (intro w hSw; (try dsimp only at hSw); go_simp; try with_reducible rfl)⟩) hHeld ?_
      simp only [Act.put, List.getElem_toArray, List.getElem_cons_zero, List.getElem_cons_succ, List.setIfInBounds_toArray, List.set_cons_zero, List.set_cons_succ]
      refine wpAnyH_take (i := 4) (oi := _) (v := _) rfl (by kernel_rfl) (by kernel_rfl) (by kernel_rfl) (fun _ _ _ h => h) (Or.inl ⟨by rfl, by (intro w hSw; (try dsimp only at hSw); go_simp; try with_reducible rfl)⟩) hHeld ?_
      simp only [Act.put, List.getElem_toArray, List.getElem_cons_zero, List.getElem_cons_succ, List.setIfInBounds_toArray, List.set_cons_zero, List.set_cons_succ]
      refine wpAnyH_take (i := 5) (oi := _) (v := _) rfl (by kernel_rfl) (by kernel_rfl) (by kernel_rfl) (fun _ _ _ h => h) (Or.inl ⟨by rfl, by (intro w hSw; (try dsimp only at hSw); go_simp; try with_reducible rfl)⟩) hHeld ?_
      simp only [Act.put, List.getElem_toArray, List.getElem_cons_zero, List.getElem_cons_succ, List.setIfInBounds_toArray, List.set_cons_zero, List.set_cons_succ]
      refine wpAnyH_take (i := 6) (oi := _) (v := _) rfl (by kernel_rfl) (by kernel_rfl) (by kernel_rfl) (fun _ _ _ h => h) (Or.inl ⟨by rfl, by (intro w hSw; (try dsimp only at hSw); go_simp; try with_reducible rfl)⟩) hHeld ?_
      simp only [Act.put, List.getElem_toArray, List.getElem_cons_zero, List.getElem_cons_succ, List.setIfInBounds_toArray, List.set_cons_zero, List.set_cons_succ]
      refine wpAnyH_take (i := 7) (oi := _) (v := _) rfl (by kernel_rfl) (by kernel_rfl) (by kernel_rfl) (fun _ _ _ h => h) (Or.inl ⟨by rfl, by (intro w hSw; (try dsimp only at hSw); go_simp; try with_reducible rfl)⟩) hHeld ?_
      simp only [Act.put, List.getElem_toArray, List.getElem_cons_zero, List.getElem_cons_succ, List.setIfInBounds_toArray, List.set_cons_zero, List.set_cons_succ]
      refine wpAnyH_take (i := 9) (oi := _) (v := _) rfl (by kernel_rfl) (by kernel_rfl) (by kernel_rfl) (fun _ _ _ h => h) (Or.inl ⟨by rfl, by (intro w hSw; (try dsimp only at hSw); go_simp; try with_reducible rfl)⟩) hHeld ?_
      simp only [Act.put, List.getElem_toArray, List.getElem_cons_zero, List.getElem_cons_succ, List.setIfInBounds_toArray, List.set_cons_zero, List.set_cons_succ]
      refine wpAnyH_ready (rs := [8]) (by kernel_rfl) (by simp) ?_
      refine AllReadyH.cons rfl (fun K hK => ?_) AllReadyH.nil
      go_simp
      go_wp2_with (refine (cisternlaw07_logRec.calls x0 x1 x2 x3 x4 x5 x6 xt _ _ _ _ rfl).mono ?_; rintro e w4 ⟨v, rfl, hR, hB⟩; obtain ⟨A4, c4, rfl, h4, hC4⟩ := Kd.R_reads hR; have SB1 : Aside0 (Below wc1.heap.size wc1 w4) := ⟨by go_split_ands; exact Below.trans (by assumption) (hB.mono (Below.size (by assumption)))⟩; have C4 := Aside0.mk hC4; have L4 := Aside0.mk h4; clear hR hB hC4 h4)
      refine hK.out _ _ ?_ (fun hNew => ?_)
      · try dsimp only
        (first
          | exact MK.out _ (Below.drew (Below.refl _ _))
          | exact MK.out _ (pw_below_drewN (Below.refl _ _) _)
          | exact MK.out _ SB1.out
          | exact MK.out _ SB2.out
          | exact (by go_split_ands; assumption)
          | fail)
      clear hK K hHeld
      have hHeld := hNew
      clear hNew
      refine wpAnyH_ready (rs := [10]) (by kernel_rfl) (by simp) ?_
      refine AllReadyH.cons rfl (fun K hK => ?_) AllReadyH.nil
      go_simp
      go_wp2_with (refine (cisternlaw07_same.calls 50 2 A4 c4 [x0, x1, x2, x3, x4, x5, x6] xt 2 A2 c2 [x0, x1, x2, x3, x4, x5, x6] xt true _ C4.out L4.out (Kd.C_below C3.out (by go_split_ands; assumption)) L2.out (recsame_val 2 [x0, x1, x2, x3, x4, x5, x6] xt (by simp) 50 (by simp))).mono ?_; rintro e w5 ⟨rfl, hB⟩; have SB2 : Aside0 (Below wc1.heap.size wc1 w5) := ⟨by go_split_ands; exact Below.trans (by assumption) (hB.mono (Below.size (by assumption)))⟩; clear hB)
      refine hK.out _ _ ?_ (fun hNew => ?_)
      · try dsimp only
        (first
          | exact MK.out _ (Below.drew (Below.refl _ _))
          | exact MK.out _ (pw_below_drewN (Below.refl _ _) _)
          | exact MK.out _ SB1.out
          | exact MK.out _ SB2.out
          | exact (by go_split_ands; assumption)
          | fail)
      clear hK K hHeld
      have hHeld := hNew
      clear hNew
      refine wpAnyH_take (i := 11) (oi := _) (v := _) rfl (by kernel_rfl) (by kernel_rfl) (by kernel_rfl) (fun _ _ _ h => h) (Or.inl ⟨by rfl, by (intro w hSw; (try dsimp only at hSw); go_simp; try with_reducible rfl)⟩) hHeld ?_
      simp only [Act.put, List.getElem_toArray, List.getElem_cons_zero, List.getElem_cons_succ, List.setIfInBounds_toArray, List.set_cons_zero, List.set_cons_succ]
      refine wpAnyH_take (i := 12) (oi := _) (v := _) rfl (by kernel_rfl) (by kernel_rfl) (by kernel_rfl) (fun _ _ _ h => h) (Or.inl ⟨by rfl, by (intro w hSw; (try dsimp only at hSw); go_simp; try with_reducible rfl)⟩) hHeld ?_
      simp only [Act.put, List.getElem_toArray, List.getElem_cons_zero, List.getElem_cons_succ, List.setIfInBounds_toArray, List.set_cons_zero, List.set_cons_succ]
      refine wpAnyH_take (i := 13) (oi := _) (v := _) rfl (by kernel_rfl) (by kernel_rfl) (by kernel_rfl) (fun _ _ _ h => h) (Or.inl ⟨by rfl, by (intro w hSw; (try dsimp only at hSw); go_simp; try with_reducible rfl)⟩) hHeld ?_
      simp only [Act.put, List.getElem_toArray, List.getElem_cons_zero, List.getElem_cons_succ, List.setIfInBounds_toArray, List.set_cons_zero, List.set_cons_succ]
      refine wpAnyH_take (i := 14) (oi := _) (v := _) rfl (by kernel_rfl) (by kernel_rfl) (by kernel_rfl) (fun _ _ _ h => h) (Or.inl ⟨by rfl, by (intro w hSw; (try dsimp only at hSw); go_simp; try with_reducible rfl)⟩) hHeld ?_
      simp only [Act.put, List.getElem_toArray, List.getElem_cons_zero, List.getElem_cons_succ, List.setIfInBounds_toArray, List.set_cons_zero, List.set_cons_succ]
      refine wpAnyH_take (i := 15) (oi := _) (v := _) rfl (by kernel_rfl) (by kernel_rfl) (by kernel_rfl) (fun _ _ _ h => h) (Or.inl ⟨by rfl, by (intro w hSw; (try dsimp only at hSw); go_simp; try with_reducible rfl)⟩) hHeld ?_
      simp only [Act.put, List.getElem_toArray, List.getElem_cons_zero, List.getElem_cons_succ, List.setIfInBounds_toArray, List.set_cons_zero, List.set_cons_succ]
      refine wpAnyH_take (i := 16) (oi := _) (v := _) rfl (by kernel_rfl) (by kernel_rfl) (by kernel_rfl) (fun _ _ _ h => h) (Or.inl ⟨by rfl, by (intro w hSw; (try dsimp only at hSw); go_simp; try with_reducible rfl)⟩) hHeld ?_
      simp only [Act.put, List.getElem_toArray, List.getElem_cons_zero, List.getElem_cons_succ, List.setIfInBounds_toArray, List.set_cons_zero, List.set_cons_succ]
      refine wpAnyH_take (i := 17) (oi := _) (v := _) rfl (by kernel_rfl) (by kernel_rfl) (by kernel_rfl) (fun _ _ _ h => h) (Or.inl ⟨by rfl, by (intro w hSw; (try dsimp only at hSw); go_simp; try with_reducible rfl)⟩) hHeld ?_
      simp only [Act.put, List.getElem_toArray, List.getElem_cons_zero, List.getElem_cons_succ, List.setIfInBounds_toArray, List.set_cons_zero, List.set_cons_succ]
      refine wpAnyH_take (i := 18) (oi := _) (v := undef) rfl (by kernel_rfl) (by kernel_rfl) (by kernel_rfl) (fun _ _ _ h => h) (Or.inr ⟨by rfl, rfl⟩) hHeld ?_
      simp only [Act.put, List.getElem_toArray, List.getElem_cons_zero, List.getElem_cons_succ, List.setIfInBounds_toArray, List.set_cons_zero, List.set_cons_succ]
      refine wpAnyH_take (i := 19) (oi := _) (v := undef) rfl (by kernel_rfl) (by kernel_rfl) (by kernel_rfl) (fun _ _ _ h => h) (Or.inr ⟨by rfl, rfl⟩) hHeld ?_
      simp only [Act.put, List.getElem_toArray, List.getElem_cons_zero, List.getElem_cons_succ, List.setIfInBounds_toArray, List.set_cons_zero, List.set_cons_succ]
      refine wpAnyH_take (i := 20) (oi := _) (v := undef) rfl (by kernel_rfl) (by kernel_rfl) (by kernel_rfl) (fun _ _ _ h => h) (Or.inr ⟨by rfl, rfl⟩) hHeld ?_
      simp only [Act.put, List.getElem_toArray, List.getElem_cons_zero, List.getElem_cons_succ, List.setIfInBounds_toArray, List.set_cons_zero, List.set_cons_succ]
      refine wpAnyH_take (i := 21) (oi := _) (v := _) rfl (by kernel_rfl) (by kernel_rfl) (by kernel_rfl) (fun _ _ _ h => h) (Or.inl ⟨by rfl, by (intro w hSw; (try dsimp only at hSw); go_simp; try with_reducible rfl)⟩) hHeld ?_
      simp only [Act.put, List.getElem_toArray, List.getElem_cons_zero, List.getElem_cons_succ, List.setIfInBounds_toArray, List.set_cons_zero, List.set_cons_succ]
      refine wpAnyH_take (i := 22) (oi := _) (v := _) rfl (by kernel_rfl) (by kernel_rfl) (by kernel_rfl) (fun _ _ _ h => h) (Or.inl ⟨by rfl, by (intro w hSw; (try dsimp only at hSw); go_simp; try with_reducible rfl)⟩) hHeld ?_
      simp only [Act.put, List.getElem_toArray, List.getElem_cons_zero, List.getElem_cons_succ, List.setIfInBounds_toArray, List.set_cons_zero, List.set_cons_succ]
      refine wpAnyH_done (by kernel_rfl) ?_ _
      obtain ⟨we1, h5, hw⟩ : ∃ we1, Aside0 (Below wc1.heap.size wc1 we1) ∧ we1 = w5 := ⟨_, SB2, rfl⟩
      rw [← hw]
      have P5 := Aside0.mk ((h5.out.block wb0.heap.size G5).trans X5.out)
      have G5 : wb0.heap.size < we1.heap.size := Nat.lt_of_lt_of_le G5 h5.out.size
      have BA := Aside0.mk (B3.out.trans (h5.out.mono B3.out.size))
      clear DD HP B1 L2 X3 X5 C3 B3 MK hHeld hw h5 C4 L4 SB1 SB2
      rcases home_tells l0 W0.out hl0 K K1.out with ⟨x0, xt, hd, hp⟩ | ⟨ee, he, hd, hp⟩
      · have DD := Aside0.mk (recdecode_val l0 W0.out hl0 3 (by omega) (by omega) K K2.out)
        rw [hd] at DD
        have HP := Aside0.mk hp
        clear hd hp
        go_wp2_with fail
        refine (record_DecodeHome.calls K A0 c0 l0 x0 xt 0 we1 (Kd.C_below R0.out BA.out) C0.out HP.out).mono ?_
        rintro e wa2 ⟨rfl, hB⟩
        have B1 := Aside0.mk (BA.out.trans (hB.mono BA.out.size))
        have cv := fun (ob : Obj) c => Kd.C_string (c := c) (P := Tryd.prog) Tryd.underlying36 Tryd.underlying5 Tryd.underlying9 (Kd.C_alloc (Kd.C_below R0.out B1.out) ob)
        have P5 := Aside0.mk ((hB.block wb0.heap.size G5).trans P5.out)
        have G5 : wb0.heap.size < wa2.heap.size := Nat.lt_of_lt_of_le G5 hB.size
        clear hB
        go_wp2_with fail
        refine (cisternref07_DocDecode.calls K (strOfNums l0) 3 3 [x0] xt 0 _ DD.out).mono ?_
        rintro e wb2 ⟨v, rfl, hR, hB⟩
        have B2 := Aside0.mk (B1.out.trans ((below_alloc (Below.refl _ _) _).trans (hB.mono (by simp)) |>.mono B1.out.size))
        have X1 := Aside0.mk ((hB.block wa2.heap.size (by simp)).trans (heap_alloc_new wa2 (.cells #[.int .i64 x0, .string xt] 27)))
        have Z1 : wa2.heap.size < wb2.heap.size := by have := hB.size; simp at this; omega
        have P5 := Aside0.mk ((hB.block wb0.heap.size (by simp; omega)).trans (((below_alloc (Below.refl wa2.heap.size wa2) (.cells #[.int .i64 x0, .string xt] 27)).block wb0.heap.size G5).trans P5.out))
        have R2 := Kd.R_lower (base' := wb0.heap.size + 1) hR (by simp; omega)
        obtain ⟨A2, c2, rfl⟩ := Kd.R_slice R2
        have L2 := Aside0.mk (Kd.R_reads' R2).2.1
        have C2 := fun v0 v1 v2 => kept3 (v0 := v0) (v1 := v1) (v2 := v2) R2
        have G5b : wb0.heap.size < wb2.heap.size := by have := hB.size; simp at this; omega
        obtain ⟨⟨t0, u0⟩, ⟨t1, u1⟩, ⟨t2, u2⟩⟩ := box3 P5.out
        clear hR hB cv R2
        go_wp2_with fail
        have X5 := Aside0.mk (put3 (v0 := .int .i64 3) (v1 := .slice A2 ([x0] : List Int).length c2) (v2 := .string xt) P5.out)
        have X3 := Aside0.mk ((other3 (W := wb2) (g := wb0.heap.size) (v0 := .int .i64 3) (v1 := .slice A2 ([x0] : List Int).length c2) (v2 := .string xt) (k := wa2.heap.size) (by omega)).trans X1.out)
        have C3 := Aside0.mk (C2 (.int .i64 3) (.slice A2 ([x0] : List Int).length c2) (.string xt))
        have B3 := Aside0.mk (below3 (v0 := .int .i64 3) (v1 := .slice A2 ([x0] : List Int).length c2) (v2 := .string xt) GW.out B2.out)
        have G5 : wb0.heap.size < ((((wb2.setCell ⟨wb0.heap.size, 0, none⟩ (.int .i64 3)).setCell ⟨wb0.heap.size, 1, none⟩ (.slice A2 ([x0] : List Int).length c2)).setCell ⟨wb0.heap.size, 2, none⟩ (.string xt))).heap.size := by simpa [World.setCell] using G5b
        simp only [List.length_cons, List.length_nil, Nat.zero_add, Nat.reduceAdd] at X5 X3 C3 B3 G5
        clear C2 t0 u0 t1 u1 t2 u2
        generalize hw : (((wb2.setCell ⟨wb0.heap.size, 0, none⟩ (.int .i64 3)).setCell ⟨wb0.heap.size, 1, none⟩ (.slice A2 1 c2)).setCell ⟨wb0.heap.size, 2, none⟩ (.string xt)) = wc2 at X5 X3 C3 B3 G5 ⊢
        clear hw X1 B2 G5b Z1
        have MK : Aside0 (∀ w', Below wc2.heap.size wc2 w' → (Below wc2.heap.size wc2 w' ∧ w'.cell? ⟨wa2.heap.size, 0, none⟩ = some (.int .i64 x0) ∧ w'.cell? ⟨wa2.heap.size, 1, none⟩ = some (.string xt) ∧ w'.cell? ⟨wb0.heap.size, 0, none⟩ = some (.int .i64 3) ∧ w'.cell? ⟨wb0.heap.size, 1, none⟩ = some (.slice A2 1 c2) ∧ w'.cell? ⟨wb0.heap.size, 2, none⟩ = some (.string xt))) := ⟨fun w' h => by
          have Y3 := (h.block wa2.heap.size (Array.getElem?_eq_some_iff.1 X3.out).1).trans X3.out
          have Y5 := (h.block wb0.heap.size (Array.getElem?_eq_some_iff.1 X5.out).1).trans X5.out
          obtain ⟨⟨m0, _⟩, ⟨m1, _⟩⟩ := box2 Y3
          obtain ⟨⟨n0, _⟩, ⟨n1, _⟩, ⟨n2, _⟩⟩ := box3 Y5
          exact ⟨h, m0, m1, n0, n1, n2⟩⟩
        refine wp_region_held_drew (S := (fun w' => Below wc2.heap.size wc2 w' ∧ w'.cell? ⟨wa2.heap.size, 0, none⟩ = some (.int .i64 x0) ∧ w'.cell? ⟨wa2.heap.size, 1, none⟩ = some (.string xt) ∧ w'.cell? ⟨wb0.heap.size, 0, none⟩ = some (.int .i64 3) ∧ w'.cell? ⟨wb0.heap.size, 1, none⟩ = some (.slice A2 1 c2) ∧ w'.cell? ⟨wb0.heap.size, 2, none⟩ = some (.string xt))) (by kernel_rfl) ?_ (fun hHeld => ?_)
        · try dsimp only
          (first
            | exact MK.out _ (Below.drew (Below.refl _ _))
            | exact MK.out _ (pw_below_drewN (Below.refl _ _) _)
            | exact MK.out _ SB1.out
            | exact MK.out _ SB2.out
            | exact (by go_split_ands; assumption)
            | fail)
        refine wpAnyH_take (i := 0) (oi := _) (v := _) rfl (by kernel_rfl) (by kernel_rfl) (by kernel_rfl) (fun _ _ _ h => h) (Or.inl ⟨by rfl, by (intro w hSw; (try dsimp only at hSw); go_simp; try with_reducible rfl)⟩) hHeld ?_
        simp only [Act.put, List.getElem_toArray, List.getElem_cons_zero, List.getElem_cons_succ, List.setIfInBounds_toArray, List.set_cons_zero, List.set_cons_succ]
        refine wpAnyH_take (i := 1) (oi := _) (v := _) rfl (by kernel_rfl) (by kernel_rfl) (by kernel_rfl) (fun _ _ _ h => h) (Or.inl ⟨by rfl, by (intro w hSw; (try dsimp only at hSw); go_simp; try with_reducible rfl)⟩) hHeld ?_
        simp only [Act.put, List.getElem_toArray, List.getElem_cons_zero, List.getElem_cons_succ, List.setIfInBounds_toArray, List.set_cons_zero, List.set_cons_succ]
        refine wpAnyH_take (i := 2) (oi := _) (v := _) rfl (by kernel_rfl) (by kernel_rfl) (by kernel_rfl) (fun _ _ _ h => h) (Or.inl ⟨by rfl, by (intro w hSw; (try dsimp only at hSw); go_simp; try with_reducible rfl)⟩) hHeld ?_
        simp only [Act.put, List.getElem_toArray, List.getElem_cons_zero, List.getElem_cons_succ, List.setIfInBounds_toArray, List.set_cons_zero, List.set_cons_succ]
        refine wpAnyH_take (i := 3) (oi := _) (v := _) rfl (by kernel_rfl) (by kernel_rfl) (by kernel_rfl) (fun _ _ _ h => h) (Or.inl ⟨by rfl, by (intro w hSw; (try dsimp only at hSw); go_simp; try with_reducible rfl)⟩) hHeld ?_
        simp only [Act.put, List.getElem_toArray, List.getElem_cons_zero, List.getElem_cons_succ, List.setIfInBounds_toArray, List.set_cons_zero, List.set_cons_succ]
        refine wpAnyH_take (i := 4) (oi := _) (v := _) rfl (by kernel_rfl) (by kernel_rfl) (by kernel_rfl) (fun _ _ _ h => h) (Or.inl ⟨by rfl, by (intro w hSw; (try dsimp only at hSw); go_simp; try with_reducible rfl)⟩) hHeld ?_
        simp only [Act.put, List.getElem_toArray, List.getElem_cons_zero, List.getElem_cons_succ, List.setIfInBounds_toArray, List.set_cons_zero, List.set_cons_succ]
        refine wpAnyH_take (i := 5) (oi := _) (v := _) rfl (by kernel_rfl) (by kernel_rfl) (by kernel_rfl) (fun _ _ _ h => h) (Or.inl ⟨by rfl, by (intro w hSw; (try dsimp only at hSw); go_simp; try with_reducible rfl)⟩) hHeld ?_
        simp only [Act.put, List.getElem_toArray, List.getElem_cons_zero, List.getElem_cons_succ, List.setIfInBounds_toArray, List.set_cons_zero, List.set_cons_succ]
        refine wpAnyH_take (i := 6) (oi := _) (v := _) rfl (by kernel_rfl) (by kernel_rfl) (by kernel_rfl) (fun _ _ _ h => h) (Or.inl ⟨by rfl, by (intro w hSw; (try dsimp only at hSw); go_simp; try with_reducible rfl)⟩) hHeld ?_
        simp only [Act.put, List.getElem_toArray, List.getElem_cons_zero, List.getElem_cons_succ, List.setIfInBounds_toArray, List.set_cons_zero, List.set_cons_succ]
        refine wpAnyH_take (i := 7) (oi := _) (v := _) rfl (by kernel_rfl) (by kernel_rfl) (by kernel_rfl) (fun _ _ _ h => h) (Or.inl ⟨by rfl, by (intro w hSw; (try dsimp only at hSw); go_simp; try with_reducible rfl)⟩) hHeld ?_
        simp only [Act.put, List.getElem_toArray, List.getElem_cons_zero, List.getElem_cons_succ, List.setIfInBounds_toArray, List.set_cons_zero, List.set_cons_succ]
        refine wpAnyH_take (i := 9) (oi := _) (v := _) rfl (by kernel_rfl) (by kernel_rfl) (by kernel_rfl) (fun _ _ _ h => h) (Or.inl ⟨by rfl, by (intro w hSw; (try dsimp only at hSw); go_simp; try with_reducible rfl)⟩) hHeld ?_
        simp only [Act.put, List.getElem_toArray, List.getElem_cons_zero, List.getElem_cons_succ, List.setIfInBounds_toArray, List.set_cons_zero, List.set_cons_succ]
        refine wpAnyH_ready (rs := [8]) (by kernel_rfl) (by simp) ?_
        refine AllReadyH.cons rfl (fun K hK => ?_) AllReadyH.nil
        go_simp
        go_wp2_with (refine (cisternlaw07_homeRec.calls x0 xt _ _ _ _ rfl).mono ?_; rintro e w4 ⟨v, rfl, hR, hB⟩; obtain ⟨A4, c4, rfl, h4, hC4⟩ := Kd.R_reads hR; have SB1 : Aside0 (Below wc2.heap.size wc2 w4) := ⟨by go_split_ands; exact Below.trans (by assumption) (hB.mono (Below.size (by assumption)))⟩; have C4 := Aside0.mk hC4; have L4 := Aside0.mk h4; clear hR hB hC4 h4)
        refine hK.out _ _ ?_ (fun hNew => ?_)
        · try dsimp only
          (first
            | exact MK.out _ (Below.drew (Below.refl _ _))
            | exact MK.out _ (pw_below_drewN (Below.refl _ _) _)
            | exact MK.out _ SB1.out
            | exact MK.out _ SB2.out
            | exact (by go_split_ands; assumption)
            | fail)
        clear hK K hHeld
        have hHeld := hNew
        clear hNew
        refine wpAnyH_ready (rs := [10]) (by kernel_rfl) (by simp) ?_
        refine AllReadyH.cons rfl (fun K hK => ?_) AllReadyH.nil
        go_simp
        go_wp2_with (refine (cisternlaw07_same.calls 50 3 A4 c4 [x0] xt 3 A2 c2 [x0] xt true _ C4.out L4.out (Kd.C_below C3.out (by go_split_ands; assumption)) L2.out (recsame_val 3 [x0] xt (by simp) 50 (by simp))).mono ?_; rintro e w5 ⟨rfl, hB⟩; have SB2 : Aside0 (Below wc2.heap.size wc2 w5) := ⟨by go_split_ands; exact Below.trans (by assumption) (hB.mono (Below.size (by assumption)))⟩; clear hB)
        refine hK.out _ _ ?_ (fun hNew => ?_)
        · try dsimp only
          (first
            | exact MK.out _ (Below.drew (Below.refl _ _))
            | exact MK.out _ (pw_below_drewN (Below.refl _ _) _)
            | exact MK.out _ SB1.out
            | exact MK.out _ SB2.out
            | exact (by go_split_ands; assumption)
            | fail)
        clear hK K hHeld
        have hHeld := hNew
        clear hNew
        refine wpAnyH_take (i := 11) (oi := _) (v := _) rfl (by kernel_rfl) (by kernel_rfl) (by kernel_rfl) (fun _ _ _ h => h) (Or.inl ⟨by rfl, by (intro w hSw; (try dsimp only at hSw); go_simp; try with_reducible rfl)⟩) hHeld ?_
        simp only [Act.put, List.getElem_toArray, List.getElem_cons_zero, List.getElem_cons_succ, List.setIfInBounds_toArray, List.set_cons_zero, List.set_cons_succ]
        refine wpAnyH_take (i := 12) (oi := _) (v := _) rfl (by kernel_rfl) (by kernel_rfl) (by kernel_rfl) (fun _ _ _ h => h) (Or.inl ⟨by rfl, by (intro w hSw; (try dsimp only at hSw); go_simp; try with_reducible rfl)⟩) hHeld ?_
        simp only [Act.put, List.getElem_toArray, List.getElem_cons_zero, List.getElem_cons_succ, List.setIfInBounds_toArray, List.set_cons_zero, List.set_cons_succ]
        refine wpAnyH_take (i := 13) (oi := _) (v := _) rfl (by kernel_rfl) (by kernel_rfl) (by kernel_rfl) (fun _ _ _ h => h) (Or.inl ⟨by rfl, by (intro w hSw; (try dsimp only at hSw); go_simp; try with_reducible rfl)⟩) hHeld ?_
        simp only [Act.put, List.getElem_toArray, List.getElem_cons_zero, List.getElem_cons_succ, List.setIfInBounds_toArray, List.set_cons_zero, List.set_cons_succ]
        refine wpAnyH_take (i := 14) (oi := _) (v := _) rfl (by kernel_rfl) (by kernel_rfl) (by kernel_rfl) (fun _ _ _ h => h) (Or.inl ⟨by rfl, by (intro w hSw; (try dsimp only at hSw); go_simp; try with_reducible rfl)⟩) hHeld ?_
        simp only [Act.put, List.getElem_toArray, List.getElem_cons_zero, List.getElem_cons_succ, List.setIfInBounds_toArray, List.set_cons_zero, List.set_cons_succ]
        refine wpAnyH_take (i := 15) (oi := _) (v := _) rfl (by kernel_rfl) (by kernel_rfl) (by kernel_rfl) (fun _ _ _ h => h) (Or.inl ⟨by rfl, by (intro w hSw; (try dsimp only at hSw); go_simp; try with_reducible rfl)⟩) hHeld ?_
        simp only [Act.put, List.getElem_toArray, List.getElem_cons_zero, List.getElem_cons_succ, List.setIfInBounds_toArray, List.set_cons_zero, List.set_cons_succ]
        refine wpAnyH_take (i := 16) (oi := _) (v := _) rfl (by kernel_rfl) (by kernel_rfl) (by kernel_rfl) (fun _ _ _ h => h) (Or.inl ⟨by rfl, by (intro w hSw; (try dsimp only at hSw); go_simp; try with_reducible rfl)⟩) hHeld ?_
        simp only [Act.put, List.getElem_toArray, List.getElem_cons_zero, List.getElem_cons_succ, List.setIfInBounds_toArray, List.set_cons_zero, List.set_cons_succ]
        refine wpAnyH_take (i := 17) (oi := _) (v := undef) rfl (by kernel_rfl) (by kernel_rfl) (by kernel_rfl) (fun _ _ _ h => h) (Or.inr ⟨by rfl, rfl⟩) hHeld ?_
        simp only [Act.put, List.getElem_toArray, List.getElem_cons_zero, List.getElem_cons_succ, List.setIfInBounds_toArray, List.set_cons_zero, List.set_cons_succ]
        refine wpAnyH_take (i := 18) (oi := _) (v := undef) rfl (by kernel_rfl) (by kernel_rfl) (by kernel_rfl) (fun _ _ _ h => h) (Or.inr ⟨by rfl, rfl⟩) hHeld ?_
        simp only [Act.put, List.getElem_toArray, List.getElem_cons_zero, List.getElem_cons_succ, List.setIfInBounds_toArray, List.set_cons_zero, List.set_cons_succ]
        refine wpAnyH_take (i := 19) (oi := _) (v := undef) rfl (by kernel_rfl) (by kernel_rfl) (by kernel_rfl) (fun _ _ _ h => h) (Or.inr ⟨by rfl, rfl⟩) hHeld ?_
        simp only [Act.put, List.getElem_toArray, List.getElem_cons_zero, List.getElem_cons_succ, List.setIfInBounds_toArray, List.set_cons_zero, List.set_cons_succ]
        refine wpAnyH_take (i := 20) (oi := _) (v := _) rfl (by kernel_rfl) (by kernel_rfl) (by kernel_rfl) (fun _ _ _ h => h) (Or.inl ⟨by rfl, by (intro w hSw; (try dsimp only at hSw); go_simp; try with_reducible rfl)⟩) hHeld ?_
        simp only [Act.put, List.getElem_toArray, List.getElem_cons_zero, List.getElem_cons_succ, List.setIfInBounds_toArray, List.set_cons_zero, List.set_cons_succ]
        refine wpAnyH_take (i := 21) (oi := _) (v := _) rfl (by kernel_rfl) (by kernel_rfl) (by kernel_rfl) (fun _ _ _ h => h) (Or.inl ⟨by rfl, by (intro w hSw; (try dsimp only at hSw); go_simp; try with_reducible rfl)⟩) hHeld ?_
        simp only [Act.put, List.getElem_toArray, List.getElem_cons_zero, List.getElem_cons_succ, List.setIfInBounds_toArray, List.set_cons_zero, List.set_cons_succ]
        refine wpAnyH_take (i := 22) (oi := _) (v := _) rfl (by kernel_rfl) (by kernel_rfl) (by kernel_rfl) (fun _ _ _ h => h) (Or.inl ⟨by rfl, by (intro w hSw; (try dsimp only at hSw); go_simp; try with_reducible rfl)⟩) hHeld ?_
        simp only [Act.put, List.getElem_toArray, List.getElem_cons_zero, List.getElem_cons_succ, List.setIfInBounds_toArray, List.set_cons_zero, List.set_cons_succ]
        refine wpAnyH_done (by kernel_rfl) ?_ _
        obtain ⟨we2, h5, hw⟩ : ∃ we2, Aside0 (Below wc2.heap.size wc2 we2) ∧ we2 = w5 := ⟨_, SB2, rfl⟩
        rw [← hw]
        have P5 := Aside0.mk ((h5.out.block wb0.heap.size G5).trans X5.out)
        have G5 : wb0.heap.size < we2.heap.size := Nat.lt_of_lt_of_le G5 h5.out.size
        have BA := Aside0.mk (B3.out.trans (h5.out.mono B3.out.size))
        clear DD HP B1 L2 X3 X5 C3 B3 MK hHeld hw h5 C4 L4 SB1 SB2
        go_wp2_with fail
        go_ret
        exact ⟨rfl, BA.out⟩
      · have DD := Aside0.mk (recdecode_val l0 W0.out hl0 3 (by omega) (by omega) K K2.out)
        rw [hd] at DD
        have HP := Aside0.mk hp
        clear hd hp
        have f1 : (ee == 0) = false := beq_eq_false_iff_ne.2 he
        have f2 : (ee != 0) = true := bne_iff_ne.2 he
        clear he
        go_wp2_with fail
        refine (record_DecodeHome.calls K A0 c0 l0 0 ⟨#[]⟩ ee we1 (Kd.C_below R0.out BA.out) C0.out HP.out).mono ?_
        rintro e wa2 ⟨rfl, hB⟩
        have B1 := Aside0.mk (BA.out.trans (hB.mono BA.out.size))
        have cv := fun (ob : Obj) c => Kd.C_string (c := c) (P := Tryd.prog) Tryd.underlying36 Tryd.underlying5 Tryd.underlying9 (Kd.C_alloc (Kd.C_below R0.out B1.out) ob)
        have P5 := Aside0.mk ((hB.block wb0.heap.size G5).trans P5.out)
        have G5 : wb0.heap.size < wa2.heap.size := Nat.lt_of_lt_of_le G5 hB.size
        clear hB
        go_wp2_with fail
        refine (cisternref07_DocDecode.calls K (strOfNums l0) 3 0 ([] : List Int) ⟨#[]⟩ ee _ DD.out).mono ?_
        rintro e wb2 ⟨v, rfl, hR, hB⟩
        have B2 := Aside0.mk (B1.out.trans ((below_alloc (Below.refl _ _) _).trans (hB.mono (by simp)) |>.mono B1.out.size))
        have X1 := Aside0.mk ((hB.block wa2.heap.size (by simp)).trans (heap_alloc_new wa2 (.cells #[.int .i64 0, .string ⟨#[]⟩] 27)))
        have Z1 : wa2.heap.size < wb2.heap.size := by have := hB.size; simp at this; omega
        have P5 := Aside0.mk ((hB.block wb0.heap.size (by simp; omega)).trans (((below_alloc (Below.refl wa2.heap.size wa2) (.cells #[.int .i64 0, .string ⟨#[]⟩] 27)).block wb0.heap.size G5).trans P5.out))
        have R2 := Kd.R_lower (base' := wb0.heap.size + 1) hR (by simp; omega)
        obtain ⟨A2, c2, rfl⟩ := Kd.R_slice R2
        have L2 := Aside0.mk (Kd.R_reads' R2).2.1
        have C2 := fun v0 v1 v2 => kept3 (v0 := v0) (v1 := v1) (v2 := v2) R2
        have G5b : wb0.heap.size < wb2.heap.size := by have := hB.size; simp at this; omega
        obtain ⟨⟨t0, u0⟩, ⟨t1, u1⟩, ⟨t2, u2⟩⟩ := box3 P5.out
        clear hR hB cv R2
        go_wp2_with fail
        have X5 := Aside0.mk (put3 (v0 := .int .i64 0) (v1 := .slice A2 (([] : List Int) : List Int).length c2) (v2 := .string ⟨#[]⟩) P5.out)
        have X3 := Aside0.mk ((other3 (W := wb2) (g := wb0.heap.size) (v0 := .int .i64 0) (v1 := .slice A2 (([] : List Int) : List Int).length c2) (v2 := .string ⟨#[]⟩) (k := wa2.heap.size) (by omega)).trans X1.out)
        have C3 := Aside0.mk (C2 (.int .i64 0) (.slice A2 (([] : List Int) : List Int).length c2) (.string ⟨#[]⟩))
        have B3 := Aside0.mk (below3 (v0 := .int .i64 0) (v1 := .slice A2 (([] : List Int) : List Int).length c2) (v2 := .string ⟨#[]⟩) GW.out B2.out)
        have G5 : wb0.heap.size < ((((wb2.setCell ⟨wb0.heap.size, 0, none⟩ (.int .i64 0)).setCell ⟨wb0.heap.size, 1, none⟩ (.slice A2 (([] : List Int) : List Int).length c2)).setCell ⟨wb0.heap.size, 2, none⟩ (.string ⟨#[]⟩))).heap.size := by simpa [World.setCell] using G5b
        simp only [List.length_cons, List.length_nil, Nat.zero_add, Nat.reduceAdd] at X5 X3 C3 B3 G5
        clear C2 t0 u0 t1 u1 t2 u2
        generalize hw : (((wb2.setCell ⟨wb0.heap.size, 0, none⟩ (.int .i64 0)).setCell ⟨wb0.heap.size, 1, none⟩ (.slice A2 0 c2)).setCell ⟨wb0.heap.size, 2, none⟩ (.string ⟨#[]⟩)) = wc2 at X5 X3 C3 B3 G5 ⊢
        clear hw X1 B2 G5b Z1
        have MK : Aside0 (∀ w', Below wc2.heap.size wc2 w' → (Below wc2.heap.size wc2 w' ∧ w'.cell? ⟨wa2.heap.size, 0, none⟩ = some (.int .i64 0) ∧ w'.cell? ⟨wa2.heap.size, 1, none⟩ = some (.string ⟨#[]⟩) ∧ w'.cell? ⟨wb0.heap.size, 0, none⟩ = some (.int .i64 0) ∧ w'.cell? ⟨wb0.heap.size, 1, none⟩ = some (.slice A2 0 c2) ∧ w'.cell? ⟨wb0.heap.size, 2, none⟩ = some (.string ⟨#[]⟩))) := ⟨fun w' h => by
          have Y3 := (h.block wa2.heap.size (Array.getElem?_eq_some_iff.1 X3.out).1).trans X3.out
          have Y5 := (h.block wb0.heap.size (Array.getElem?_eq_some_iff.1 X5.out).1).trans X5.out
          obtain ⟨⟨m0, _⟩, ⟨m1, _⟩⟩ := box2 Y3
          obtain ⟨⟨n0, _⟩, ⟨n1, _⟩, ⟨n2, _⟩⟩ := box3 Y5
          exact ⟨h, m0, m1, n0, n1, n2⟩⟩
        refine wp_region_held_drew (S := (fun w' => Below wc2.heap.size wc2 w' ∧ w'.cell? ⟨wa2.heap.size, 0, none⟩ = some (.int .i64 0) ∧ w'.cell? ⟨wa2.heap.size, 1, none⟩ = some (.string ⟨#[]⟩) ∧ w'.cell? ⟨wb0.heap.size, 0, none⟩ = some (.int .i64 0) ∧ w'.cell? ⟨wb0.heap.size, 1, none⟩ = some (.slice A2 0 c2) ∧ w'.cell? ⟨wb0.heap.size, 2, none⟩ = some (.string ⟨#[]⟩))) (by kernel_rfl) ?_ (fun hHeld => ?_)
        · try dsimp only
          (first
            | exact MK.out _ (Below.drew (Below.refl _ _))
            | exact MK.out _ (pw_below_drewN (Below.refl _ _) _)
            | exact MK.out _ SB1.out
            | exact MK.out _ SB2.out
            | exact (by go_split_ands; assumption)
            | fail)
        refine wpAnyH_take (i := 0) (oi := _) (v := _) rfl (by kernel_rfl) (by kernel_rfl) (by kernel_rfl) (fun _ _ _ h => h) (Or.inl ⟨by rfl, by (intro w hSw; (try dsimp only at hSw); go_simp; try with_reducible rfl)⟩) hHeld ?_
        simp only [Act.put, List.getElem_toArray, List.getElem_cons_zero, List.getElem_cons_succ, List.setIfInBounds_toArray, List.set_cons_zero, List.set_cons_succ]
        refine wpAnyH_take (i := 1) (oi := _) (v := _) rfl (by kernel_rfl) (by kernel_rfl) (by kernel_rfl) (fun _ _ _ h => h) (Or.inl ⟨by rfl, by (intro w hSw; (try dsimp only at hSw); go_simp; try with_reducible rfl)⟩) hHeld ?_
        simp only [Act.put, List.getElem_toArray, List.getElem_cons_zero, List.getElem_cons_succ, List.setIfInBounds_toArray, List.set_cons_zero, List.set_cons_succ]
        refine wpAnyH_take (i := 2) (oi := _) (v := _) rfl (by kernel_rfl) (by kernel_rfl) (by kernel_rfl) (fun _ _ _ h => h) (Or.inl ⟨by rfl, by (intro w hSw; (try dsimp only at hSw); go_simp; try with_reducible rfl)⟩) hHeld ?_
        simp only [Act.put, List.getElem_toArray, List.getElem_cons_zero, List.getElem_cons_succ, List.setIfInBounds_toArray, List.set_cons_zero, List.set_cons_succ]
        refine wpAnyH_take (i := 3) (oi := _) (v := _) rfl (by kernel_rfl) (by kernel_rfl) (by kernel_rfl) (fun _ _ _ h => h) (Or.inl ⟨by rfl, by (intro w hSw; (try dsimp only at hSw); go_simp; try with_reducible rfl)⟩) hHeld ?_
        simp only [Act.put, List.getElem_toArray, List.getElem_cons_zero, List.getElem_cons_succ, List.setIfInBounds_toArray, List.set_cons_zero, List.set_cons_succ]
        refine wpAnyH_take (i := 4) (oi := _) (v := _) rfl (by kernel_rfl) (by kernel_rfl) (by kernel_rfl) (fun _ _ _ h => h) (Or.inl ⟨by rfl, by (intro w hSw; (try dsimp only at hSw); go_simp; try with_reducible rfl)⟩) hHeld ?_
        simp only [Act.put, List.getElem_toArray, List.getElem_cons_zero, List.getElem_cons_succ, List.setIfInBounds_toArray, List.set_cons_zero, List.set_cons_succ]
        refine wpAnyH_take (i := 5) (oi := _) (v := _) rfl (by kernel_rfl) (by kernel_rfl) (by kernel_rfl) (fun _ _ _ h => h) (Or.inl ⟨by rfl, by (intro w hSw; (try dsimp only at hSw); go_simp; try with_reducible rfl)⟩) hHeld ?_
        simp only [Act.put, List.getElem_toArray, List.getElem_cons_zero, List.getElem_cons_succ, List.setIfInBounds_toArray, List.set_cons_zero, List.set_cons_succ]
        refine wpAnyH_take (i := 6) (oi := _) (v := _) rfl (by kernel_rfl) (by kernel_rfl) (by kernel_rfl) (fun _ _ _ h => h) (Or.inl ⟨by rfl, by (intro w hSw; (try dsimp only at hSw); go_simp; try with_reducible rfl)⟩) hHeld ?_
        simp only [Act.put, List.getElem_toArray, List.getElem_cons_zero, List.getElem_cons_succ, List.setIfInBounds_toArray, List.set_cons_zero, List.set_cons_succ]
        refine wpAnyH_take (i := 7) (oi := _) (v := undef) rfl (by kernel_rfl) (by kernel_rfl) (by kernel_rfl) (fun _ _ _ h => h) (Or.inr ⟨by rfl, rfl⟩) hHeld ?_
        simp only [Act.put, List.getElem_toArray, List.getElem_cons_zero, List.getElem_cons_succ, List.setIfInBounds_toArray, List.set_cons_zero, List.set_cons_succ]
        refine wpAnyH_take (i := 8) (oi := _) (v := undef) rfl (by kernel_rfl) (by kernel_rfl) (by kernel_rfl) (fun _ _ _ h => h) (Or.inr ⟨by rfl, rfl⟩) hHeld ?_
        simp only [Act.put, List.getElem_toArray, List.getElem_cons_zero, List.getElem_cons_succ, List.setIfInBounds_toArray, List.set_cons_zero, List.set_cons_succ]
        refine wpAnyH_take (i := 9) (oi := _) (v := undef) rfl (by kernel_rfl) (by kernel_rfl) (by kernel_rfl) (fun _ _ _ h => h) (Or.inr ⟨by rfl, rfl⟩) hHeld ?_
        simp only [Act.put, List.getElem_toArray, List.getElem_cons_zero, List.getElem_cons_succ, List.setIfInBounds_toArray, List.set_cons_zero, List.set_cons_succ]
        refine wpAnyH_take (i := 10) (oi := _) (v := undef) rfl (by kernel_rfl) (by kernel_rfl) (by kernel_rfl) (fun _ _ _ h => h) (Or.inr ⟨by rfl, rfl⟩) hHeld ?_
        simp only [Act.put, List.getElem_toArray, List.getElem_cons_zero, List.getElem_cons_succ, List.setIfInBounds_toArray, List.set_cons_zero, List.set_cons_succ]
        refine wpAnyH_take (i := 11) (oi := _) (v := _) rfl (by kernel_rfl) (by kernel_rfl) (by kernel_rfl) (fun _ _ _ h => h) (Or.inl ⟨by rfl, by (intro w hSw; (try dsimp only at hSw); go_simp; try with_reducible rfl)⟩) hHeld ?_
        simp only [Act.put, List.getElem_toArray, List.getElem_cons_zero, List.getElem_cons_succ, List.setIfInBounds_toArray, List.set_cons_zero, List.set_cons_succ]
        refine wpAnyH_take (i := 12) (oi := _) (v := _) rfl (by kernel_rfl) (by kernel_rfl) (by kernel_rfl) (fun _ _ _ h => h) (Or.inl ⟨by rfl, by (intro w hSw; (try dsimp only at hSw); go_simp; try with_reducible rfl)⟩) hHeld ?_
        simp only [Act.put, List.getElem_toArray, List.getElem_cons_zero, List.getElem_cons_succ, List.setIfInBounds_toArray, List.set_cons_zero, List.set_cons_succ]
        refine wpAnyH_take (i := 13) (oi := _) (v := _) rfl (by kernel_rfl) (by kernel_rfl) (by kernel_rfl) (fun _ _ _ h => h) (Or.inl ⟨by rfl, by (intro w hSw; (try dsimp only at hSw); go_simp; try with_reducible rfl)⟩) hHeld ?_
        simp only [Act.put, List.getElem_toArray, List.getElem_cons_zero, List.getElem_cons_succ, List.setIfInBounds_toArray, List.set_cons_zero, List.set_cons_succ]
        refine wpAnyH_take (i := 14) (oi := _) (v := _) rfl (by kernel_rfl) (by kernel_rfl) (by kernel_rfl) (fun _ _ _ h => h) (Or.inl ⟨by rfl, by (intro w hSw; (try dsimp only at hSw); go_simp; try with_reducible rfl)⟩) hHeld ?_
        simp only [Act.put, List.getElem_toArray, List.getElem_cons_zero, List.getElem_cons_succ, List.setIfInBounds_toArray, List.set_cons_zero, List.set_cons_succ]
        refine wpAnyH_take (i := 15) (oi := _) (v := _) rfl (by kernel_rfl) (by kernel_rfl) (by kernel_rfl) (fun _ _ _ h => h) (Or.inl ⟨by rfl, by (intro w hSw; (try dsimp only at hSw); go_simp; try with_reducible rfl)⟩) hHeld ?_
        simp only [Act.put, List.getElem_toArray, List.getElem_cons_zero, List.getElem_cons_succ, List.setIfInBounds_toArray, List.set_cons_zero, List.set_cons_succ]
        refine wpAnyH_take (i := 16) (oi := _) (v := _) rfl (by kernel_rfl) (by kernel_rfl) (by kernel_rfl) (fun _ _ _ h => h) (Or.inl ⟨by rfl, by (intro w hSw; (try dsimp only at hSw); go_simp; try with_reducible rfl)⟩) hHeld ?_
        simp only [Act.put, List.getElem_toArray, List.getElem_cons_zero, List.getElem_cons_succ, List.setIfInBounds_toArray, List.set_cons_zero, List.set_cons_succ]
        refine wpAnyH_take (i := 17) (oi := _) (v := _) rfl (by kernel_rfl) (by kernel_rfl) (by kernel_rfl) (fun _ _ _ h => h) (Or.inl ⟨by rfl, by (intro w hSw; (try dsimp only at hSw); go_simp; try with_reducible rfl)⟩) hHeld ?_
        simp only [Act.put, List.getElem_toArray, List.getElem_cons_zero, List.getElem_cons_succ, List.setIfInBounds_toArray, List.set_cons_zero, List.set_cons_succ]
        refine wpAnyH_take (i := 18) (oi := _) (v := _) rfl (by kernel_rfl) (by kernel_rfl) (by kernel_rfl) (fun _ _ _ h => h) (Or.inl ⟨by rfl, by (intro w hSw; (try dsimp only at hSw); go_simp; try with_reducible rfl)⟩) hHeld ?_
        simp only [Act.put, List.getElem_toArray, List.getElem_cons_zero, List.getElem_cons_succ, List.setIfInBounds_toArray, List.set_cons_zero, List.set_cons_succ]
        refine wpAnyH_take (i := 19) (oi := _) (v := _) rfl (by kernel_rfl) (by kernel_rfl) (by kernel_rfl) (fun _ _ _ h => h) (Or.inl ⟨by rfl, by (intro w hSw; (try dsimp only at hSw); go_simp; try with_reducible rfl)⟩) hHeld ?_
        simp only [Act.put, List.getElem_toArray, List.getElem_cons_zero, List.getElem_cons_succ, List.setIfInBounds_toArray, List.set_cons_zero, List.set_cons_succ]
        refine wpAnyH_take (i := 20) (oi := _) (v := _) rfl (by kernel_rfl) (by kernel_rfl) (by kernel_rfl) (fun _ _ _ h => h) (Or.inl ⟨by rfl, by (intro w hSw; (try dsimp only at hSw); go_simp; try with_reducible rfl)⟩) hHeld ?_
        simp only [Act.put, List.getElem_toArray, List.getElem_cons_zero, List.getElem_cons_succ, List.setIfInBounds_toArray, List.set_cons_zero, List.set_cons_succ]
        refine wpAnyH_take (i := 21) (oi := _) (v := _) rfl (by kernel_rfl) (by kernel_rfl) (by kernel_rfl) (fun _ _ _ h => h) (Or.inl ⟨by rfl, by (intro w hSw; (try dsimp only at hSw); go_simp; try with_reducible rfl)⟩) hHeld ?_
        simp only [Act.put, List.getElem_toArray, List.getElem_cons_zero, List.getElem_cons_succ, List.setIfInBounds_toArray, List.set_cons_zero, List.set_cons_succ]
        refine wpAnyH_take (i := 22) (oi := _) (v := _) rfl (by kernel_rfl) (by kernel_rfl) (by kernel_rfl) (fun _ _ _ h => h) (Or.inl ⟨by rfl, by (intro w hSw; (try dsimp only at hSw); go_simp; try with_reducible rfl)⟩) hHeld ?_
        simp only [Act.put, List.getElem_toArray, List.getElem_cons_zero, List.getElem_cons_succ, List.setIfInBounds_toArray, List.set_cons_zero, List.set_cons_succ]
        refine wpAnyH_done (by kernel_rfl) ?_ _
        obtain ⟨we2, h5, hw⟩ : ∃ we2, Aside0 (Below wc2.heap.size wc2 we2) ∧ we2 = wc2.drew := ⟨_, ⟨Below.drew (Below.refl _ _)⟩, rfl⟩
        rw [← hw]
        have P5 := Aside0.mk ((h5.out.block wb0.heap.size G5).trans X5.out)
        have G5 : wb0.heap.size < we2.heap.size := Nat.lt_of_lt_of_le G5 h5.out.size
        have BA := Aside0.mk (B3.out.trans (h5.out.mono B3.out.size))
        clear DD HP B1 L2 X3 X5 C3 B3 MK hHeld hw h5 f1 f2
        go_wp2_with fail
        go_ret
        exact ⟨rfl, BA.out⟩
    · have DD := Aside0.mk (recdecode_val l0 W0.out hl0 2 (by omega) (by omega) K K2.out)
      rw [hd] at DD
      have HP := Aside0.mk hp
      clear hd hp
      have f1 : (ee == 0) = false := beq_eq_false_iff_ne.2 he
      have f2 : (ee != 0) = true := bne_iff_ne.2 he
      clear he
      go_wp2_with fail
      refine (record_DecodeLog.calls K A0 c0 l0 0 0 0 0 0 0 0 ⟨#[]⟩ ee we0 (Kd.C_below R0.out BA.out) C0.out HP.out).mono ?_
      rintro e wa1 ⟨rfl, hB⟩
      have B1 := Aside0.mk (BA.out.trans (hB.mono BA.out.size))
      have cv := fun (ob : Obj) c => Kd.C_string (c := c) (P := Tryd.prog) Tryd.underlying36 Tryd.underlying5 Tryd.underlying9 (Kd.C_alloc (Kd.C_below R0.out B1.out) ob)
      have P5 := Aside0.mk ((hB.block wb0.heap.size G5).trans P5.out)
      have G5 : wb0.heap.size < wa1.heap.size := Nat.lt_of_lt_of_le G5 hB.size
      clear hB
      go_wp2_with fail
      refine (cisternref07_DocDecode.calls K (strOfNums l0) 2 0 ([] : List Int) ⟨#[]⟩ ee _ DD.out).mono ?_
      rintro e wb1 ⟨v, rfl, hR, hB⟩
      have B2 := Aside0.mk (B1.out.trans ((below_alloc (Below.refl _ _) _).trans (hB.mono (by simp)) |>.mono B1.out.size))
      have X1 := Aside0.mk ((hB.block wa1.heap.size (by simp)).trans (heap_alloc_new wa1 (.cells #[.int .i64 0, .int .i64 0, .int .i64 0, .int .i64 0, .int .i64 0, .int .i64 0, .int .i64 0, .string ⟨#[]⟩] 25)))
      have Z1 : wa1.heap.size < wb1.heap.size := by have := hB.size; simp at this; omega
      have P5 := Aside0.mk ((hB.block wb0.heap.size (by simp; omega)).trans (((below_alloc (Below.refl wa1.heap.size wa1) (.cells #[.int .i64 0, .int .i64 0, .int .i64 0, .int .i64 0, .int .i64 0, .int .i64 0, .int .i64 0, .string ⟨#[]⟩] 25)).block wb0.heap.size G5).trans P5.out))
      have R2 := Kd.R_lower (base' := wb0.heap.size + 1) hR (by simp; omega)
      obtain ⟨A2, c2, rfl⟩ := Kd.R_slice R2
      have L2 := Aside0.mk (Kd.R_reads' R2).2.1
      have C2 := fun v0 v1 v2 => kept3 (v0 := v0) (v1 := v1) (v2 := v2) R2
      have G5b : wb0.heap.size < wb1.heap.size := by have := hB.size; simp at this; omega
      obtain ⟨⟨t0, u0⟩, ⟨t1, u1⟩, ⟨t2, u2⟩⟩ := box3 P5.out
      clear hR hB cv R2
      go_wp2_with fail
      have X5 := Aside0.mk (put3 (v0 := .int .i64 0) (v1 := .slice A2 (([] : List Int) : List Int).length c2) (v2 := .string ⟨#[]⟩) P5.out)
      have X3 := Aside0.mk ((other3 (W := wb1) (g := wb0.heap.size) (v0 := .int .i64 0) (v1 := .slice A2 (([] : List Int) : List Int).length c2) (v2 := .string ⟨#[]⟩) (k := wa1.heap.size) (by omega)).trans X1.out)
      have C3 := Aside0.mk (C2 (.int .i64 0) (.slice A2 (([] : List Int) : List Int).length c2) (.string ⟨#[]⟩))
      have B3 := Aside0.mk (below3 (v0 := .int .i64 0) (v1 := .slice A2 (([] : List Int) : List Int).length c2) (v2 := .string ⟨#[]⟩) GW.out B2.out)
      have G5 : wb0.heap.size < ((((wb1.setCell ⟨wb0.heap.size, 0, none⟩ (.int .i64 0)).setCell ⟨wb0.heap.size, 1, none⟩ (.slice A2 (([] : List Int) : List Int).length c2)).setCell ⟨wb0.heap.size, 2, none⟩ (.string ⟨#[]⟩))).heap.size := by simpa [World.setCell] using G5b
      simp only [List.length_cons, List.length_nil, Nat.zero_add, Nat.reduceAdd] at X5 X3 C3 B3 G5
      clear C2 t0 u0 t1 u1 t2 u2
      generalize hw : (((wb1.setCell ⟨wb0.heap.size, 0, none⟩ (.int .i64 0)).setCell ⟨wb0.heap.size, 1, none⟩ (.slice A2 0 c2)).setCell ⟨wb0.heap.size, 2, none⟩ (.string ⟨#[]⟩)) = wc1 at X5 X3 C3 B3 G5 ⊢
      clear hw X1 B2 G5b Z1
      have MK : Aside0 (∀ w', Below wc1.heap.size wc1 w' → (Below wc1.heap.size wc1 w' ∧ w'.cell? ⟨wa1.heap.size, 0, none⟩ = some (.int .i64 0) ∧ w'.cell? ⟨wa1.heap.size, 1, none⟩ = some (.int .i64 0) ∧ w'.cell? ⟨wa1.heap.size, 2, none⟩ = some (.int .i64 0) ∧ w'.cell? ⟨wa1.heap.size, 3, none⟩ = some (.int .i64 0) ∧ w'.cell? ⟨wa1.heap.size, 4, none⟩ = some (.int .i64 0) ∧ w'.cell? ⟨wa1.heap.size, 5, none⟩ = some (.int .i64 0) ∧ w'.cell? ⟨wa1.heap.size, 6, none⟩ = some (.int .i64 0) ∧ w'.cell? ⟨wa1.heap.size, 7, none⟩ = some (.string ⟨#[]⟩) ∧ w'.cell? ⟨wb0.heap.size, 0, none⟩ = some (.int .i64 0) ∧ w'.cell? ⟨wb0.heap.size, 1, none⟩ = some (.slice A2 0 c2) ∧ w'.cell? ⟨wb0.heap.size, 2, none⟩ = some (.string ⟨#[]⟩))) := ⟨fun w' h => by
        have Y3 := (h.block wa1.heap.size (Array.getElem?_eq_some_iff.1 X3.out).1).trans X3.out
        have Y5 := (h.block wb0.heap.size (Array.getElem?_eq_some_iff.1 X5.out).1).trans X5.out
        obtain ⟨⟨m0, _⟩, ⟨m1, _⟩, ⟨m2, _⟩, ⟨m3, _⟩, ⟨m4, _⟩, ⟨m5, _⟩, ⟨m6, _⟩, ⟨m7, _⟩⟩ := box8d Y3
        obtain ⟨⟨n0, _⟩, ⟨n1, _⟩, ⟨n2, _⟩⟩ := box3 Y5
        exact ⟨h, m0, m1, m2, m3, m4, m5, m6, m7, n0, n1, n2⟩⟩
      refine wp_region_held_drew (S := (fun w' => Below wc1.heap.size wc1 w' ∧ w'.cell? ⟨wa1.heap.size, 0, none⟩ = some (.int .i64 0) ∧ w'.cell? ⟨wa1.heap.size, 1, none⟩ = some (.int .i64 0) ∧ w'.cell? ⟨wa1.heap.size, 2, none⟩ = some (.int .i64 0) ∧ w'.cell? ⟨wa1.heap.size, 3, none⟩ = some (.int .i64 0) ∧ w'.cell? ⟨wa1.heap.size, 4, none⟩ = some (.int .i64 0) ∧ w'.cell? ⟨wa1.heap.size, 5, none⟩ = some (.int .i64 0) ∧ w'.cell? ⟨wa1.heap.size, 6, none⟩ = some (.int .i64 0) ∧ w'.cell? ⟨wa1.heap.size, 7, none⟩ = some (.string ⟨#[]⟩) ∧ w'.cell? ⟨wb0.heap.size, 0, none⟩ = some (.int .i64 0) ∧ w'.cell? ⟨wb0.heap.size, 1, none⟩ = some (.slice A2 0 c2) ∧ w'.cell? ⟨wb0.heap.size, 2, none⟩ = some (.string ⟨#[]⟩))) (by kernel_rfl) ?_ (fun hHeld => ?_)
      · try dsimp only
        (first
          | exact MK.out _ (Below.drew (Below.refl _ _))
          | exact MK.out _ (pw_below_drewN (Below.refl _ _) _)
          | exact MK.out _ SB1.out
          | exact MK.out _ SB2.out
          | exact (by go_split_ands; assumption)
          | fail)
      refine wpAnyH_take (i := 0) (oi := _) (v := _) rfl (by kernel_rfl) (by kernel_rfl) (by kernel_rfl) (fun _ _ _ h => h) (Or.inl ⟨by rfl, by (intro w hSw; (try dsimp only at hSw); go_simp; try with_reducible rfl)⟩) hHeld ?_
      simp only [Act.put, List.getElem_toArray, List.getElem_cons_zero, List.getElem_cons_succ, List.setIfInBounds_toArray, List.set_cons_zero, List.set_cons_succ]
      refine wpAnyH_take (i := 1) (oi := _) (v := _) rfl (by kernel_rfl) (by kernel_rfl) (by kernel_rfl) (fun _ _ _ h => h) (Or.inl ⟨by rfl, by (intro w hSw; (try dsimp only at hSw); go_simp; try with_reducible rfl)⟩) hHeld ?_
      simp only [Act.put, List.getElem_toArray, List.getElem_cons_zero, List.getElem_cons_succ, List.setIfInBounds_toArray, List.set_cons_zero, List.set_cons_succ]
      refine wpAnyH_take (i := 2) (oi := _) (v := _) rfl (by kernel_rfl) (by kernel_rfl) (by kernel_rfl) (fun _ _ _ h => h) (Or.inl ⟨by rfl, by (intro w hSw; (try dsimp only at hSw); go_simp; try with_reducible rfl)⟩) hHeld ?_
      simp only [Act.put, List.getElem_toArray, List.getElem_cons_zero, List.getElem_cons_succ, List.setIfInBounds_toArray, List.set_cons_zero, List.set_cons_succ]
      refine wpAnyH_take (i := 3) (oi := _) (v := _) rfl (by kernel_rfl) (by kernel_rfl) (by kernel_rfl) (fun _ _ _ h => h) (Or.inl ⟨by rfl, by (intro w hSw; (try dsimp only at hSw); go_simp; try with_reducible rfl)⟩) hHeld ?_
      simp only [Act.put, List.getElem_toArray, List.getElem_cons_zero, List.getElem_cons_succ, List.setIfInBounds_toArray, List.set_cons_zero, List.set_cons_succ]
      refine wpAnyH_take (i := 4) (oi := _) (v := _) rfl (by kernel_rfl) (by kernel_rfl) (by kernel_rfl) (fun _ _ _ h => h) (Or.inl ⟨by rfl, by (intro w hSw; (try dsimp only at hSw); go_simp; try with_reducible rfl)⟩) hHeld ?_
      simp only [Act.put, List.getElem_toArray, List.getElem_cons_zero, List.getElem_cons_succ, List.setIfInBounds_toArray, List.set_cons_zero, List.set_cons_succ]
      refine wpAnyH_take (i := 5) (oi := _) (v := _) rfl (by kernel_rfl) (by kernel_rfl) (by kernel_rfl) (fun _ _ _ h => h) (Or.inl ⟨by rfl, by (intro w hSw; (try dsimp only at hSw); go_simp; try with_reducible rfl)⟩) hHeld ?_
      simp only [Act.put, List.getElem_toArray, List.getElem_cons_zero, List.getElem_cons_succ, List.setIfInBounds_toArray, List.set_cons_zero, List.set_cons_succ]
      refine wpAnyH_take (i := 6) (oi := _) (v := _) rfl (by kernel_rfl) (by kernel_rfl) (by kernel_rfl) (fun _ _ _ h => h) (Or.inl ⟨by rfl, by (intro w hSw; (try dsimp only at hSw); go_simp; try with_reducible rfl)⟩) hHeld ?_
      simp only [Act.put, List.getElem_toArray, List.getElem_cons_zero, List.getElem_cons_succ, List.setIfInBounds_toArray, List.set_cons_zero, List.set_cons_succ]
      refine wpAnyH_take (i := 7) (oi := _) (v := undef) rfl (by kernel_rfl) (by kernel_rfl) (by kernel_rfl) (fun _ _ _ h => h) (Or.inr ⟨by rfl, rfl⟩) hHeld ?_
      simp only [Act.put, List.getElem_toArray, List.getElem_cons_zero, List.getElem_cons_succ, List.setIfInBounds_toArray, List.set_cons_zero, List.set_cons_succ]
      refine wpAnyH_take (i := 8) (oi := _) (v := undef) rfl (by kernel_rfl) (by kernel_rfl) (by kernel_rfl) (fun _ _ _ h => h) (Or.inr ⟨by rfl, rfl⟩) hHeld ?_
      simp only [Act.put, List.getElem_toArray, List.getElem_cons_zero, List.getElem_cons_succ, List.setIfInBounds_toArray, List.set_cons_zero, List.set_cons_succ]
      refine wpAnyH_take (i := 9) (oi := _) (v := undef) rfl (by kernel_rfl) (by kernel_rfl) (by kernel_rfl) (fun _ _ _ h => h) (Or.inr ⟨by rfl, rfl⟩) hHeld ?_
      simp only [Act.put, List.getElem_toArray, List.getElem_cons_zero, List.getElem_cons_succ, List.setIfInBounds_toArray, List.set_cons_zero, List.set_cons_succ]
      refine wpAnyH_take (i := 10) (oi := _) (v := undef) rfl (by kernel_rfl) (by kernel_rfl) (by kernel_rfl) (fun _ _ _ h => h) (Or.inr ⟨by rfl, rfl⟩) hHeld ?_
      simp only [Act.put, List.getElem_toArray, List.getElem_cons_zero, List.getElem_cons_succ, List.setIfInBounds_toArray, List.set_cons_zero, List.set_cons_succ]
      refine wpAnyH_take (i := 11) (oi := _) (v := undef) rfl (by kernel_rfl) (by kernel_rfl) (by kernel_rfl) (fun _ _ _ h => h) (Or.inr ⟨by rfl, rfl⟩) hHeld ?_
      simp only [Act.put, List.getElem_toArray, List.getElem_cons_zero, List.getElem_cons_succ, List.setIfInBounds_toArray, List.set_cons_zero, List.set_cons_succ]
      refine wpAnyH_take (i := 12) (oi := _) (v := _) rfl (by kernel_rfl) (by kernel_rfl) (by kernel_rfl) (fun _ _ _ h => h) (Or.inl ⟨by rfl, by (intro w hSw; (try dsimp only at hSw); go_simp; try with_reducible rfl)⟩) hHeld ?_
      simp only [Act.put, List.getElem_toArray, List.getElem_cons_zero, List.getElem_cons_succ, List.setIfInBounds_toArray, List.set_cons_zero, List.set_cons_succ]
      refine wpAnyH_take (i := 13) (oi := _) (v := _) rfl (by kernel_rfl) (by kernel_rfl) (by kernel_rfl) (fun _ _ _ h => h) (Or.inl ⟨by rfl, by (intro w hSw; (try dsimp only at hSw); go_simp; try with_reducible rfl)⟩) hHeld ?_
      simp only [Act.put, List.getElem_toArray, List.getElem_cons_zero, List.getElem_cons_succ, List.setIfInBounds_toArray, List.set_cons_zero, List.set_cons_succ]
      refine wpAnyH_take (i := 14) (oi := _) (v := _) rfl (by kernel_rfl) (by kernel_rfl) (by kernel_rfl) (fun _ _ _ h => h) (Or.inl ⟨by rfl, by (intro w hSw; (try dsimp only at hSw); go_simp; try with_reducible rfl)⟩) hHeld ?_
      simp only [Act.put, List.getElem_toArray, List.getElem_cons_zero, List.getElem_cons_succ, List.setIfInBounds_toArray, List.set_cons_zero, List.set_cons_succ]
      refine wpAnyH_take (i := 15) (oi := _) (v := _) rfl (by kernel_rfl) (by kernel_rfl) (by kernel_rfl) (fun _ _ _ h => h) (Or.inl ⟨by rfl, by (intro w hSw; (try dsimp only at hSw); go_simp; try with_reducible rfl)⟩) hHeld ?_
      simp only [Act.put, List.getElem_toArray, List.getElem_cons_zero, List.getElem_cons_succ, List.setIfInBounds_toArray, List.set_cons_zero, List.set_cons_succ]
      refine wpAnyH_take (i := 16) (oi := _) (v := _) rfl (by kernel_rfl) (by kernel_rfl) (by kernel_rfl) (fun _ _ _ h => h) (Or.inl ⟨by rfl, by (intro w hSw; (try dsimp only at hSw); go_simp; try with_reducible rfl)⟩) hHeld ?_
      simp only [Act.put, List.getElem_toArray, List.getElem_cons_zero, List.getElem_cons_succ, List.setIfInBounds_toArray, List.set_cons_zero, List.set_cons_succ]
      refine wpAnyH_take (i := 17) (oi := _) (v := _) rfl (by kernel_rfl) (by kernel_rfl) (by kernel_rfl) (fun _ _ _ h => h) (Or.inl ⟨by rfl, by (intro w hSw; (try dsimp only at hSw); go_simp; try with_reducible rfl)⟩) hHeld ?_
      simp only [Act.put, List.getElem_toArray, List.getElem_cons_zero, List.getElem_cons_succ, List.setIfInBounds_toArray, List.set_cons_zero, List.set_cons_succ]
      refine wpAnyH_take (i := 18) (oi := _) (v := _) rfl (by kernel_rfl) (by kernel_rfl) (by kernel_rfl) (fun _ _ _ h => h) (Or.inl ⟨by rfl, by (intro w hSw; (try dsimp only at hSw); go_simp; try with_reducible rfl)⟩) hHeld ?_
      simp only [Act.put, List.getElem_toArray, List.getElem_cons_zero, List.getElem_cons_succ, List.setIfInBounds_toArray, List.set_cons_zero, List.set_cons_succ]
      refine wpAnyH_take (i := 19) (oi := _) (v := _) rfl (by kernel_rfl) (by kernel_rfl) (by kernel_rfl) (fun _ _ _ h => h) (Or.inl ⟨by rfl, by (intro w hSw; (try dsimp only at hSw); go_simp; try with_reducible rfl)⟩) hHeld ?_
      simp only [Act.put, List.getElem_toArray, List.getElem_cons_zero, List.getElem_cons_succ, List.setIfInBounds_toArray, List.set_cons_zero, List.set_cons_succ]
      refine wpAnyH_take (i := 20) (oi := _) (v := _) rfl (by kernel_rfl) (by kernel_rfl) (by kernel_rfl) (fun _ _ _ h => h) (Or.inl ⟨by rfl, by (intro w hSw; (try dsimp only at hSw); go_simp; try with_reducible rfl)⟩) hHeld ?_
      simp only [Act.put, List.getElem_toArray, List.getElem_cons_zero, List.getElem_cons_succ, List.setIfInBounds_toArray, List.set_cons_zero, List.set_cons_succ]
      refine wpAnyH_take (i := 21) (oi := _) (v := _) rfl (by kernel_rfl) (by kernel_rfl) (by kernel_rfl) (fun _ _ _ h => h) (Or.inl ⟨by rfl, by (intro w hSw; (try dsimp only at hSw); go_simp; try with_reducible rfl)⟩) hHeld ?_
      simp only [Act.put, List.getElem_toArray, List.getElem_cons_zero, List.getElem_cons_succ, List.setIfInBounds_toArray, List.set_cons_zero, List.set_cons_succ]
      refine wpAnyH_take (i := 22) (oi := _) (v := _) rfl (by kernel_rfl) (by kernel_rfl) (by kernel_rfl) (fun _ _ _ h => h) (Or.inl ⟨by rfl, by (intro w hSw; (try dsimp only at hSw); go_simp; try with_reducible rfl)⟩) hHeld ?_
      simp only [Act.put, List.getElem_toArray, List.getElem_cons_zero, List.getElem_cons_succ, List.setIfInBounds_toArray, List.set_cons_zero, List.set_cons_succ]
      refine wpAnyH_done (by kernel_rfl) ?_ _
      obtain ⟨we1, h5, hw⟩ : ∃ we1, Aside0 (Below wc1.heap.size wc1 we1) ∧ we1 = wc1.drew := ⟨_, ⟨Below.drew (Below.refl _ _)⟩, rfl⟩
      rw [← hw]
      have P5 := Aside0.mk ((h5.out.block wb0.heap.size G5).trans X5.out)
      have G5 : wb0.heap.size < we1.heap.size := Nat.lt_of_lt_of_le G5 h5.out.size
      have BA := Aside0.mk (B3.out.trans (h5.out.mono B3.out.size))
      clear DD HP B1 L2 X3 X5 C3 B3 MK hHeld hw h5 f1 f2
      rcases home_tells l0 W0.out hl0 K K1.out with ⟨x0, xt, hd, hp⟩ | ⟨ee, he, hd, hp⟩
      · have DD := Aside0.mk (recdecode_val l0 W0.out hl0 3 (by omega) (by omega) K K2.out)
        rw [hd] at DD
        have HP := Aside0.mk hp
        clear hd hp
        go_wp2_with fail
        refine (record_DecodeHome.calls K A0 c0 l0 x0 xt 0 we1 (Kd.C_below R0.out BA.out) C0.out HP.out).mono ?_
        rintro e wa2 ⟨rfl, hB⟩
        have B1 := Aside0.mk (BA.out.trans (hB.mono BA.out.size))
        have cv := fun (ob : Obj) c => Kd.C_string (c := c) (P := Tryd.prog) Tryd.underlying36 Tryd.underlying5 Tryd.underlying9 (Kd.C_alloc (Kd.C_below R0.out B1.out) ob)
        have P5 := Aside0.mk ((hB.block wb0.heap.size G5).trans P5.out)
        have G5 : wb0.heap.size < wa2.heap.size := Nat.lt_of_lt_of_le G5 hB.size
        clear hB
        go_wp2_with fail
        refine (cisternref07_DocDecode.calls K (strOfNums l0) 3 3 [x0] xt 0 _ DD.out).mono ?_
        rintro e wb2 ⟨v, rfl, hR, hB⟩
        have B2 := Aside0.mk (B1.out.trans ((below_alloc (Below.refl _ _) _).trans (hB.mono (by simp)) |>.mono B1.out.size))
        have X1 := Aside0.mk ((hB.block wa2.heap.size (by simp)).trans (heap_alloc_new wa2 (.cells #[.int .i64 x0, .string xt] 27)))
        have Z1 : wa2.heap.size < wb2.heap.size := by have := hB.size; simp at this; omega
        have P5 := Aside0.mk ((hB.block wb0.heap.size (by simp; omega)).trans (((below_alloc (Below.refl wa2.heap.size wa2) (.cells #[.int .i64 x0, .string xt] 27)).block wb0.heap.size G5).trans P5.out))
        have R2 := Kd.R_lower (base' := wb0.heap.size + 1) hR (by simp; omega)
        obtain ⟨A2, c2, rfl⟩ := Kd.R_slice R2
        have L2 := Aside0.mk (Kd.R_reads' R2).2.1
        have C2 := fun v0 v1 v2 => kept3 (v0 := v0) (v1 := v1) (v2 := v2) R2
        have G5b : wb0.heap.size < wb2.heap.size := by have := hB.size; simp at this; omega
        obtain ⟨⟨t0, u0⟩, ⟨t1, u1⟩, ⟨t2, u2⟩⟩ := box3 P5.out
        clear hR hB cv R2
        go_wp2_with fail
        have X5 := Aside0.mk (put3 (v0 := .int .i64 3) (v1 := .slice A2 ([x0] : List Int).length c2) (v2 := .string xt) P5.out)
        have X3 := Aside0.mk ((other3 (W := wb2) (g := wb0.heap.size) (v0 := .int .i64 3) (v1 := .slice A2 ([x0] : List Int).length c2) (v2 := .string xt) (k := wa2.heap.size) (by omega)).trans X1.out)
        have C3 := Aside0.mk (C2 (.int .i64 3) (.slice A2 ([x0] : List Int).length c2) (.string xt))
        have B3 := Aside0.mk (below3 (v0 := .int .i64 3) (v1 := .slice A2 ([x0] : List Int).length c2) (v2 := .string xt) GW.out B2.out)
        have G5 : wb0.heap.size < ((((wb2.setCell ⟨wb0.heap.size, 0, none⟩ (.int .i64 3)).setCell ⟨wb0.heap.size, 1, none⟩ (.slice A2 ([x0] : List Int).length c2)).setCell ⟨wb0.heap.size, 2, none⟩ (.string xt))).heap.size := by simpa [World.setCell] using G5b
        simp only [List.length_cons, List.length_nil, Nat.zero_add, Nat.reduceAdd] at X5 X3 C3 B3 G5
        clear C2 t0 u0 t1 u1 t2 u2
        generalize hw : (((wb2.setCell ⟨wb0.heap.size, 0, none⟩ (.int .i64 3)).setCell ⟨wb0.heap.size, 1, none⟩ (.slice A2 1 c2)).setCell ⟨wb0.heap.size, 2, none⟩ (.string xt)) = wc2 at X5 X3 C3 B3 G5 ⊢
        clear hw X1 B2 G5b Z1
        have MK : Aside0 (∀ w', Below wc2.heap.size wc2 w' → (Below wc2.heap.size wc2 w' ∧ w'.cell? ⟨wa2.heap.size, 0, none⟩ = some (.int .i64 x0) ∧ w'.cell? ⟨wa2.heap.size, 1, none⟩ = some (.string xt) ∧ w'.cell? ⟨wb0.heap.size, 0, none⟩ = some (.int .i64 3) ∧ w'.cell? ⟨wb0.heap.size, 1, none⟩ = some (.slice A2 1 c2) ∧ w'.cell? ⟨wb0.heap.size, 2, none⟩ = some (.string xt))) := ⟨fun w' h => by
          have Y3 := (h.block wa2.heap.size (Array.getElem?_eq_some_iff.1 X3.out).1).trans X3.out
          have Y5 := (h.block wb0.heap.size (Array.getElem?_eq_some_iff.1 X5.out).1).trans X5.out
          obtain ⟨⟨m0, _⟩, ⟨m1, _⟩⟩ := box2 Y3
          obtain ⟨⟨n0, _⟩, ⟨n1, _⟩, ⟨n2, _⟩⟩ := box3 Y5
          exact ⟨h, m0, m1, n0, n1, n2⟩⟩
        refine wp_region_held_drew (S := (fun w' => Below wc2.heap.size wc2 w' ∧ w'.cell? ⟨wa2.heap.size, 0, none⟩ = some (.int .i64 x0) ∧ w'.cell? ⟨wa2.heap.size, 1, none⟩ = some (.string xt) ∧ w'.cell? ⟨wb0.heap.size, 0, none⟩ = some (.int .i64 3) ∧ w'.cell? ⟨wb0.heap.size, 1, none⟩ = some (.slice A2 1 c2) ∧ w'.cell? ⟨wb0.heap.size, 2, none⟩ = some (.string xt))) (by kernel_rfl) ?_ (fun hHeld => ?_)
        · try dsimp only
          (first
            | exact MK.out _ (Below.drew (Below.refl _ _))
            | exact MK.out _ (pw_below_drewN (Below.refl _ _) _)
            | exact MK.out _ SB1.out
            | exact MK.out _ SB2.out
            | exact (by go_split_ands; assumption)
            | fail)
        refine wpAnyH_take (i := 0) (oi := _) (v := _) rfl (by kernel_rfl) (by kernel_rfl) (by kernel_rfl) (fun _ _ _ h => h) (Or.inl ⟨by rfl, by (intro w hSw; (try dsimp only at hSw); go_simp; try with_reducible rfl)⟩) hHeld ?_
        simp only [Act.put, List.getElem_toArray, List.getElem_cons_zero, List.getElem_cons_succ, List.setIfInBounds_toArray, List.set_cons_zero, List.set_cons_succ]
        refine wpAnyH_take (i := 1) (oi := _) (v := _) rfl (by kernel_rfl) (by kernel_rfl) (by kernel_rfl) (fun _ _ _ h => h) (Or.inl ⟨by rfl, by (intro w hSw; (try dsimp only at hSw); go_simp; try with_reducible rfl)⟩) hHeld ?_
        simp only [Act.put, List.getElem_toArray, List.getElem_cons_zero, List.getElem_cons_succ, List.setIfInBounds_toArray, List.set_cons_zero, List.set_cons_succ]
        refine wpAnyH_take (i := 2) (oi := _) (v := _) rfl (by kernel_rfl) (by kernel_rfl) (by kernel_rfl) (fun _ _ _ h => h) (Or.inl ⟨by rfl, by (intro w hSw; (try dsimp only at hSw); go_simp; try with_reducible rfl)⟩) hHeld ?_
        simp only [Act.put, List.getElem_toArray, List.getElem_cons_zero, List.getElem_cons_succ, List.setIfInBounds_toArray, List.set_cons_zero, List.set_cons_succ]
        refine wpAnyH_take (i := 3) (oi := _) (v := _) rfl (by kernel_rfl) (by kernel_rfl) (by kernel_rfl) (fun _ _ _ h => h) (Or.inl ⟨by rfl, by (intro w hSw; (try dsimp only at hSw); go_simp; try with_reducible rfl)⟩) hHeld ?_
        simp only [Act.put, List.getElem_toArray, List.getElem_cons_zero, List.getElem_cons_succ, List.setIfInBounds_toArray, List.set_cons_zero, List.set_cons_succ]
        refine wpAnyH_take (i := 4) (oi := _) (v := _) rfl (by kernel_rfl) (by kernel_rfl) (by kernel_rfl) (fun _ _ _ h => h) (Or.inl ⟨by rfl, by (intro w hSw; (try dsimp only at hSw); go_simp; try with_reducible rfl)⟩) hHeld ?_
        simp only [Act.put, List.getElem_toArray, List.getElem_cons_zero, List.getElem_cons_succ, List.setIfInBounds_toArray, List.set_cons_zero, List.set_cons_succ]
        refine wpAnyH_take (i := 5) (oi := _) (v := _) rfl (by kernel_rfl) (by kernel_rfl) (by kernel_rfl) (fun _ _ _ h => h) (Or.inl ⟨by rfl, by (intro w hSw; (try dsimp only at hSw); go_simp; try with_reducible rfl)⟩) hHeld ?_
        simp only [Act.put, List.getElem_toArray, List.getElem_cons_zero, List.getElem_cons_succ, List.setIfInBounds_toArray, List.set_cons_zero, List.set_cons_succ]
        refine wpAnyH_take (i := 6) (oi := _) (v := _) rfl (by kernel_rfl) (by kernel_rfl) (by kernel_rfl) (fun _ _ _ h => h) (Or.inl ⟨by rfl, by (intro w hSw; (try dsimp only at hSw); go_simp; try with_reducible rfl)⟩) hHeld ?_
        simp only [Act.put, List.getElem_toArray, List.getElem_cons_zero, List.getElem_cons_succ, List.setIfInBounds_toArray, List.set_cons_zero, List.set_cons_succ]
        refine wpAnyH_take (i := 7) (oi := _) (v := _) rfl (by kernel_rfl) (by kernel_rfl) (by kernel_rfl) (fun _ _ _ h => h) (Or.inl ⟨by rfl, by (intro w hSw; (try dsimp only at hSw); go_simp; try with_reducible rfl)⟩) hHeld ?_
        simp only [Act.put, List.getElem_toArray, List.getElem_cons_zero, List.getElem_cons_succ, List.setIfInBounds_toArray, List.set_cons_zero, List.set_cons_succ]
        refine wpAnyH_take (i := 9) (oi := _) (v := _) rfl (by kernel_rfl) (by kernel_rfl) (by kernel_rfl) (fun _ _ _ h => h) (Or.inl ⟨by rfl, by (intro w hSw; (try dsimp only at hSw); go_simp; try with_reducible rfl)⟩) hHeld ?_
        simp only [Act.put, List.getElem_toArray, List.getElem_cons_zero, List.getElem_cons_succ, List.setIfInBounds_toArray, List.set_cons_zero, List.set_cons_succ]
        refine wpAnyH_ready (rs := [8]) (by kernel_rfl) (by simp) ?_
        refine AllReadyH.cons rfl (fun K hK => ?_) AllReadyH.nil
        go_simp
        go_wp2_with (refine (cisternlaw07_homeRec.calls x0 xt _ _ _ _ rfl).mono ?_; rintro e w4 ⟨v, rfl, hR, hB⟩; obtain ⟨A4, c4, rfl, h4, hC4⟩ := Kd.R_reads hR; have SB1 : Aside0 (Below wc2.heap.size wc2 w4) := ⟨by go_split_ands; exact Below.trans (by assumption) (hB.mono (Below.size (by assumption)))⟩; have C4 := Aside0.mk hC4; have L4 := Aside0.mk h4; clear hR hB hC4 h4)
        refine hK.out _ _ ?_ (fun hNew => ?_)
        · try dsimp only
          (first
            | exact MK.out _ (Below.drew (Below.refl _ _))
            | exact MK.out _ (pw_below_drewN (Below.refl _ _) _)
            | exact MK.out _ SB1.out
            | exact MK.out _ SB2.out
            | exact (by go_split_ands; assumption)
            | fail)
        clear hK K hHeld
        have hHeld := hNew
        clear hNew
        refine wpAnyH_ready (rs := [10]) (by kernel_rfl) (by simp) ?_
        refine AllReadyH.cons rfl (fun K hK => ?_) AllReadyH.nil
        go_simp
        go_wp2_with (refine (cisternlaw07_same.calls 50 3 A4 c4 [x0] xt 3 A2 c2 [x0] xt true _ C4.out L4.out (Kd.C_below C3.out (by go_split_ands; assumption)) L2.out (recsame_val 3 [x0] xt (by simp) 50 (by simp))).mono ?_; rintro e w5 ⟨rfl, hB⟩; have SB2 : Aside0 (Below wc2.heap.size wc2 w5) := ⟨by go_split_ands; exact Below.trans (by assumption) (hB.mono (Below.size (by assumption)))⟩; clear hB)
        refine hK.out _ _ ?_ (fun hNew => ?_)
        · try dsimp only
          (first
            | exact MK.out _ (Below.drew (Below.refl _ _))
            | exact MK.out _ (pw_below_drewN (Below.refl _ _) _)
            | exact MK.out _ SB1.out
            | exact MK.out _ SB2.out
            | exact (by go_split_ands; assumption)
            | fail)
        clear hK K hHeld
        have hHeld := hNew
        clear hNew
        refine wpAnyH_take (i := 11) (oi := _) (v := _) rfl (by kernel_rfl) (by kernel_rfl) (by kernel_rfl) (fun _ _ _ h => h) (Or.inl ⟨by rfl, by (intro w hSw; (try dsimp only at hSw); go_simp; try with_reducible rfl)⟩) hHeld ?_
        simp only [Act.put, List.getElem_toArray, List.getElem_cons_zero, List.getElem_cons_succ, List.setIfInBounds_toArray, List.set_cons_zero, List.set_cons_succ]
        refine wpAnyH_take (i := 12) (oi := _) (v := _) rfl (by kernel_rfl) (by kernel_rfl) (by kernel_rfl) (fun _ _ _ h => h) (Or.inl ⟨by rfl, by (intro w hSw; (try dsimp only at hSw); go_simp; try with_reducible rfl)⟩) hHeld ?_
        simp only [Act.put, List.getElem_toArray, List.getElem_cons_zero, List.getElem_cons_succ, List.setIfInBounds_toArray, List.set_cons_zero, List.set_cons_succ]
        refine wpAnyH_take (i := 13) (oi := _) (v := _) rfl (by kernel_rfl) (by kernel_rfl) (by kernel_rfl) (fun _ _ _ h => h) (Or.inl ⟨by rfl, by (intro w hSw; (try dsimp only at hSw); go_simp; try with_reducible rfl)⟩) hHeld ?_
        simp only [Act.put, List.getElem_toArray, List.getElem_cons_zero, List.getElem_cons_succ, List.setIfInBounds_toArray, List.set_cons_zero, List.set_cons_succ]
        refine wpAnyH_take (i := 14) (oi := _) (v := _) rfl (by kernel_rfl) (by kernel_rfl) (by kernel_rfl) (fun _ _ _ h => h) (Or.inl ⟨by rfl, by (intro w hSw; (try dsimp only at hSw); go_simp; try with_reducible rfl)⟩) hHeld ?_
        simp only [Act.put, List.getElem_toArray, List.getElem_cons_zero, List.getElem_cons_succ, List.setIfInBounds_toArray, List.set_cons_zero, List.set_cons_succ]
        refine wpAnyH_take (i := 15) (oi := _) (v := _) rfl (by kernel_rfl) (by kernel_rfl) (by kernel_rfl) (fun _ _ _ h => h) (Or.inl ⟨by rfl, by (intro w hSw; (try dsimp only at hSw); go_simp; try with_reducible rfl)⟩) hHeld ?_
        simp only [Act.put, List.getElem_toArray, List.getElem_cons_zero, List.getElem_cons_succ, List.setIfInBounds_toArray, List.set_cons_zero, List.set_cons_succ]
        refine wpAnyH_take (i := 16) (oi := _) (v := _) rfl (by kernel_rfl) (by kernel_rfl) (by kernel_rfl) (fun _ _ _ h => h) (Or.inl ⟨by rfl, by (intro w hSw; (try dsimp only at hSw); go_simp; try with_reducible rfl)⟩) hHeld ?_
        simp only [Act.put, List.getElem_toArray, List.getElem_cons_zero, List.getElem_cons_succ, List.setIfInBounds_toArray, List.set_cons_zero, List.set_cons_succ]
        refine wpAnyH_take (i := 17) (oi := _) (v := undef) rfl (by kernel_rfl) (by kernel_rfl) (by kernel_rfl) (fun _ _ _ h => h) (Or.inr ⟨by rfl, rfl⟩) hHeld ?_
        simp only [Act.put, List.getElem_toArray, List.getElem_cons_zero, List.getElem_cons_succ, List.setIfInBounds_toArray, List.set_cons_zero, List.set_cons_succ]
        refine wpAnyH_take (i := 18) (oi := _) (v := undef) rfl (by kernel_rfl) (by kernel_rfl) (by kernel_rfl) (fun _ _ _ h => h) (Or.inr ⟨by rfl, rfl⟩) hHeld ?_
        simp only [Act.put, List.getElem_toArray, List.getElem_cons_zero, List.getElem_cons_succ, List.setIfInBounds_toArray, List.set_cons_zero, List.set_cons_succ]
        refine wpAnyH_take (i := 19) (oi := _) (v := undef) rfl (by kernel_rfl) (by kernel_rfl) (by kernel_rfl) (fun _ _ _ h => h) (Or.inr ⟨by rfl, rfl⟩) hHeld ?_
        simp only [Act.put, List.getElem_toArray, List.getElem_cons_zero, List.getElem_cons_succ, List.setIfInBounds_toArray, List.set_cons_zero, List.set_cons_succ]
        refine wpAnyH_take (i := 20) (oi := _) (v := _) rfl (by kernel_rfl) (by kernel_rfl) (by kernel_rfl) (fun _ _ _ h => h) (Or.inl ⟨by rfl, by (intro w hSw; (try dsimp only at hSw); go_simp; try with_reducible rfl)⟩) hHeld ?_
        simp only [Act.put, List.getElem_toArray, List.getElem_cons_zero, List.getElem_cons_succ, List.setIfInBounds_toArray, List.set_cons_zero, List.set_cons_succ]
        refine wpAnyH_take (i := 21) (oi := _) (v := _) rfl (by kernel_rfl) (by kernel_rfl) (by kernel_rfl) (fun _ _ _ h => h) (Or.inl ⟨by rfl, by (intro w hSw; (try dsimp only at hSw); go_simp; try with_reducible rfl)⟩) hHeld ?_
        simp only [Act.put, List.getElem_toArray, List.getElem_cons_zero, List.getElem_cons_succ, List.setIfInBounds_toArray, List.set_cons_zero, List.set_cons_succ]
        refine wpAnyH_take (i := 22) (oi := _) (v := _) rfl (by kernel_rfl) (by kernel_rfl) (by kernel_rfl) (fun _ _ _ h => h) (Or.inl ⟨by rfl, by (intro w hSw; (try dsimp only at hSw); go_simp; try with_reducible rfl)⟩) hHeld ?_
        simp only [Act.put, List.getElem_toArray, List.getElem_cons_zero, List.getElem_cons_succ, List.setIfInBounds_toArray, List.set_cons_zero, List.set_cons_succ]
        refine wpAnyH_done (by kernel_rfl) ?_ _
        obtain ⟨we2, h5, hw⟩ : ∃ we2, Aside0 (Below wc2.heap.size wc2 we2) ∧ we2 = w5 := ⟨_, SB2, rfl⟩
        rw [← hw]
        have P5 := Aside0.mk ((h5.out.block wb0.heap.size G5).trans X5.out)
        have G5 : wb0.heap.size < we2.heap.size := Nat.lt_of_lt_of_le G5 h5.out.size
        have BA := Aside0.mk (B3.out.trans (h5.out.mono B3.out.size))
        clear DD HP B1 L2 X3 X5 C3 B3 MK hHeld hw h5 C4 L4 SB1 SB2
        go_wp2_with fail
        go_ret
        exact ⟨rfl, BA.out⟩
      · have DD := Aside0.mk (recdecode_val l0 W0.out hl0 3 (by omega) (by omega) K K2.out)
        rw [hd] at DD
        have HP := Aside0.mk hp
        clear hd hp
        have f1 : (ee == 0) = false := beq_eq_false_iff_ne.2 he
        have f2 : (ee != 0) = true := bne_iff_ne.2 he
        clear he
        go_wp2_with fail
        refine (record_DecodeHome.calls K A0 c0 l0 0 ⟨#[]⟩ ee we1 (Kd.C_below R0.out BA.out) C0.out HP.out).mono ?_
        rintro e wa2 ⟨rfl, hB⟩
        have B1 := Aside0.mk (BA.out.trans (hB.mono BA.out.size))
        have cv := fun (ob : Obj) c => Kd.C_string (c := c) (P := Tryd.prog) Tryd.underlying36 Tryd.underlying5 Tryd.underlying9 (Kd.C_alloc (Kd.C_below R0.out B1.out) ob)
        have P5 := Aside0.mk ((hB.block wb0.heap.size G5).trans P5.out)
        have G5 : wb0.heap.size < wa2.heap.size := Nat.lt_of_lt_of_le G5 hB.size
        clear hB
        go_wp2_with fail
        refine (cisternref07_DocDecode.calls K (strOfNums l0) 3 0 ([] : List Int) ⟨#[]⟩ ee _ DD.out).mono ?_
        rintro e wb2 ⟨v, rfl, hR, hB⟩
        have B2 := Aside0.mk (B1.out.trans ((below_alloc (Below.refl _ _) _).trans (hB.mono (by simp)) |>.mono B1.out.size))
        have X1 := Aside0.mk ((hB.block wa2.heap.size (by simp)).trans (heap_alloc_new wa2 (.cells #[.int .i64 0, .string ⟨#[]⟩] 27)))
        have Z1 : wa2.heap.size < wb2.heap.size := by have := hB.size; simp at this; omega
        have P5 := Aside0.mk ((hB.block wb0.heap.size (by simp; omega)).trans (((below_alloc (Below.refl wa2.heap.size wa2) (.cells #[.int .i64 0, .string ⟨#[]⟩] 27)).block wb0.heap.size G5).trans P5.out))
        have R2 := Kd.R_lower (base' := wb0.heap.size + 1) hR (by simp; omega)
        obtain ⟨A2, c2, rfl⟩ := Kd.R_slice R2
        have L2 := Aside0.mk (Kd.R_reads' R2).2.1
        have C2 := fun v0 v1 v2 => kept3 (v0 := v0) (v1 := v1) (v2 := v2) R2
        have G5b : wb0.heap.size < wb2.heap.size := by have := hB.size; simp at this; omega
        obtain ⟨⟨t0, u0⟩, ⟨t1, u1⟩, ⟨t2, u2⟩⟩ := box3 P5.out
        clear hR hB cv R2
        go_wp2_with fail
        have X5 := Aside0.mk (put3 (v0 := .int .i64 0) (v1 := .slice A2 (([] : List Int) : List Int).length c2) (v2 := .string ⟨#[]⟩) P5.out)
        have X3 := Aside0.mk ((other3 (W := wb2) (g := wb0.heap.size) (v0 := .int .i64 0) (v1 := .slice A2 (([] : List Int) : List Int).length c2) (v2 := .string ⟨#[]⟩) (k := wa2.heap.size) (by omega)).trans X1.out)
        have C3 := Aside0.mk (C2 (.int .i64 0) (.slice A2 (([] : List Int) : List Int).length c2) (.string ⟨#[]⟩))
        have B3 := Aside0.mk (below3 (v0 := .int .i64 0) (v1 := .slice A2 (([] : List Int) : List Int).length c2) (v2 := .string ⟨#[]⟩) GW.out B2.out)
        have G5 : wb0.heap.size < ((((wb2.setCell ⟨wb0.heap.size, 0, none⟩ (.int .i64 0)).setCell ⟨wb0.heap.size, 1, none⟩ (.slice A2 (([] : List Int) : List Int).length c2)).setCell ⟨wb0.heap.size, 2, none⟩ (.string ⟨#[]⟩))).heap.size := by simpa [World.setCell] using G5b
        simp only [List.length_cons, List.length_nil, Nat.zero_add, Nat.reduceAdd] at X5 X3 C3 B3 G5
        clear C2 t0 u0 t1 u1 t2 u2
        generalize hw : (((wb2.setCell ⟨wb0.heap.size, 0, none⟩ (.int .i64 0)).setCell ⟨wb0.heap.size, 1, none⟩ (.slice A2 0 c2)).setCell ⟨wb0.heap.size, 2, none⟩ (.string ⟨#[]⟩)) = wc2 at X5 X3 C3 B3 G5 ⊢
        clear hw X1 B2 G5b Z1
        have MK : Aside0 (∀ w', Below wc2.heap.size wc2 w' → (Below wc2.heap.size wc2 w' ∧ w'.cell? ⟨wa2.heap.size, 0, none⟩ = some (.int .i64 0) ∧ w'.cell? ⟨wa2.heap.size, 1, none⟩ = some (.string ⟨#[]⟩) ∧ w'.cell? ⟨wb0.heap.size, 0, none⟩ = some (.int .i64 0) ∧ w'.cell? ⟨wb0.heap.size, 1, none⟩ = some (.slice A2 0 c2) ∧ w'.cell? ⟨wb0.heap.size, 2, none⟩ = some (.string ⟨#[]⟩))) := ⟨fun w' h => by
          have Y3 := (h.block wa2.heap.size (Array.getElem?_eq_some_iff.1 X3.out).1).trans X3.out
          have Y5 := (h.block wb0.heap.size (Array.getElem?_eq_some_iff.1 X5.out).1).trans X5.out
          obtain ⟨⟨m0, _⟩, ⟨m1, _⟩⟩ := box2 Y3
          obtain ⟨⟨n0, _⟩, ⟨n1, _⟩, ⟨n2, _⟩⟩ := box3 Y5
          exact ⟨h, m0, m1, n0, n1, n2⟩⟩
        refine wp_region_held_drew (S := (fun w' => Below wc2.heap.size wc2 w' ∧ w'.cell? ⟨wa2.heap.size, 0, none⟩ = some (.int .i64 0) ∧ w'.cell? ⟨wa2.heap.size, 1, none⟩ = some (.string ⟨#[]⟩) ∧ w'.cell? ⟨wb0.heap.size, 0, none⟩ = some (.int .i64 0) ∧ w'.cell? ⟨wb0.heap.size, 1, none⟩ = some (.slice A2 0 c2) ∧ w'.cell? ⟨wb0.heap.size, 2, none⟩ = some (.string ⟨#[]⟩))) (by kernel_rfl) ?_ (fun hHeld => ?_)
        · try dsimp only
          (first
            | exact MK.out _ (Below.drew (Below.refl _ _))
            | exact MK.out _ (pw_below_drewN (Below.refl _ _) _)
            | exact MK.out _ SB1.out
            | exact MK.out _ SB2.out
            | exact (by go_split_ands; assumption)
            | fail)
        refine wpAnyH_take (i := 0) (oi := _) (v := _) rfl (by kernel_rfl) (by kernel_rfl) (by kernel_rfl) (fun _ _ _ h => h) (Or.inl ⟨by rfl, by (intro w hSw; (try dsimp only at hSw); go_simp; try with_reducible rfl)⟩) hHeld ?_
        simp only [Act.put, List.getElem_toArray, List.getElem_cons_zero, List.getElem_cons_succ, List.setIfInBounds_toArray, List.set_cons_zero, List.set_cons_succ]
        refine wpAnyH_take (i := 1) (oi := _) (v := _) rfl (by kernel_rfl) (by kernel_rfl) (by kernel_rfl) (fun _ _ _ h => h) (Or.inl ⟨by rfl, by (intro w hSw; (try dsimp only at hSw); go_simp; try with_reducible rfl)⟩) hHeld ?_
        simp only [Act.put, List.getElem_toArray, List.getElem_cons_zero, List.getElem_cons_succ, List.setIfInBounds_toArray, List.set_cons_zero, List.set_cons_succ]
        refine wpAnyH_take (i := 2) (oi := _) (v := _) rfl (by kernel_rfl) (by kernel_rfl) (by kernel_rfl) (fun _ _ _ h => h) (Or.inl ⟨by rfl, by (intro w hSw; (try dsimp only at hSw); go_simp; try with_reducible rfl)⟩) hHeld ?_
        simp only [Act.put, List.getElem_toArray, List.getElem_cons_zero, List.getElem_cons_succ, List.setIfInBounds_toArray, List.set_cons_zero, List.set_cons_succ]
        refine wpAnyH_take (i := 3) (oi := _) (v := _) rfl (by kernel_rfl) (by kernel_rfl) (by kernel_rfl) (fun _ _ _ h => h) (Or.inl ⟨by rfl, by (intro w hSw; (try dsimp only at hSw); go_simp; try with_reducible rfl)⟩) hHeld ?_
        simp only [Act.put, List.getElem_toArray, List.getElem_cons_zero, List.getElem_cons_succ, List.setIfInBounds_toArray, List.set_cons_zero, List.set_cons_succ]
        refine wpAnyH_take (i := 4) (oi := _) (v := _) rfl (by kernel_rfl) (by kernel_rfl) (by kernel_rfl) (fun _ _ _ h => h) (Or.inl ⟨by rfl, by (intro w hSw; (try dsimp only at hSw); go_simp; try with_reducible rfl)⟩) hHeld ?_
        simp only [Act.put, List.getElem_toArray, List.getElem_cons_zero, List.getElem_cons_succ, List.setIfInBounds_toArray, List.set_cons_zero, List.set_cons_succ]
        refine wpAnyH_take (i := 5) (oi := _) (v := _) rfl (by kernel_rfl) (by kernel_rfl) (by kernel_rfl) (fun _ _ _ h => h) (Or.inl ⟨by rfl, by (intro w hSw; (try dsimp only at hSw); go_simp; try with_reducible rfl)⟩) hHeld ?_
        simp only [Act.put, List.getElem_toArray, List.getElem_cons_zero, List.getElem_cons_succ, List.setIfInBounds_toArray, List.set_cons_zero, List.set_cons_succ]
        refine wpAnyH_take (i := 6) (oi := _) (v := _) rfl (by kernel_rfl) (by kernel_rfl) (by kernel_rfl) (fun _ _ _ h => h) (Or.inl ⟨by rfl, by (intro w hSw; (try dsimp only at hSw); go_simp; try with_reducible rfl)⟩) hHeld ?_
        simp only [Act.put, List.getElem_toArray, List.getElem_cons_zero, List.getElem_cons_succ, List.setIfInBounds_toArray, List.set_cons_zero, List.set_cons_succ]
        refine wpAnyH_take (i := 7) (oi := _) (v := undef) rfl (by kernel_rfl) (by kernel_rfl) (by kernel_rfl) (fun _ _ _ h => h) (Or.inr ⟨by rfl, rfl⟩) hHeld ?_
        simp only [Act.put, List.getElem_toArray, List.getElem_cons_zero, List.getElem_cons_succ, List.setIfInBounds_toArray, List.set_cons_zero, List.set_cons_succ]
        refine wpAnyH_take (i := 8) (oi := _) (v := undef) rfl (by kernel_rfl) (by kernel_rfl) (by kernel_rfl) (fun _ _ _ h => h) (Or.inr ⟨by rfl, rfl⟩) hHeld ?_
        simp only [Act.put, List.getElem_toArray, List.getElem_cons_zero, List.getElem_cons_succ, List.setIfInBounds_toArray, List.set_cons_zero, List.set_cons_succ]
        refine wpAnyH_take (i := 9) (oi := _) (v := undef) rfl (by kernel_rfl) (by kernel_rfl) (by kernel_rfl) (fun _ _ _ h => h) (Or.inr ⟨by rfl, rfl⟩) hHeld ?_
        simp only [Act.put, List.getElem_toArray, List.getElem_cons_zero, List.getElem_cons_succ, List.setIfInBounds_toArray, List.set_cons_zero, List.set_cons_succ]
        refine wpAnyH_take (i := 10) (oi := _) (v := undef) rfl (by kernel_rfl) (by kernel_rfl) (by kernel_rfl) (fun _ _ _ h => h) (Or.inr ⟨by rfl, rfl⟩) hHeld ?_
        simp only [Act.put, List.getElem_toArray, List.getElem_cons_zero, List.getElem_cons_succ, List.setIfInBounds_toArray, List.set_cons_zero, List.set_cons_succ]
        refine wpAnyH_take (i := 11) (oi := _) (v := _) rfl (by kernel_rfl) (by kernel_rfl) (by kernel_rfl) (fun _ _ _ h => h) (Or.inl ⟨by rfl, by (intro w hSw; (try dsimp only at hSw); go_simp; try with_reducible rfl)⟩) hHeld ?_
        simp only [Act.put, List.getElem_toArray, List.getElem_cons_zero, List.getElem_cons_succ, List.setIfInBounds_toArray, List.set_cons_zero, List.set_cons_succ]
        refine wpAnyH_take (i := 12) (oi := _) (v := _) rfl (by kernel_rfl) (by kernel_rfl) (by kernel_rfl) (fun _ _ _ h => h) (Or.inl ⟨by rfl, by (intro w hSw; (try dsimp only at hSw); go_simp; try with_reducible rfl)⟩) hHeld ?_
        simp only [Act.put, List.getElem_toArray, List.getElem_cons_zero, List.getElem_cons_succ, List.setIfInBounds_toArray, List.set_cons_zero, List.set_cons_succ]
        refine wpAnyH_take (i := 13) (oi := _) (v := _) rfl (by kernel_rfl) (by kernel_rfl) (by kernel_rfl) (fun _ _ _ h => h) (Or.inl ⟨by rfl, by (intro w hSw; (try dsimp only at hSw); go_simp; try with_reducible rfl)⟩) hHeld ?_
        simp only [Act.put, List.getElem_toArray, List.getElem_cons_zero, List.getElem_cons_succ, List.setIfInBounds_toArray, List.set_cons_zero, List.set_cons_succ]
        refine wpAnyH_take (i := 14) (oi := _) (v := _) rfl (by kernel_rfl) (by kernel_rfl) (by kernel_rfl) (fun _ _ _ h => h) (Or.inl ⟨by rfl, by (intro w hSw; (try dsimp only at hSw); go_simp; try with_reducible rfl)⟩) hHeld ?_
        simp only [Act.put, List.getElem_toArray, List.getElem_cons_zero, List.getElem_cons_succ, List.setIfInBounds_toArray, List.set_cons_zero, List.set_cons_succ]
        refine wpAnyH_take (i := 15) (oi := _) (v := _) rfl (by kernel_rfl) (by kernel_rfl) (by kernel_rfl) (fun _ _ _ h => h) (Or.inl ⟨by rfl, by (intro w hSw; (try dsimp only at hSw); go_simp; try with_reducible rfl)⟩) hHeld ?_
        simp only [Act.put, List.getElem_toArray, List.getElem_cons_zero, List.getElem_cons_succ, List.setIfInBounds_toArray, List.set_cons_zero, List.set_cons_succ]
        refine wpAnyH_take (i := 16) (oi := _) (v := _) rfl (by kernel_rfl) (by kernel_rfl) (by kernel_rfl) (fun _ _ _ h => h) (Or.inl ⟨by rfl, by (intro w hSw; (try dsimp only at hSw); go_simp; try with_reducible rfl)⟩) hHeld ?_
        simp only [Act.put, List.getElem_toArray, List.getElem_cons_zero, List.getElem_cons_succ, List.setIfInBounds_toArray, List.set_cons_zero, List.set_cons_succ]
        refine wpAnyH_take (i := 17) (oi := _) (v := _) rfl (by kernel_rfl) (by kernel_rfl) (by kernel_rfl) (fun _ _ _ h => h) (Or.inl ⟨by rfl, by (intro w hSw; (try dsimp only at hSw); go_simp; try with_reducible rfl)⟩) hHeld ?_
        simp only [Act.put, List.getElem_toArray, List.getElem_cons_zero, List.getElem_cons_succ, List.setIfInBounds_toArray, List.set_cons_zero, List.set_cons_succ]
        refine wpAnyH_take (i := 18) (oi := _) (v := _) rfl (by kernel_rfl) (by kernel_rfl) (by kernel_rfl) (fun _ _ _ h => h) (Or.inl ⟨by rfl, by (intro w hSw; (try dsimp only at hSw); go_simp; try with_reducible rfl)⟩) hHeld ?_
        simp only [Act.put, List.getElem_toArray, List.getElem_cons_zero, List.getElem_cons_succ, List.setIfInBounds_toArray, List.set_cons_zero, List.set_cons_succ]
        refine wpAnyH_take (i := 19) (oi := _) (v := _) rfl (by kernel_rfl) (by kernel_rfl) (by kernel_rfl) (fun _ _ _ h => h) (Or.inl ⟨by rfl, by (intro w hSw; (try dsimp only at hSw); go_simp; try with_reducible rfl)⟩) hHeld ?_
        simp only [Act.put, List.getElem_toArray, List.getElem_cons_zero, List.getElem_cons_succ, List.setIfInBounds_toArray, List.set_cons_zero, List.set_cons_succ]
        refine wpAnyH_take (i := 20) (oi := _) (v := _) rfl (by kernel_rfl) (by kernel_rfl) (by kernel_rfl) (fun _ _ _ h => h) (Or.inl ⟨by rfl, by (intro w hSw; (try dsimp only at hSw); go_simp; try with_reducible rfl)⟩) hHeld ?_
        simp only [Act.put, List.getElem_toArray, List.getElem_cons_zero, List.getElem_cons_succ, List.setIfInBounds_toArray, List.set_cons_zero, List.set_cons_succ]
        refine wpAnyH_take (i := 21) (oi := _) (v := _) rfl (by kernel_rfl) (by kernel_rfl) (by kernel_rfl) (fun _ _ _ h => h) (Or.inl ⟨by rfl, by (intro w hSw; (try dsimp only at hSw); go_simp; try with_reducible rfl)⟩) hHeld ?_
        simp only [Act.put, List.getElem_toArray, List.getElem_cons_zero, List.getElem_cons_succ, List.setIfInBounds_toArray, List.set_cons_zero, List.set_cons_succ]
        refine wpAnyH_take (i := 22) (oi := _) (v := _) rfl (by kernel_rfl) (by kernel_rfl) (by kernel_rfl) (fun _ _ _ h => h) (Or.inl ⟨by rfl, by (intro w hSw; (try dsimp only at hSw); go_simp; try with_reducible rfl)⟩) hHeld ?_
        simp only [Act.put, List.getElem_toArray, List.getElem_cons_zero, List.getElem_cons_succ, List.setIfInBounds_toArray, List.set_cons_zero, List.set_cons_succ]
        refine wpAnyH_done (by kernel_rfl) ?_ _
        obtain ⟨we2, h5, hw⟩ : ∃ we2, Aside0 (Below wc2.heap.size wc2 we2) ∧ we2 = wc2.drew := ⟨_, ⟨Below.drew (Below.refl _ _)⟩, rfl⟩
        rw [← hw]
        have P5 := Aside0.mk ((h5.out.block wb0.heap.size G5).trans X5.out)
        have G5 : wb0.heap.size < we2.heap.size := Nat.lt_of_lt_of_le G5 h5.out.size
        have BA := Aside0.mk (B3.out.trans (h5.out.mono B3.out.size))
        clear DD HP B1 L2 X3 X5 C3 B3 MK hHeld hw h5 f1 f2
        go_wp2_with fail
        go_ret
        exact ⟨rfl, BA.out⟩
  · have DD := Aside0.mk (recdecode_val l0 W0.out hl0 1 (by omega) (by omega) K K2.out)
    rw [hd] at DD
    have HP := Aside0.mk hp
    clear hd hp
    have f1 : (ee == 0) = false := beq_eq_false_iff_ne.2 he
    have f2 : (ee != 0) = true := bne_iff_ne.2 he
    clear he
    go_wp2_with fail
    refine (record_DecodeSuper.calls K A0 c0 l0 0 0 0 ee wa (Kd.C_below R0.out BA.out) C0.out HP.out).mono ?_
    rintro e wa0 ⟨rfl, hB⟩
    have B1 := Aside0.mk (BA.out.trans (hB.mono BA.out.size))
    have cv := fun (ob : Obj) c => Kd.C_string (c := c) (P := Tryd.prog) Tryd.underlying36 Tryd.underlying5 Tryd.underlying9 (Kd.C_alloc (Kd.C_below R0.out B1.out) ob)
    clear hB
    go_wp2_with fail
    refine (cisternref07_DocDecode.calls K (strOfNums l0) 1 0 ([] : List Int) ⟨#[]⟩ ee _ DD.out).mono ?_
    rintro e wb0 ⟨v, rfl, hR, hB⟩
    obtain ⟨A2, c2, rfl, hc2, hC2⟩ := Kd.R_reads hR
    have L2 := Aside0.mk hc2
    have B2 := Aside0.mk (B1.out.trans ((below_alloc (Below.refl _ _) _).trans (hB.mono (by simp)) |>.mono B1.out.size))
    have X1 := Aside0.mk ((hB.block wa0.heap.size (by simp)).trans (heap_alloc_new wa0 (.cells #[.int .i64 0, .int .i64 0, .int .i64 0] 23)))
    have Z1 : wa0.heap.size < wb0.heap.size := by have := hB.size; simp at this; omega
    clear hR hB cv hc2
    go_wp2_with fail
    have X5 := Aside0.mk (heap_alloc_new wb0 (.cells #[.int .i64 0, .slice A2 (([] : List Int) : List Int).length c2, .string ⟨#[]⟩] 34))
    have X3 := Aside0.mk (((below_alloc (Below.refl wb0.heap.size wb0) (.cells #[.int .i64 0, .slice A2 (([] : List Int) : List Int).length c2, .string ⟨#[]⟩] 34)).block wa0.heap.size Z1).trans X1.out)
    have GW := Aside0.mk B2.out.size
    have C3 := Aside0.mk (Kd.C_alloc hC2 (.cells #[.int .i64 0, .slice A2 (([] : List Int) : List Int).length c2, .string ⟨#[]⟩] 34))
    have B3 := Aside0.mk (below_alloc B2.out (.cells #[.int .i64 0, .slice A2 (([] : List Int) : List Int).length c2, .string ⟨#[]⟩] 34))
    have G5 : wb0.heap.size < (wb0.alloc (.cells #[.int .i64 0, .slice A2 (([] : List Int) : List Int).length c2, .string ⟨#[]⟩] 34)).heap.size := by simp
    simp only [List.length_cons, List.length_nil, Nat.zero_add, Nat.reduceAdd] at X5 X3 C3 B3 G5
    clear hC2
    generalize hw : wb0.alloc (.cells #[.int .i64 0, .slice A2 0 c2, .string ⟨#[]⟩] 34) = wc0 at X5 X3 C3 B3 G5 ⊢
    clear hw X1 B2
    have MK : Aside0 (∀ w', Below wc0.heap.size wc0 w' → (Below wc0.heap.size wc0 w' ∧ w'.cell? ⟨wa0.heap.size, 0, none⟩ = some (.int .i64 0) ∧ w'.cell? ⟨wa0.heap.size, 1, none⟩ = some (.int .i64 0) ∧ w'.cell? ⟨wa0.heap.size, 2, none⟩ = some (.int .i64 0) ∧ w'.cell? ⟨wb0.heap.size, 0, none⟩ = some (.int .i64 0) ∧ w'.cell? ⟨wb0.heap.size, 1, none⟩ = some (.slice A2 0 c2) ∧ w'.cell? ⟨wb0.heap.size, 2, none⟩ = some (.string ⟨#[]⟩))) := ⟨fun w' h => by
      have Y3 := (h.block wa0.heap.size (Array.getElem?_eq_some_iff.1 X3.out).1).trans X3.out
      have Y5 := (h.block wb0.heap.size (Array.getElem?_eq_some_iff.1 X5.out).1).trans X5.out
      obtain ⟨⟨m0, _⟩, ⟨m1, _⟩, ⟨m2, _⟩⟩ := box3 Y3
      obtain ⟨⟨n0, _⟩, ⟨n1, _⟩, ⟨n2, _⟩⟩ := box3 Y5
      exact ⟨h, m0, m1, m2, n0, n1, n2⟩⟩
    refine wp_region_held_drew (S := (fun w' => Below wc0.heap.size wc0 w' ∧ w'.cell? ⟨wa0.heap.size, 0, none⟩ = some (.int .i64 0) ∧ w'.cell? ⟨wa0.heap.size, 1, none⟩ = some (.int .i64 0) ∧ w'.cell? ⟨wa0.heap.size, 2, none⟩ = some (.int .i64 0) ∧ w'.cell? ⟨wb0.heap.size, 0, none⟩ = some (.int .i64 0) ∧ w'.cell? ⟨wb0.heap.size, 1, none⟩ = some (.slice A2 0 c2) ∧ w'.cell? ⟨wb0.heap.size, 2, none⟩ = some (.string ⟨#[]⟩))) (by kernel_rfl) ?_ (fun hHeld => ?_)
    · try dsimp only
      (first
        | exact MK.out _ (Below.drew (Below.refl _ _))
        | exact MK.out _ (pw_below_drewN (Below.refl _ _) _)
        | exact MK.out _ SB1.out
        | exact MK.out _ SB2.out
        | exact (by go_split_ands; assumption)
        | fail)
    refine wpAnyH_take (i := 0) (oi := _) (v := _) rfl (by kernel_rfl) (by kernel_rfl) (by kernel_rfl) (fun _ _ _ h => h) (Or.inl ⟨by rfl, by (intro w hSw; (try dsimp only at hSw); go_simp; try with_reducible rfl)⟩) hHeld ?_
    simp only [Act.put, List.getElem_toArray, List.getElem_cons_zero, List.getElem_cons_succ, List.setIfInBounds_toArray, List.set_cons_zero, List.set_cons_succ]
    refine wpAnyH_take (i := 1) (oi := _) (v := _) rfl (by kernel_rfl) (by kernel_rfl) (by kernel_rfl) (fun _ _ _ h => h) (Or.inl ⟨by rfl, by (intro w hSw; (try dsimp only at hSw); go_simp; try with_reducible rfl)⟩) hHeld ?_
    simp only [Act.put, List.getElem_toArray, List.getElem_cons_zero, List.getElem_cons_succ, List.setIfInBounds_toArray, List.set_cons_zero, List.set_cons_succ]
    refine wpAnyH_take (i := 2) (oi := _) (v := _) rfl (by kernel_rfl) (by kernel_rfl) (by kernel_rfl) (fun _ _ _ h => h) (Or.inl ⟨by rfl, by (intro w hSw; (try dsimp only at hSw); go_simp; try with_reducible rfl)⟩) hHeld ?_
    simp only [Act.put, List.getElem_toArray, List.getElem_cons_zero, List.getElem_cons_succ, List.setIfInBounds_toArray, List.set_cons_zero, List.set_cons_succ]
    refine wpAnyH_take (i := 3) (oi := _) (v := _) rfl (by kernel_rfl) (by kernel_rfl) (by kernel_rfl) (fun _ _ _ h => h) (Or.inl ⟨by rfl, by (intro w hSw; (try dsimp only at hSw); go_simp; try with_reducible rfl)⟩) hHeld ?_
    simp only [Act.put, List.getElem_toArray, List.getElem_cons_zero, List.getElem_cons_succ, List.setIfInBounds_toArray, List.set_cons_zero, List.set_cons_succ]
    refine wpAnyH_take (i := 4) (oi := _) (v := _) rfl (by kernel_rfl) (by kernel_rfl) (by kernel_rfl) (fun _ _ _ h => h) (Or.inl ⟨by rfl, by (intro w hSw; (try dsimp only at hSw); go_simp; try with_reducible rfl)⟩) hHeld ?_
    simp only [Act.put, List.getElem_toArray, List.getElem_cons_zero, List.getElem_cons_succ, List.setIfInBounds_toArray, List.set_cons_zero, List.set_cons_succ]
    refine wpAnyH_take (i := 5) (oi := _) (v := _) rfl (by kernel_rfl) (by kernel_rfl) (by kernel_rfl) (fun _ _ _ h => h) (Or.inl ⟨by rfl, by (intro w hSw; (try dsimp only at hSw); go_simp; try with_reducible rfl)⟩) hHeld ?_
    simp only [Act.put, List.getElem_toArray, List.getElem_cons_zero, List.getElem_cons_succ, List.setIfInBounds_toArray, List.set_cons_zero, List.set_cons_succ]
    refine wpAnyH_take (i := 6) (oi := _) (v := _) rfl (by kernel_rfl) (by kernel_rfl) (by kernel_rfl) (fun _ _ _ h => h) (Or.inl ⟨by rfl, by (intro w hSw; (try dsimp only at hSw); go_simp; try with_reducible rfl)⟩) hHeld ?_
    simp only [Act.put, List.getElem_toArray, List.getElem_cons_zero, List.getElem_cons_succ, List.setIfInBounds_toArray, List.set_cons_zero, List.set_cons_succ]
    refine wpAnyH_take (i := 7) (oi := _) (v := undef) rfl (by kernel_rfl) (by kernel_rfl) (by kernel_rfl) (fun _ _ _ h => h) (Or.inr ⟨by rfl, rfl⟩) hHeld ?_
    simp only [Act.put, List.getElem_toArray, List.getElem_cons_zero, List.getElem_cons_succ, List.setIfInBounds_toArray, List.set_cons_zero, List.set_cons_succ]
    refine wpAnyH_take (i := 8) (oi := _) (v := undef) rfl (by kernel_rfl) (by kernel_rfl) (by kernel_rfl) (fun _ _ _ h => h) (Or.inr ⟨by rfl, rfl⟩) hHeld ?_
    simp only [Act.put, List.getElem_toArray, List.getElem_cons_zero, List.getElem_cons_succ, List.setIfInBounds_toArray, List.set_cons_zero, List.set_cons_succ]
    refine wpAnyH_take (i := 9) (oi := _) (v := undef) rfl (by kernel_rfl) (by kernel_rfl) (by kernel_rfl) (fun _ _ _ h => h) (Or.inr ⟨by rfl, rfl⟩) hHeld ?_
    simp only [Act.put, List.getElem_toArray, List.getElem_cons_zero, List.getElem_cons_succ, List.setIfInBounds_toArray, List.set_cons_zero, List.set_cons_succ]
    refine wpAnyH_take (i := 10) (oi := _) (v := undef) rfl (by kernel_rfl) (by kernel_rfl) (by kernel_rfl) (fun _ _ _ h => h) (Or.inr ⟨by rfl, rfl⟩) hHeld ?_
    simp only [Act.put, List.getElem_toArray, List.getElem_cons_zero, List.getElem_cons_succ, List.setIfInBounds_toArray, List.set_cons_zero, List.set_cons_succ]
    refine wpAnyH_take (i := 11) (oi := _) (v := undef) rfl (by kernel_rfl) (by kernel_rfl) (by kernel_rfl) (fun _ _ _ h => h) (Or.inr ⟨by rfl, rfl⟩) hHeld ?_
    simp only [Act.put, List.getElem_toArray, List.getElem_cons_zero, List.getElem_cons_succ, List.setIfInBounds_toArray, List.set_cons_zero, List.set_cons_succ]
    refine wpAnyH_take (i := 12) (oi := _) (v := _) rfl (by kernel_rfl) (by kernel_rfl) (by kernel_rfl) (fun _ _ _ h => h) (Or.inl ⟨by rfl, by (intro w hSw; (try dsimp only at hSw); go_simp; try with_reducible rfl)⟩) hHeld ?_
    simp only [Act.put, List.getElem_toArray, List.getElem_cons_zero, List.getElem_cons_succ, List.setIfInBounds_toArray, List.set_cons_zero, List.set_cons_succ]
    refine wpAnyH_take (i := 13) (oi := _) (v := _) rfl (by kernel_rfl) (by kernel_rfl) (by kernel_rfl) (fun _ _ _ h => h) (Or.inl ⟨by rfl, by (intro w hSw; (try dsimp only at hSw); go_simp; try with_reducible rfl)⟩) hHeld ?_
    simp only [Act.put, List.getElem_toArray, List.getElem_cons_zero, List.getElem_cons_succ, List.setIfInBounds_toArray, List.set_cons_zero, List.set_cons_succ]
    refine wpAnyH_take (i := 14) (oi := _) (v := _) rfl (by kernel_rfl) (by kernel_rfl) (by kernel_rfl) (fun _ _ _ h => h) (Or.inl ⟨by rfl, by (intro w hSw; (try dsimp only at hSw); go_simp; try with_reducible rfl)⟩) hHeld ?_
    simp only [Act.put, List.getElem_toArray, List.getElem_cons_zero, List.getElem_cons_succ, List.setIfInBounds_toArray, List.set_cons_zero, List.set_cons_succ]
    refine wpAnyH_take (i := 15) (oi := _) (v := _) rfl (by kernel_rfl) (by kernel_rfl) (by kernel_rfl) (fun _ _ _ h => h) (Or.inl ⟨by rfl, by (intro w hSw; (try dsimp only at hSw); go_simp; try with_reducible rfl)⟩) hHeld ?_
    simp only [Act.put, List.getElem_toArray, List.getElem_cons_zero, List.getElem_cons_succ, List.setIfInBounds_toArray, List.set_cons_zero, List.set_cons_succ]
    refine wpAnyH_take (i := 16) (oi := _) (v := _) rfl (by kernel_rfl) (by kernel_rfl) (by kernel_rfl) (fun _ _ _ h => h) (Or.inl ⟨by rfl, by (intro w hSw; (try dsimp only at hSw); go_simp; try with_reducible rfl)⟩) hHeld ?_
    simp only [Act.put, List.getElem_toArray, List.getElem_cons_zero, List.getElem_cons_succ, List.setIfInBounds_toArray, List.set_cons_zero, List.set_cons_succ]
    refine wpAnyH_take (i := 17) (oi := _) (v := _) rfl (by kernel_rfl) (by kernel_rfl) (by kernel_rfl) (fun _ _ _ h => h) (Or.inl ⟨by rfl, by (intro w hSw; (try dsimp only at hSw); go_simp; try with_reducible rfl)⟩) hHeld ?_
    simp only [Act.put, List.getElem_toArray, List.getElem_cons_zero, List.getElem_cons_succ, List.setIfInBounds_toArray, List.set_cons_zero, List.set_cons_succ]
    refine wpAnyH_take (i := 18) (oi := _) (v := _) rfl (by kernel_rfl) (by kernel_rfl) (by kernel_rfl) (fun _ _ _ h => h) (Or.inl ⟨by rfl, by (intro w hSw; (try dsimp only at hSw); go_simp; try with_reducible rfl)⟩) hHeld ?_
    simp only [Act.put, List.getElem_toArray, List.getElem_cons_zero, List.getElem_cons_succ, List.setIfInBounds_toArray, List.set_cons_zero, List.set_cons_succ]
    refine wpAnyH_take (i := 19) (oi := _) (v := _) rfl (by kernel_rfl) (by kernel_rfl) (by kernel_rfl) (fun _ _ _ h => h) (Or.inl ⟨by rfl, by (intro w hSw; (try dsimp only at hSw); go_simp; try with_reducible rfl)⟩) hHeld ?_
    simp only [Act.put, List.getElem_toArray, List.getElem_cons_zero, List.getElem_cons_succ, List.setIfInBounds_toArray, List.set_cons_zero, List.set_cons_succ]
    refine wpAnyH_take (i := 20) (oi := _) (v := _) rfl (by kernel_rfl) (by kernel_rfl) (by kernel_rfl) (fun _ _ _ h => h) (Or.inl ⟨by rfl, by (intro w hSw; (try dsimp only at hSw); go_simp; try with_reducible rfl)⟩) hHeld ?_
    simp only [Act.put, List.getElem_toArray, List.getElem_cons_zero, List.getElem_cons_succ, List.setIfInBounds_toArray, List.set_cons_zero, List.set_cons_succ]
    refine wpAnyH_take (i := 21) (oi := _) (v := _) rfl (by kernel_rfl) (by kernel_rfl) (by kernel_rfl) (fun _ _ _ h => h) (Or.inl ⟨by rfl, by (intro w hSw; (try dsimp only at hSw); go_simp; try with_reducible rfl)⟩) hHeld ?_
    simp only [Act.put, List.getElem_toArray, List.getElem_cons_zero, List.getElem_cons_succ, List.setIfInBounds_toArray, List.set_cons_zero, List.set_cons_succ]
    refine wpAnyH_take (i := 22) (oi := _) (v := _) rfl (by kernel_rfl) (by kernel_rfl) (by kernel_rfl) (fun _ _ _ h => h) (Or.inl ⟨by rfl, by (intro w hSw; (try dsimp only at hSw); go_simp; try with_reducible rfl)⟩) hHeld ?_
    simp only [Act.put, List.getElem_toArray, List.getElem_cons_zero, List.getElem_cons_succ, List.setIfInBounds_toArray, List.set_cons_zero, List.set_cons_succ]
    refine wpAnyH_done (by kernel_rfl) ?_ _
    obtain ⟨we0, h5, hw⟩ : ∃ we0, Aside0 (Below wc0.heap.size wc0 we0) ∧ we0 = wc0.drew := ⟨_, ⟨Below.drew (Below.refl _ _)⟩, rfl⟩
    rw [← hw]
    have P5 := Aside0.mk ((h5.out.block wb0.heap.size G5).trans X5.out)
    have G5 : wb0.heap.size < we0.heap.size := Nat.lt_of_lt_of_le G5 h5.out.size
    have BA := Aside0.mk (B3.out.trans (h5.out.mono B3.out.size))
    clear DD HP B1 L2 X3 X5 C3 B3 MK hHeld hw h5 f1 f2 Z1
    rcases log_tells l0 W0.out hl0 K K1.out with ⟨x0, x1, x2, x3, x4, x5, x6, xt, hd, hp⟩ | ⟨ee, he, hd, hp⟩
    · have DD := Aside0.mk (recdecode_val l0 W0.out hl0 2 (by omega) (by omega) K K2.out)
      rw [hd] at DD
      have HP := Aside0.mk hp
      clear hd hp
      go_wp2_with fail
      refine (record_DecodeLog.calls K A0 c0 l0 x0 x1 x2 x3 x4 x5 x6 xt 0 we0 (Kd.C_below R0.out BA.out) C0.out HP.out).mono ?_
      rintro e wa1 ⟨rfl, hB⟩
      have B1 := Aside0.mk (BA.out.trans (hB.mono BA.out.size))
      have cv := fun (ob : Obj) c => Kd.C_string (c := c) (P := Tryd.prog) Tryd.underlying36 Tryd.underlying5 Tryd.underlying9 (Kd.C_alloc (Kd.C_below R0.out B1.out) ob)
      have P5 := Aside0.mk ((hB.block wb0.heap.size G5).trans P5.out)
      have G5 : wb0.heap.size < wa1.heap.size := Nat.lt_of_lt_of_le G5 hB.size
      clear hB
      go_wp2_with fail
      refine (cisternref07_DocDecode.calls K (strOfNums l0) 2 2 [x0, x1, x2, x3, x4, x5, x6] xt 0 _ DD.out).mono ?_
      rintro e wb1 ⟨v, rfl, hR, hB⟩
      have B2 := Aside0.mk (B1.out.trans ((below_alloc (Below.refl _ _) _).trans (hB.mono (by simp)) |>.mono B1.out.size))
      have X1 := Aside0.mk ((hB.block wa1.heap.size (by simp)).trans (heap_alloc_new wa1 (.cells #[.int .i64 x0, .int .i64 x1, .int .i64 x2, .int .i64 x3, .int .i64 x4, .int .i64 x5, .int .i64 x6, .string xt] 25)))
      have Z1 : wa1.heap.size < wb1.heap.size := by have := hB.size; simp at this; omega
      have P5 := Aside0.mk ((hB.block wb0.heap.size (by simp; omega)).trans (((below_alloc (Below.refl wa1.heap.size wa1) (.cells #[.int .i64 x0, .int .i64 x1, .int .i64 x2, .int .i64 x3, .int .i64 x4, .int .i64 x5, .int .i64 x6, .string xt] 25)).block wb0.heap.size G5).trans P5.out))
      have R2 := Kd.R_lower (base' := wb0.heap.size + 1) hR (by simp; omega)
      obtain ⟨A2, c2, rfl⟩ := Kd.R_slice R2
      have L2 := Aside0.mk (Kd.R_reads' R2).2.1
      have C2 := fun v0 v1 v2 => kept3 (v0 := v0) (v1 := v1) (v2 := v2) R2
      have G5b : wb0.heap.size < wb1.heap.size := by have := hB.size; simp at this; omega
      obtain ⟨⟨t0, u0⟩, ⟨t1, u1⟩, ⟨t2, u2⟩⟩ := box3 P5.out
      clear hR hB cv R2
      go_wp2_with fail
      have X5 := Aside0.mk (put3 (v0 := .int .i64 2) (v1 := .slice A2 ([x0, x1, x2, x3, x4, x5, x6] : List Int).length c2) (v2 := .string xt) P5.out)
      have X3 := Aside0.mk ((other3 (W := wb1) (g := wb0.heap.size) (v0 := .int .i64 2) (v1 := .slice A2 ([x0, x1, x2, x3, x4, x5, x6] : List Int).length c2) (v2 := .string xt) (k := wa1.heap.size) (by omega)).trans X1.out)
      have C3 := Aside0.mk (C2 (.int .i64 2) (.slice A2 ([x0, x1, x2, x3, x4, x5, x6] : List Int).length c2) (.string xt))
      have B3 := Aside0.mk (below3 (v0 := .int .i64 2) (v1 := .slice A2 ([x0, x1, x2, x3, x4, x5, x6] : List Int).length c2) (v2 := .string xt) GW.out B2.out)
      have G5 : wb0.heap.size < ((((wb1.setCell ⟨wb0.heap.size, 0, none⟩ (.int .i64 2)).setCell ⟨wb0.heap.size, 1, none⟩ (.slice A2 ([x0, x1, x2, x3, x4, x5, x6] : List Int).length c2)).setCell ⟨wb0.heap.size, 2, none⟩ (.string xt))).heap.size := by simpa [World.setCell] using G5b
      simp only [List.length_cons, List.length_nil, Nat.zero_add, Nat.reduceAdd] at X5 X3 C3 B3 G5
      clear C2 t0 u0 t1 u1 t2 u2
      generalize hw : (((wb1.setCell ⟨wb0.heap.size, 0, none⟩ (.int .i64 2)).setCell ⟨wb0.heap.size, 1, none⟩ (.slice A2 7 c2)).setCell ⟨wb0.heap.size, 2, none⟩ (.string xt)) = wc1 at X5 X3 C3 B3 G5 ⊢
      clear hw X1 B2 G5b Z1
      have MK : Aside0 (∀ w', Below wc1.heap.size wc1 w' → (Below wc1.heap.size wc1 w' ∧ w'.cell? ⟨wa1.heap.size, 0, none⟩ = some (.int .i64 x0) ∧ w'.cell? ⟨wa1.heap.size, 1, none⟩ = some (.int .i64 x1) ∧ w'.cell? ⟨wa1.heap.size, 2, none⟩ = some (.int .i64 x2) ∧ w'.cell? ⟨wa1.heap.size, 3, none⟩ = some (.int .i64 x3) ∧ w'.cell? ⟨wa1.heap.size, 4, none⟩ = some (.int .i64 x4) ∧ w'.cell? ⟨wa1.heap.size, 5, none⟩ = some (.int .i64 x5) ∧ w'.cell? ⟨wa1.heap.size, 6, none⟩ = some (.int .i64 x6) ∧ w'.cell? ⟨wa1.heap.size, 7, none⟩ = some (.string xt) ∧ w'.cell? ⟨wb0.heap.size, 0, none⟩ = some (.int .i64 2) ∧ w'.cell? ⟨wb0.heap.size, 1, none⟩ = some (.slice A2 7 c2) ∧ w'.cell? ⟨wb0.heap.size, 2, none⟩ = some (.string xt))) := ⟨fun w' h => by
        have Y3 := (h.block wa1.heap.size (Array.getElem?_eq_some_iff.1 X3.out).1).trans X3.out
        have Y5 := (h.block wb0.heap.size (Array.getElem?_eq_some_iff.1 X5.out).1).trans X5.out
        obtain ⟨⟨m0, _⟩, ⟨m1, _⟩, ⟨m2, _⟩, ⟨m3, _⟩, ⟨m4, _⟩, ⟨m5, _⟩, ⟨m6, _⟩, ⟨m7, _⟩⟩ := box8d Y3
        obtain ⟨⟨n0, _⟩, ⟨n1, _⟩, ⟨n2, _⟩⟩ := box3 Y5
        exact ⟨h, m0, m1, m2, m3, m4, m5, m6, m7, n0, n1, n2⟩⟩
      refine wp_region_held_drew (S := (fun w' => Below wc1.heap.size wc1 w' ∧ w'.cell? ⟨wa1.heap.size, 0, none⟩ = some (.int .i64 x0) ∧ w'.cell? ⟨wa1.heap.size, 1, none⟩ = some (.int .i64 x1) ∧ w'.cell? ⟨wa1.heap.size, 2, none⟩ = some (.int .i64 x2) ∧ w'.cell? ⟨wa1.heap.size, 3, none⟩ = some (.int .i64 x3) ∧ w'.cell? ⟨wa1.heap.size, 4, none⟩ = some (.int .i64 x4) ∧ w'.cell? ⟨wa1.heap.size, 5, none⟩ = some (.int .i64 x5) ∧ w'.cell? ⟨wa1.heap.size, 6, none⟩ = some (.int .i64 x6) ∧ w'.cell? ⟨wa1.heap.size, 7, none⟩ = some (.string xt) ∧ w'.cell? ⟨wb0.heap.size, 0, none⟩ = some (.int .i64 2) ∧ w'.cell? ⟨wb0.heap.size, 1, none⟩ = some (.slice A2 7 c2) ∧ w'.cell? ⟨wb0.heap.size, 2, none⟩ = some (.string xt))) (by kernel_rfl) ?_ (fun hHeld => ?_)
      · try dsimp only
        (first
          | exact MK.out _ (Below.drew (Below.refl _ _))
          | exact MK.out _ (pw_below_drewN (Below.refl _ _) _)
          | exact MK.out _ SB1.out
          | exact MK.out _ SB2.out
          | exact (by go_split_ands; assumption)
          | fail)
      refine wpAnyH_take (i := 0) (oi := _) (v := _) rfl (by kernel_rfl) (by kernel_rfl) (by kernel_rfl) (fun _ _ _ h => h) (Or.inl ⟨by rfl, by (intro w hSw; (try dsimp only at hSw); go_simp; try with_reducible rfl)⟩) hHeld ?_
      simp only [Act.put, List.getElem_toArray, List.getElem_cons_zero, List.getElem_cons_succ, List.setIfInBounds_toArray, List.set_cons_zero, List.set_cons_succ]
      refine wpAnyH_take (i := 1) (oi := _) (v := _) rfl (by kernel_rfl) (by kernel_rfl) (by kernel_rfl) (fun _ _ _ h => h) (Or.inl ⟨by rfl, by (intro w hSw; (try dsimp only at hSw); go_simp; try with_reducible rfl)⟩) hHeld ?_
      simp only [Act.put, List.getElem_toArray, List.getElem_cons_zero, List.getElem_cons_succ, List.setIfInBounds_toArray, List.set_cons_zero, List.set_cons_succ]
      refine wpAnyH_take (i := 2) (oi := _) (v := _) rfl (by kernel_rfl) (by kernel_rfl) (by kernel_rfl) (fun _ _ _ h => h) (Or.inl ⟨by rfl, by (intro w hSw; (try dsimp only at hSw); go_simp; try with_reducible rfl)⟩) hHeld ?_
      simp only [Act.put, List.getElem_toArray, List.getElem_cons_zero, List.getElem_cons_succ, List.setIfInBounds_toArray, List.set_cons_zero, List.set_cons_succ]
      refine wpAnyH_take (i := 3) (oi := _) (v := _) rfl (by kernel_rfl) (by kernel_rfl) (by kernel_rfl) (fun _ _ _ h => h) (Or.inl ⟨by rfl, by (intro w hSw; (try dsimp only at hSw); go_simp; try with_reducible rfl)⟩) hHeld ?_
      simp only [Act.put, List.getElem_toArray, List.getElem_cons_zero, List.getElem_cons_succ, List.setIfInBounds_toArray, List.set_cons_zero, List.set_cons_succ]
      refine wpAnyH_take (i := 4) (oi := _) (v := _) rfl (by kernel_rfl) (by kernel_rfl) (by kernel_rfl) (fun _ _ _ h => h) (Or.inl ⟨by rfl, by (intro w hSw; (try dsimp only at hSw); go_simp; try with_reducible rfl)⟩) hHeld ?_
      simp only [Act.put, List.getElem_toArray, List.getElem_cons_zero, List.getElem_cons_succ, List.setIfInBounds_toArray, List.set_cons_zero, List.set_cons_succ]
      refine wpAnyH_take (i := 5) (oi := _) (v := _) rfl (by kernel_rfl) (by kernel_rfl) (by kernel_rfl) (fun _ _ _ h => h) (Or.inl ⟨by rfl, by (intro w hSw; (try dsimp only at hSw); go_simp; try with_reducible rfl)⟩) hHeld ?_
      simp only [Act.put, List.getElem_toArray, List.getElem_cons_zero, List.getElem_cons_succ, List.setIfInBounds_toArray, List.set_cons_zero, List.set_cons_succ]
      refine wpAnyH_take (i := 6) (oi := _) (v := _) rfl (by kernel_rfl) (by kernel_rfl) (by kernel_rfl) (fun _ _ _ h => h) (Or.inl ⟨by rfl, by (intro w hSw; (try dsimp only at hSw); go_simp; try with_reducible rfl)⟩) hHeld ?_
      simp only [Act.put, List.getElem_toArray, List.getElem_cons_zero, List.getElem_cons_succ, List.setIfInBounds_toArray, List.set_cons_zero, List.set_cons_succ]
      refine wpAnyH_take (i := 7) (oi := _) (v := _) rfl (by kernel_rfl) (by kernel_rfl) (by kernel_rfl) (fun _ _ _ h => h) (Or.inl ⟨by rfl, by (intro w hSw; (try dsimp only at hSw); go_simp; try with_reducible rfl)⟩) hHeld ?_
      simp only [Act.put, List.getElem_toArray, List.getElem_cons_zero, List.getElem_cons_succ, List.setIfInBounds_toArray, List.set_cons_zero, List.set_cons_succ]
      refine wpAnyH_take (i := 9) (oi := _) (v := _) rfl (by kernel_rfl) (by kernel_rfl) (by kernel_rfl) (fun _ _ _ h => h) (Or.inl ⟨by rfl, by (intro w hSw; (try dsimp only at hSw); go_simp; try with_reducible rfl)⟩) hHeld ?_
      simp only [Act.put, List.getElem_toArray, List.getElem_cons_zero, List.getElem_cons_succ, List.setIfInBounds_toArray, List.set_cons_zero, List.set_cons_succ]
      refine wpAnyH_ready (rs := [8]) (by kernel_rfl) (by simp) ?_
      refine AllReadyH.cons rfl (fun K hK => ?_) AllReadyH.nil
      go_simp
      go_wp2_with (refine (cisternlaw07_logRec.calls x0 x1 x2 x3 x4 x5 x6 xt _ _ _ _ rfl).mono ?_; rintro e w4 ⟨v, rfl, hR, hB⟩; obtain ⟨A4, c4, rfl, h4, hC4⟩ := Kd.R_reads hR; have SB1 : Aside0 (Below wc1.heap.size wc1 w4) := ⟨by go_split_ands; exact Below.trans (by assumption) (hB.mono (Below.size (by assumption)))⟩; have C4 := Aside0.mk hC4; have L4 := Aside0.mk h4; clear hR hB hC4 h4)
      refine hK.out _ _ ?_ (fun hNew => ?_)
      · try dsimp only
        (first
          | exact MK.out _ (Below.drew (Below.refl _ _))
          | exact MK.out _ (pw_below_drewN (Below.refl _ _) _)
          | exact MK.out _ SB1.out
          | exact MK.out _ SB2.out
          | exact (by go_split_ands; assumption)
          | fail)
      clear hK K hHeld
      have hHeld := hNew
      clear hNew
      refine wpAnyH_ready (rs := [10]) (by kernel_rfl) (by simp) ?_
      refine AllReadyH.cons rfl (fun K hK => ?_) AllReadyH.nil
      go_simp
      go_wp2_with (refine (cisternlaw07_same.calls 50 2 A4 c4 [x0, x1, x2, x3, x4, x5, x6] xt 2 A2 c2 [x0, x1, x2, x3, x4, x5, x6] xt true _ C4.out L4.out (Kd.C_below C3.out (by go_split_ands; assumption)) L2.out (recsame_val 2 [x0, x1, x2, x3, x4, x5, x6] xt (by simp) 50 (by simp))).mono ?_; rintro e w5 ⟨rfl, hB⟩; have SB2 : Aside0 (Below wc1.heap.size wc1 w5) := ⟨by go_split_ands; exact Below.trans (by assumption) (hB.mono (Below.size (by assumption)))⟩; clear hB)
      refine hK.out _ _ ?_ (fun hNew => ?_)
      · try dsimp only
        (first
          | exact MK.out _ (Below.drew (Below.refl _ _))
          | exact MK.out _ (pw_below_drewN (Below.refl _ _) _)
          | exact MK.out _ SB1.out
          | exact MK.out _ SB2.out
          | exact (by go_split_ands; assumption)
          | fail)
      clear hK K hHeld
      have hHeld := hNew
      clear hNew
      refine wpAnyH_take (i := 11) (oi := _) (v := _) rfl (by kernel_rfl) (by kernel_rfl) (by kernel_rfl) (fun _ _ _ h => h) (Or.inl ⟨by rfl, by (intro w hSw; (try dsimp only at hSw); go_simp; try with_reducible rfl)⟩) hHeld ?_
      simp only [Act.put, List.getElem_toArray, List.getElem_cons_zero, List.getElem_cons_succ, List.setIfInBounds_toArray, List.set_cons_zero, List.set_cons_succ]
      refine wpAnyH_take (i := 12) (oi := _) (v := _) rfl (by kernel_rfl) (by kernel_rfl) (by kernel_rfl) (fun _ _ _ h => h) (Or.inl ⟨by rfl, by (intro w hSw; (try dsimp only at hSw); go_simp; try with_reducible rfl)⟩) hHeld ?_
      simp only [Act.put, List.getElem_toArray, List.getElem_cons_zero, List.getElem_cons_succ, List.setIfInBounds_toArray, List.set_cons_zero, List.set_cons_succ]
      refine wpAnyH_take (i := 13) (oi := _) (v := _) rfl (by kernel_rfl) (by kernel_rfl) (by kernel_rfl) (fun _ _ _ h => h) (Or.inl ⟨by rfl, by (intro w hSw; (try dsimp only at hSw); go_simp; try with_reducible rfl)⟩) hHeld ?_
      simp only [Act.put, List.getElem_toArray, List.getElem_cons_zero, List.getElem_cons_succ, List.setIfInBounds_toArray, List.set_cons_zero, List.set_cons_succ]
      refine wpAnyH_take (i := 14) (oi := _) (v := _) rfl (by kernel_rfl) (by kernel_rfl) (by kernel_rfl) (fun _ _ _ h => h) (Or.inl ⟨by rfl, by (intro w hSw; (try dsimp only at hSw); go_simp; try with_reducible rfl)⟩) hHeld ?_
      simp only [Act.put, List.getElem_toArray, List.getElem_cons_zero, List.getElem_cons_succ, List.setIfInBounds_toArray, List.set_cons_zero, List.set_cons_succ]
      refine wpAnyH_take (i := 15) (oi := _) (v := _) rfl (by kernel_rfl) (by kernel_rfl) (by kernel_rfl) (fun _ _ _ h => h) (Or.inl ⟨by rfl, by (intro w hSw; (try dsimp only at hSw); go_simp; try with_reducible rfl)⟩) hHeld ?_
      simp only [Act.put, List.getElem_toArray, List.getElem_cons_zero, List.getElem_cons_succ, List.setIfInBounds_toArray, List.set_cons_zero, List.set_cons_succ]
      refine wpAnyH_take (i := 16) (oi := _) (v := _) rfl (by kernel_rfl) (by kernel_rfl) (by kernel_rfl) (fun _ _ _ h => h) (Or.inl ⟨by rfl, by (intro w hSw; (try dsimp only at hSw); go_simp; try with_reducible rfl)⟩) hHeld ?_
      simp only [Act.put, List.getElem_toArray, List.getElem_cons_zero, List.getElem_cons_succ, List.setIfInBounds_toArray, List.set_cons_zero, List.set_cons_succ]
      refine wpAnyH_take (i := 17) (oi := _) (v := _) rfl (by kernel_rfl) (by kernel_rfl) (by kernel_rfl) (fun _ _ _ h => h) (Or.inl ⟨by rfl, by (intro w hSw; (try dsimp only at hSw); go_simp; try with_reducible rfl)⟩) hHeld ?_
      simp only [Act.put, List.getElem_toArray, List.getElem_cons_zero, List.getElem_cons_succ, List.setIfInBounds_toArray, List.set_cons_zero, List.set_cons_succ]
      refine wpAnyH_take (i := 18) (oi := _) (v := undef) rfl (by kernel_rfl) (by kernel_rfl) (by kernel_rfl) (fun _ _ _ h => h) (Or.inr ⟨by rfl, rfl⟩) hHeld ?_
      simp only [Act.put, List.getElem_toArray, List.getElem_cons_zero, List.getElem_cons_succ, List.setIfInBounds_toArray, List.set_cons_zero, List.set_cons_succ]
      refine wpAnyH_take (i := 19) (oi := _) (v := undef) rfl (by kernel_rfl) (by kernel_rfl) (by kernel_rfl) (fun _ _ _ h => h) (Or.inr ⟨by rfl, rfl⟩) hHeld ?_
      simp only [Act.put, List.getElem_toArray, List.getElem_cons_zero, List.getElem_cons_succ, List.setIfInBounds_toArray, List.set_cons_zero, List.set_cons_succ]
      refine wpAnyH_take (i := 20) (oi := _) (v := undef) rfl (by kernel_rfl) (by kernel_rfl) (by kernel_rfl) (fun _ _ _ h => h) (Or.inr ⟨by rfl, rfl⟩) hHeld ?_
      simp only [Act.put, List.getElem_toArray, List.getElem_cons_zero, List.getElem_cons_succ, List.setIfInBounds_toArray, List.set_cons_zero, List.set_cons_succ]
      refine wpAnyH_take (i := 21) (oi := _) (v := _) rfl (by kernel_rfl) (by kernel_rfl) (by kernel_rfl) (fun _ _ _ h => h) (Or.inl ⟨by rfl, by (intro w hSw; (try dsimp only at hSw); go_simp; try with_reducible rfl)⟩) hHeld ?_
      simp only [Act.put, List.getElem_toArray, List.getElem_cons_zero, List.getElem_cons_succ, List.setIfInBounds_toArray, List.set_cons_zero, List.set_cons_succ]
      refine wpAnyH_take (i := 22) (oi := _) (v := _) rfl (by kernel_rfl) (by kernel_rfl) (by kernel_rfl) (fun _ _ _ h => h) (Or.inl ⟨by rfl, by (intro w hSw; (try dsimp only at hSw); go_simp; try with_reducible rfl)⟩) hHeld ?_
      simp only [Act.put, List.getElem_toArray, List.getElem_cons_zero, List.getElem_cons_succ, List.setIfInBounds_toArray, List.set_cons_zero, List.set_cons_succ]
      refine wpAnyH_done (by kernel_rfl) ?_ _
      obtain ⟨we1, h5, hw⟩ : ∃ we1, Aside0 (Below wc1.heap.size wc1 we1) ∧ we1 = w5 := ⟨_, SB2, rfl⟩
      rw [← hw]
      have P5 := Aside0.mk ((h5.out.block wb0.heap.size G5).trans X5.out)
      have G5 : wb0.heap.size < we1.heap.size := Nat.lt_of_lt_of_le G5 h5.out.size
      have BA := Aside0.mk (B3.out.trans (h5.out.mono B3.out.size))
      clear DD HP B1 L2 X3 X5 C3 B3 MK hHeld hw h5 C4 L4 SB1 SB2
      rcases home_tells l0 W0.out hl0 K K1.out with ⟨x0, xt, hd, hp⟩ | ⟨ee, he, hd, hp⟩
      · have DD := Aside0.mk (recdecode_val l0 W0.out hl0 3 (by omega) (by omega) K K2.out)
        rw [hd] at DD
        have HP := Aside0.mk hp
        clear hd hp
        go_wp2_with fail
        refine (record_DecodeHome.calls K A0 c0 l0 x0 xt 0 we1 (Kd.C_below R0.out BA.out) C0.out HP.out).mono ?_
        rintro e wa2 ⟨rfl, hB⟩
        have B1 := Aside0.mk (BA.out.trans (hB.mono BA.out.size))
        have cv := fun (ob : Obj) c => Kd.C_string (c := c) (P := Tryd.prog) Tryd.underlying36 Tryd.underlying5 Tryd.underlying9 (Kd.C_alloc (Kd.C_below R0.out B1.out) ob)
        have P5 := Aside0.mk ((hB.block wb0.heap.size G5).trans P5.out)
        have G5 : wb0.heap.size < wa2.heap.size := Nat.lt_of_lt_of_le G5 hB.size
        clear hB
        go_wp2_with fail
        refine (cisternref07_DocDecode.calls K (strOfNums l0) 3 3 [x0] xt 0 _ DD.out).mono ?_
        rintro e wb2 ⟨v, rfl, hR, hB⟩
        have B2 := Aside0.mk (B1.out.trans ((below_alloc (Below.refl _ _) _).trans (hB.mono (by simp)) |>.mono B1.out.size))
        have X1 := Aside0.mk ((hB.block wa2.heap.size (by simp)).trans (heap_alloc_new wa2 (.cells #[.int .i64 x0, .string xt] 27)))
        have Z1 : wa2.heap.size < wb2.heap.size := by have := hB.size; simp at this; omega
        have P5 := Aside0.mk ((hB.block wb0.heap.size (by simp; omega)).trans (((below_alloc (Below.refl wa2.heap.size wa2) (.cells #[.int .i64 x0, .string xt] 27)).block wb0.heap.size G5).trans P5.out))
        have R2 := Kd.R_lower (base' := wb0.heap.size + 1) hR (by simp; omega)
        obtain ⟨A2, c2, rfl⟩ := Kd.R_slice R2
        have L2 := Aside0.mk (Kd.R_reads' R2).2.1
        have C2 := fun v0 v1 v2 => kept3 (v0 := v0) (v1 := v1) (v2 := v2) R2
        have G5b : wb0.heap.size < wb2.heap.size := by have := hB.size; simp at this; omega
        obtain ⟨⟨t0, u0⟩, ⟨t1, u1⟩, ⟨t2, u2⟩⟩ := box3 P5.out
        clear hR hB cv R2
        go_wp2_with fail
        have X5 := Aside0.mk (put3 (v0 := .int .i64 3) (v1 := .slice A2 ([x0] : List Int).length c2) (v2 := .string xt) P5.out)
        have X3 := Aside0.mk ((other3 (W := wb2) (g := wb0.heap.size) (v0 := .int .i64 3) (v1 := .slice A2 ([x0] : List Int).length c2) (v2 := .string xt) (k := wa2.heap.size) (by omega)).trans X1.out)
        have C3 := Aside0.mk (C2 (.int .i64 3) (.slice A2 ([x0] : List Int).length c2) (.string xt))
        have B3 := Aside0.mk (below3 (v0 := .int .i64 3) (v1 := .slice A2 ([x0] : List Int).length c2) (v2 := .string xt) GW.out B2.out)
        have G5 : wb0.heap.size < ((((wb2.setCell ⟨wb0.heap.size, 0, none⟩ (.int .i64 3)).setCell ⟨wb0.heap.size, 1, none⟩ (.slice A2 ([x0] : List Int).length c2)).setCell ⟨wb0.heap.size, 2, none⟩ (.string xt))).heap.size := by simpa [World.setCell] using G5b
        simp only [List.length_cons, List.length_nil, Nat.zero_add, Nat.reduceAdd] at X5 X3 C3 B3 G5
        clear C2 t0 u0 t1 u1 t2 u2
        generalize hw : (((wb2.setCell ⟨wb0.heap.size, 0, none⟩ (.int .i64 3)).setCell ⟨wb0.heap.size, 1, none⟩ (.slice A2 1 c2)).setCell ⟨wb0.heap.size, 2, none⟩ (.string xt)) = wc2 at X5 X3 C3 B3 G5 ⊢
        clear hw X1 B2 G5b Z1
        have MK : Aside0 (∀ w', Below wc2.heap.size wc2 w' → (Below wc2.heap.size wc2 w' ∧ w'.cell? ⟨wa2.heap.size, 0, none⟩ = some (.int .i64 x0) ∧ w'.cell? ⟨wa2.heap.size, 1, none⟩ = some (.string xt) ∧ w'.cell? ⟨wb0.heap.size, 0, none⟩ = some (.int .i64 3) ∧ w'.cell? ⟨wb0.heap.size, 1, none⟩ = some (.slice A2 1 c2) ∧ w'.cell? ⟨wb0.heap.size, 2, none⟩ = some (.string xt))) := ⟨fun w' h => by
          have Y3 := (h.block wa2.heap.size (Array.getElem?_eq_some_iff.1 X3.out).1).trans X3.out
          have Y5 := (h.block wb0.heap.size (Array.getElem?_eq_some_iff.1 X5.out).1).trans X5.out
          obtain ⟨⟨m0, _⟩, ⟨m1, _⟩⟩ := box2 Y3
          obtain ⟨⟨n0, _⟩, ⟨n1, _⟩, ⟨n2, _⟩⟩ := box3 Y5
          exact ⟨h, m0, m1, n0, n1, n2⟩⟩
        refine wp_region_held_drew (S := (fun w' => Below wc2.heap.size wc2 w' ∧ w'.cell? ⟨wa2.heap.size, 0, none⟩ = some (.int .i64 x0) ∧ w'.cell? ⟨wa2.heap.size, 1, none⟩ = some (.string xt) ∧ w'.cell? ⟨wb0.heap.size, 0, none⟩ = some (.int .i64 3) ∧ w'.cell? ⟨wb0.heap.size, 1, none⟩ = some (.slice A2 1 c2) ∧ w'.cell? ⟨wb0.heap.size, 2, none⟩ = some (.string xt))) (by kernel_rfl) ?_ (fun hHeld => ?_)
        · try dsimp only
          (first
            | exact MK.out _ (Below.drew (Below.refl _ _))
            | exact MK.out _ (pw_below_drewN (Below.refl _ _) _)
            | exact MK.out _ SB1.out
            | exact MK.out _ SB2.out
            | exact (by go_split_ands; assumption)
            | fail)
        refine wpAnyH_take (i := 0) (oi := _) (v := _) rfl (by kernel_rfl) (by kernel_rfl) (by kernel_rfl) (fun _ _ _ h => h) (Or.inl ⟨by rfl, by (intro w hSw; (try dsimp only at hSw); go_simp; try with_reducible rfl)⟩) hHeld ?_
        simp only [Act.put, List.getElem_toArray, List.getElem_cons_zero, List.getElem_cons_succ, List.setIfInBounds_toArray, List.set_cons_zero, List.set_cons_succ]
        refine wpAnyH_take (i := 1) (oi := _) (v := _) rfl (by kernel_rfl) (by kernel_rfl) (by kernel_rfl) (fun _ _ _ h => h) (Or.inl ⟨by rfl, by (intro w hSw; (try dsimp only at hSw); go_simp; try with_reducible rfl)⟩) hHeld ?_
        simp only [Act.put, List.getElem_toArray, List.getElem_cons_zero, List.getElem_cons_succ, List.setIfInBounds_toArray, List.set_cons_zero, List.set_cons_succ]
        refine wpAnyH_take (i := 2) (oi := _) (v := _) rfl (by kernel_rfl) (by kernel_rfl) (by kernel_rfl) (fun _ _ _ h => h) (Or.inl ⟨by rfl, by (intro w hSw; (try dsimp only at hSw); go_simp; try with_reducible rfl)⟩) hHeld ?_
        simp only [Act.put, List.getElem_toArray, List.getElem_cons_zero, List.getElem_cons_succ, List.setIfInBounds_toArray, List.set_cons_zero, List.set_cons_succ]
        refine wpAnyH_take (i := 3) (oi := _) (v := _) rfl (by kernel_rfl) (by kernel_rfl) (by kernel_rfl) (fun _ _ _ h => h) (Or.inl ⟨by rfl, by (intro w hSw; (try dsimp only at hSw); go_simp; try with_reducible rfl)⟩) hHeld ?_
        simp only [Act.put, List.getElem_toArray, List.getElem_cons_zero, List.getElem_cons_succ, List.setIfInBounds_toArray, List.set_cons_zero, List.set_cons_succ]
        refine wpAnyH_take (i := 4) (oi := _) (v := _) rfl (by kernel_rfl) (by kernel_rfl) (by kernel_rfl) (fun _ _ _ h => h) (Or.inl ⟨by rfl, by (intro w hSw; (try dsimp only at hSw); go_simp; try with_reducible rfl)⟩) hHeld ?_
        simp only [Act.put, List.getElem_toArray, List.getElem_cons_zero, List.getElem_cons_succ, List.setIfInBounds_toArray, List.set_cons_zero, List.set_cons_succ]
        refine wpAnyH_take (i := 5) (oi := _) (v := _) rfl (by kernel_rfl) (by kernel_rfl) (by kernel_rfl) (fun _ _ _ h => h) (Or.inl ⟨by rfl, by (intro w hSw; (try dsimp only at hSw); go_simp; try with_reducible rfl)⟩) hHeld ?_
        simp only [Act.put, List.getElem_toArray, List.getElem_cons_zero, List.getElem_cons_succ, List.setIfInBounds_toArray, List.set_cons_zero, List.set_cons_succ]
        refine wpAnyH_take (i := 6) (oi := _) (v := _) rfl (by kernel_rfl) (by kernel_rfl) (by kernel_rfl) (fun _ _ _ h => h) (Or.inl ⟨by rfl, by (intro w hSw; (try dsimp only at hSw); go_simp; try with_reducible rfl)⟩) hHeld ?_
        simp only [Act.put, List.getElem_toArray, List.getElem_cons_zero, List.getElem_cons_succ, List.setIfInBounds_toArray, List.set_cons_zero, List.set_cons_succ]
        refine wpAnyH_take (i := 7) (oi := _) (v := _) rfl (by kernel_rfl) (by kernel_rfl) (by kernel_rfl) (fun _ _ _ h => h) (Or.inl ⟨by rfl, by (intro w hSw; (try dsimp only at hSw); go_simp; try with_reducible rfl)⟩) hHeld ?_
        simp only [Act.put, List.getElem_toArray, List.getElem_cons_zero, List.getElem_cons_succ, List.setIfInBounds_toArray, List.set_cons_zero, List.set_cons_succ]
        refine wpAnyH_take (i := 9) (oi := _) (v := _) rfl (by kernel_rfl) (by kernel_rfl) (by kernel_rfl) (fun _ _ _ h => h) (Or.inl ⟨by rfl, by (intro w hSw; (try dsimp only at hSw); go_simp; try with_reducible rfl)⟩) hHeld ?_
        simp only [Act.put, List.getElem_toArray, List.getElem_cons_zero, List.getElem_cons_succ, List.setIfInBounds_toArray, List.set_cons_zero, List.set_cons_succ]
        refine wpAnyH_ready (rs := [8]) (by kernel_rfl) (by simp) ?_
        refine AllReadyH.cons rfl (fun K hK => ?_) AllReadyH.nil
        go_simp
        go_wp2_with (refine (cisternlaw07_homeRec.calls x0 xt _ _ _ _ rfl).mono ?_; rintro e w4 ⟨v, rfl, hR, hB⟩; obtain ⟨A4, c4, rfl, h4, hC4⟩ := Kd.R_reads hR; have SB1 : Aside0 (Below wc2.heap.size wc2 w4) := ⟨by go_split_ands; exact Below.trans (by assumption) (hB.mono (Below.size (by assumption)))⟩; have C4 := Aside0.mk hC4; have L4 := Aside0.mk h4; clear hR hB hC4 h4)
        refine hK.out _ _ ?_ (fun hNew => ?_)
        · try dsimp only
          (first
            | exact MK.out _ (Below.drew (Below.refl _ _))
            | exact MK.out _ (pw_below_drewN (Below.refl _ _) _)
            | exact MK.out _ SB1.out
            | exact MK.out _ SB2.out
            | exact (by go_split_ands; assumption)
            | fail)
        clear hK K hHeld
        have hHeld := hNew
        clear hNew
        refine wpAnyH_ready (rs := [10]) (by kernel_rfl) (by simp) ?_
        refine AllReadyH.cons rfl (fun K hK => ?_) AllReadyH.nil
        go_simp
        go_wp2_with (refine (cisternlaw07_same.calls 50 3 A4 c4 [x0] xt 3 A2 c2 [x0] xt true _ C4.out L4.out (Kd.C_below C3.out (by go_split_ands; assumption)) L2.out (recsame_val 3 [x0] xt (by simp) 50 (by simp))).mono ?_; rintro e w5 ⟨rfl, hB⟩; have SB2 : Aside0 (Below wc2.heap.size wc2 w5) := ⟨by go_split_ands; exact Below.trans (by assumption) (hB.mono (Below.size (by assumption)))⟩; clear hB)
        refine hK.out _ _ ?_ (fun hNew => ?_)
        · try dsimp only
          (first
            | exact MK.out _ (Below.drew (Below.refl _ _))
            | exact MK.out _ (pw_below_drewN (Below.refl _ _) _)
            | exact MK.out _ SB1.out
            | exact MK.out _ SB2.out
            | exact (by go_split_ands; assumption)
            | fail)
        clear hK K hHeld
        have hHeld := hNew
        clear hNew
        refine wpAnyH_take (i := 11) (oi := _) (v := _) rfl (by kernel_rfl) (by kernel_rfl) (by kernel_rfl) (fun _ _ _ h => h) (Or.inl ⟨by rfl, by (intro w hSw; (try dsimp only at hSw); go_simp; try with_reducible rfl)⟩) hHeld ?_
        simp only [Act.put, List.getElem_toArray, List.getElem_cons_zero, List.getElem_cons_succ, List.setIfInBounds_toArray, List.set_cons_zero, List.set_cons_succ]
        refine wpAnyH_take (i := 12) (oi := _) (v := _) rfl (by kernel_rfl) (by kernel_rfl) (by kernel_rfl) (fun _ _ _ h => h) (Or.inl ⟨by rfl, by (intro w hSw; (try dsimp only at hSw); go_simp; try with_reducible rfl)⟩) hHeld ?_
        simp only [Act.put, List.getElem_toArray, List.getElem_cons_zero, List.getElem_cons_succ, List.setIfInBounds_toArray, List.set_cons_zero, List.set_cons_succ]
        refine wpAnyH_take (i := 13) (oi := _) (v := _) rfl (by kernel_rfl) (by kernel_rfl) (by kernel_rfl) (fun _ _ _ h => h) (Or.inl ⟨by rfl, by (intro w hSw; (try dsimp only at hSw); go_simp; try with_reducible rfl)⟩) hHeld ?_
        simp only [Act.put, List.getElem_toArray, List.getElem_cons_zero, List.getElem_cons_succ, List.setIfInBounds_toArray, List.set_cons_zero, List.set_cons_succ]
        refine wpAnyH_take (i := 14) (oi := _) (v := _) rfl (by kernel_rfl) (by kernel_rfl) (by kernel_rfl) (fun _ _ _ h => h) (Or.inl ⟨by rfl, by (intro w hSw; (try dsimp only at hSw); go_simp; try with_reducible rfl)⟩) hHeld ?_
        simp only [Act.put, List.getElem_toArray, List.getElem_cons_zero, List.getElem_cons_succ, List.setIfInBounds_toArray, List.set_cons_zero, List.set_cons_succ]
        refine wpAnyH_take (i := 15) (oi := _) (v := _) rfl (by kernel_rfl) (by kernel_rfl) (by kernel_rfl) (fun _ _ _ h => h) (Or.inl ⟨by rfl, by (intro w hSw; (try dsimp only at hSw); go_simp; try with_reducible rfl)⟩) hHeld ?_
        simp only [Act.put, List.getElem_toArray, List.getElem_cons_zero, List.getElem_cons_succ, List.setIfInBounds_toArray, List.set_cons_zero, List.set_cons_succ]
        refine wpAnyH_take (i := 16) (oi := _) (v := _) rfl (by kernel_rfl) (by kernel_rfl) (by kernel_rfl) (fun _ _ _ h => h) (Or.inl ⟨by rfl, by (intro w hSw; (try dsimp only at hSw); go_simp; try with_reducible rfl)⟩) hHeld ?_
        simp only [Act.put, List.getElem_toArray, List.getElem_cons_zero, List.getElem_cons_succ, List.setIfInBounds_toArray, List.set_cons_zero, List.set_cons_succ]
        refine wpAnyH_take (i := 17) (oi := _) (v := undef) rfl (by kernel_rfl) (by kernel_rfl) (by kernel_rfl) (fun _ _ _ h => h) (Or.inr ⟨by rfl, rfl⟩) hHeld ?_
        simp only [Act.put, List.getElem_toArray, List.getElem_cons_zero, List.getElem_cons_succ, List.setIfInBounds_toArray, List.set_cons_zero, List.set_cons_succ]
        refine wpAnyH_take (i := 18) (oi := _) (v := undef) rfl (by kernel_rfl) (by kernel_rfl) (by kernel_rfl) (fun _ _ _ h => h) (Or.inr ⟨by rfl, rfl⟩) hHeld ?_
        simp only [Act.put, List.getElem_toArray, List.getElem_cons_zero, List.getElem_cons_succ, List.setIfInBounds_toArray, List.set_cons_zero, List.set_cons_succ]
        refine wpAnyH_take (i := 19) (oi := _) (v := undef) rfl (by kernel_rfl) (by kernel_rfl) (by kernel_rfl) (fun _ _ _ h => h) (Or.inr ⟨by rfl, rfl⟩) hHeld ?_
        simp only [Act.put, List.getElem_toArray, List.getElem_cons_zero, List.getElem_cons_succ, List.setIfInBounds_toArray, List.set_cons_zero, List.set_cons_succ]
        refine wpAnyH_take (i := 20) (oi := _) (v := _) rfl (by kernel_rfl) (by kernel_rfl) (by kernel_rfl) (fun _ _ _ h => h) (Or.inl ⟨by rfl, by (intro w hSw; (try dsimp only at hSw); go_simp; try with_reducible rfl)⟩) hHeld ?_
        simp only [Act.put, List.getElem_toArray, List.getElem_cons_zero, List.getElem_cons_succ, List.setIfInBounds_toArray, List.set_cons_zero, List.set_cons_succ]
        refine wpAnyH_take (i := 21) (oi := _) (v := _) rfl (by kernel_rfl) (by kernel_rfl) (by kernel_rfl) (fun _ _ _ h => h) (Or.inl ⟨by rfl, by (intro w hSw; (try dsimp only at hSw); go_simp; try with_reducible rfl)⟩) hHeld ?_
        simp only [Act.put, List.getElem_toArray, List.getElem_cons_zero, List.getElem_cons_succ, List.setIfInBounds_toArray, List.set_cons_zero, List.set_cons_succ]
        refine wpAnyH_take (i := 22) (oi := _) (v := _) rfl (by kernel_rfl) (by kernel_rfl) (by kernel_rfl) (fun _ _ _ h => h) (Or.inl ⟨by rfl, by (intro w hSw; (try dsimp only at hSw); go_simp; try with_reducible rfl)⟩) hHeld ?_
        simp only [Act.put, List.getElem_toArray, List.getElem_cons_zero, List.getElem_cons_succ, List.setIfInBounds_toArray, List.set_cons_zero, List.set_cons_succ]
        refine wpAnyH_done (by kernel_rfl) ?_ _
        obtain ⟨we2, h5, hw⟩ : ∃ we2, Aside0 (Below wc2.heap.size wc2 we2) ∧ we2 = w5 := ⟨_, SB2, rfl⟩
        rw [← hw]
        have P5 := Aside0.mk ((h5.out.block wb0.heap.size G5).trans X5.out)
        have G5 : wb0.heap.size < we2.heap.size := Nat.lt_of_lt_of_le G5 h5.out.size
        have BA := Aside0.mk (B3.out.trans (h5.out.mono B3.out.size))
        clear DD HP B1 L2 X3 X5 C3 B3 MK hHeld hw h5 C4 L4 SB1 SB2
        go_wp2_with fail
        go_ret
        exact ⟨rfl, BA.out⟩
      · have DD := Aside0.mk (recdecode_val l0 W0.out hl0 3 (by omega) (by omega) K K2.out)
        rw [hd] at DD
        have HP := Aside0.mk hp
        clear hd hp
        have f1 : (ee == 0) = false := beq_eq_false_iff_ne.2 he
        have f2 : (ee != 0) = true := bne_iff_ne.2 he
        clear he
        go_wp2_with fail
        refine (record_DecodeHome.calls K A0 c0 l0 0 ⟨#[]⟩ ee we1 (Kd.C_below R0.out BA.out) C0.out HP.out).mono ?_
        rintro e wa2 ⟨rfl, hB⟩
        have B1 := Aside0.mk (BA.out.trans (hB.mono BA.out.size))
        have cv := fun (ob : Obj) c => Kd.C_string (c := c) (P := Tryd.prog) Tryd.underlying36 Tryd.underlying5 Tryd.underlying9 (Kd.C_alloc (Kd.C_below R0.out B1.out) ob)
        have P5 := Aside0.mk ((hB.block wb0.heap.size G5).trans P5.out)
        have G5 : wb0.heap.size < wa2.heap.size := Nat.lt_of_lt_of_le G5 hB.size
        clear hB
        go_wp2_with fail
        refine (cisternref07_DocDecode.calls K (strOfNums l0) 3 0 ([] : List Int) ⟨#[]⟩ ee _ DD.out).mono ?_
        rintro e wb2 ⟨v, rfl, hR, hB⟩
        have B2 := Aside0.mk (B1.out.trans ((below_alloc (Below.refl _ _) _).trans (hB.mono (by simp)) |>.mono B1.out.size))
        have X1 := Aside0.mk ((hB.block wa2.heap.size (by simp)).trans (heap_alloc_new wa2 (.cells #[.int .i64 0, .string ⟨#[]⟩] 27)))
        have Z1 : wa2.heap.size < wb2.heap.size := by have := hB.size; simp at this; omega
        have P5 := Aside0.mk ((hB.block wb0.heap.size (by simp; omega)).trans (((below_alloc (Below.refl wa2.heap.size wa2) (.cells #[.int .i64 0, .string ⟨#[]⟩] 27)).block wb0.heap.size G5).trans P5.out))
        have R2 := Kd.R_lower (base' := wb0.heap.size + 1) hR (by simp; omega)
        obtain ⟨A2, c2, rfl⟩ := Kd.R_slice R2
        have L2 := Aside0.mk (Kd.R_reads' R2).2.1
        have C2 := fun v0 v1 v2 => kept3 (v0 := v0) (v1 := v1) (v2 := v2) R2
        have G5b : wb0.heap.size < wb2.heap.size := by have := hB.size; simp at this; omega
        obtain ⟨⟨t0, u0⟩, ⟨t1, u1⟩, ⟨t2, u2⟩⟩ := box3 P5.out
        clear hR hB cv R2
        go_wp2_with fail
        have X5 := Aside0.mk (put3 (v0 := .int .i64 0) (v1 := .slice A2 (([] : List Int) : List Int).length c2) (v2 := .string ⟨#[]⟩) P5.out)
        have X3 := Aside0.mk ((other3 (W := wb2) (g := wb0.heap.size) (v0 := .int .i64 0) (v1 := .slice A2 (([] : List Int) : List Int).length c2) (v2 := .string ⟨#[]⟩) (k := wa2.heap.size) (by omega)).trans X1.out)
        have C3 := Aside0.mk (C2 (.int .i64 0) (.slice A2 (([] : List Int) : List Int).length c2) (.string ⟨#[]⟩))
        have B3 := Aside0.mk (below3 (v0 := .int .i64 0) (v1 := .slice A2 (([] : List Int) : List Int).length c2) (v2 := .string ⟨#[]⟩) GW.out B2.out)
        have G5 : wb0.heap.size < ((((wb2.setCell ⟨wb0.heap.size, 0, none⟩ (.int .i64 0)).setCell ⟨wb0.heap.size, 1, none⟩ (.slice A2 (([] : List Int) : List Int).length c2)).setCell ⟨wb0.heap.size, 2, none⟩ (.string ⟨#[]⟩))).heap.size := by simpa [World.setCell] using G5b
        simp only [List.length_cons, List.length_nil, Nat.zero_add, Nat.reduceAdd] at X5 X3 C3 B3 G5
        clear C2 t0 u0 t1 u1 t2 u2
        generalize hw : (((wb2.setCell ⟨wb0.heap.size, 0, none⟩ (.int .i64 0)).setCell ⟨wb0.heap.size, 1, none⟩ (.slice A2 0 c2)).setCell ⟨wb0.heap.size, 2, none⟩ (.string ⟨#[]⟩)) = wc2 at X5 X3 C3 B3 G5 ⊢
        clear hw X1 B2 G5b Z1
        have MK : Aside0 (∀ w', Below wc2.heap.size wc2 w' → (Below wc2.heap.size wc2 w' ∧ w'.cell? ⟨wa2.heap.size, 0, none⟩ = some (.int .i64 0) ∧ w'.cell? ⟨wa2.heap.size, 1, none⟩ = some (.string ⟨#[]⟩) ∧ w'.cell? ⟨wb0.heap.size, 0, none⟩ = some (.int .i64 0) ∧ w'.cell? ⟨wb0.heap.size, 1, none⟩ = some (.slice A2 0 c2) ∧ w'.cell? ⟨wb0.heap.size, 2, none⟩ = some (.string ⟨#[]⟩))) := ⟨fun w' h => by
          have Y3 := (h.block wa2.heap.size (Array.getElem?_eq_some_iff.1 X3.out).1).trans X3.out
          have Y5 := (h.block wb0.heap.size (Array.getElem?_eq_some_iff.1 X5.out).1).trans X5.out
          obtain ⟨⟨m0, _⟩, ⟨m1, _⟩⟩ := box2 Y3
          obtain ⟨⟨n0, _⟩, ⟨n1, _⟩, ⟨n2, _⟩⟩ := box3 Y5
          exact ⟨h, m0, m1, n0, n1, n2⟩⟩
        refine wp_region_held_drew (S := (fun w' => Below wc2.heap.size wc2 w' ∧ w'.cell? ⟨wa2.heap.size, 0, none⟩ = some (.int .i64 0) ∧ w'.cell? ⟨wa2.heap.size, 1, none⟩ = some (.string ⟨#[]⟩) ∧ w'.cell? ⟨wb0.heap.size, 0, none⟩ = some (.int .i64 0) ∧ w'.cell? ⟨wb0.heap.size, 1, none⟩ = some (.slice A2 0 c2) ∧ w'.cell? ⟨wb0.heap.size, 2, none⟩ = some (.string ⟨#[]⟩))) (by kernel_rfl) ?_ (fun hHeld => ?_)
        · try dsimp only
          (first
            | exact MK.out _ (Below.drew (Below.refl _ _))
            | exact MK.out _ (pw_below_drewN (Below.refl _ _) _)
            | exact MK.out _ SB1.out
            | exact MK.out _ SB2.out
            | exact (by go_split_ands; assumption)
            | fail)
        refine wpAnyH_take (i := 0) (oi := _) (v := _) rfl (by kernel_rfl) (by kernel_rfl) (by kernel_rfl) (fun _ _ _ h => h) (Or.inl ⟨by rfl, by (intro w hSw; (try dsimp only at hSw); go_simp; try with_reducible rfl)⟩) hHeld ?_
        simp only [Act.put, List.getElem_toArray, List.getElem_cons_zero, List.getElem_cons_succ, List.setIfInBounds_toArray, List.set_cons_zero, List.set_cons_succ]
        refine wpAnyH_take (i := 1) (oi := _) (v := _) rfl (by kernel_rfl) (by kernel_rfl) (by kernel_rfl) (fun _ _ _ h => h) (Or.inl ⟨by rfl, by (intro w hSw; (try dsimp only at hSw); go_simp; try with_reducible rfl)⟩) hHeld ?_
        simp only [Act.put, List.getElem_toArray, List.getElem_cons_zero, List.getElem_cons_succ, List.setIfInBounds_toArray, List.set_cons_zero, List.set_cons_succ]
        refine wpAnyH_take (i := 2) (oi := _) (v := _) rfl (by kernel_rfl) (by kernel_rfl) (by kernel_rfl) (fun _ _ _ h => h) (Or.inl ⟨by rfl, by (intro w hSw; (try dsimp only at hSw); go_simp; try with_reducible rfl)⟩) hHeld ?_
        simp only [Act.put, List.getElem_toArray, List.getElem_cons_zero, List.getElem_cons_succ, List.setIfInBounds_toArray, List.set_cons_zero, List.set_cons_succ]
        refine wpAnyH_take (i := 3) (oi := _) (v := _) rfl (by kernel_rfl) (by kernel_rfl) (by kernel_rfl) (fun _ _ _ h => h) (Or.inl ⟨by rfl, by (intro w hSw; (try dsimp only at hSw); go_simp; try with_reducible rfl)⟩) hHeld ?_
        simp only [Act.put, List.getElem_toArray, List.getElem_cons_zero, List.getElem_cons_succ, List.setIfInBounds_toArray, List.set_cons_zero, List.set_cons_succ]
        refine wpAnyH_take (i := 4) (oi := _) (v := _) rfl (by kernel_rfl) (by kernel_rfl) (by kernel_rfl) (fun _ _ _ h => h) (Or.inl ⟨by rfl, by (intro w hSw; (try dsimp only at hSw); go_simp; try with_reducible rfl)⟩) hHeld ?_
        simp only [Act.put, List.getElem_toArray, List.getElem_cons_zero, List.getElem_cons_succ, List.setIfInBounds_toArray, List.set_cons_zero, List.set_cons_succ]
        refine wpAnyH_take (i := 5) (oi := _) (v := _) rfl (by kernel_rfl) (by kernel_rfl) (by kernel_rfl) (fun _ _ _ h => h) (Or.inl ⟨by rfl, by (intro w hSw; (try dsimp only at hSw); go_simp; try with_reducible rfl)⟩) hHeld ?_
        simp only [Act.put, List.getElem_toArray, List.getElem_cons_zero, List.getElem_cons_succ, List.setIfInBounds_toArray, List.set_cons_zero, List.set_cons_succ]
        refine wpAnyH_take (i := 6) (oi := _) (v := _) rfl (by kernel_rfl) (by kernel_rfl) (by kernel_rfl) (fun _ _ _ h => h) (Or.inl ⟨by rfl, by (intro w hSw; (try dsimp only at hSw); go_simp; try with_reducible rfl)⟩) hHeld ?_
        simp only [Act.put, List.getElem_toArray, List.getElem_cons_zero, List.getElem_cons_succ, List.setIfInBounds_toArray, List.set_cons_zero, List.set_cons_succ]
        refine wpAnyH_take (i := 7) (oi := _) (v := undef) rfl (by kernel_rfl) (by kernel_rfl) (by kernel_rfl) (fun _ _ _ h => h) (Or.inr ⟨by rfl, rfl⟩) hHeld ?_
        simp only [Act.put, List.getElem_toArray, List.getElem_cons_zero, List.getElem_cons_succ, List.setIfInBounds_toArray, List.set_cons_zero, List.set_cons_succ]
        refine wpAnyH_take (i := 8) (oi := _) (v := undef) rfl (by kernel_rfl) (by kernel_rfl) (by kernel_rfl) (fun _ _ _ h => h) (Or.inr ⟨by rfl, rfl⟩) hHeld ?_
        simp only [Act.put, List.getElem_toArray, List.getElem_cons_zero, List.getElem_cons_succ, List.setIfInBounds_toArray, List.set_cons_zero, List.set_cons_succ]
        refine wpAnyH_take (i := 9) (oi := _) (v := undef) rfl (by kernel_rfl) (by kernel_rfl) (by kernel_rfl) (fun _ _ _ h => h) (Or.inr ⟨by rfl, rfl⟩) hHeld ?_
        simp only [Act.put, List.getElem_toArray, List.getElem_cons_zero, List.getElem_cons_succ, List.setIfInBounds_toArray, List.set_cons_zero, List.set_cons_succ]
        refine wpAnyH_take (i := 10) (oi := _) (v := undef) rfl (by kernel_rfl) (by kernel_rfl) (by kernel_rfl) (fun _ _ _ h => h) (Or.inr ⟨by rfl, rfl⟩) hHeld ?_
        simp only [Act.put, List.getElem_toArray, List.getElem_cons_zero, List.getElem_cons_succ, List.setIfInBounds_toArray, List.set_cons_zero, List.set_cons_succ]
        refine wpAnyH_take (i := 11) (oi := _) (v := _) rfl (by kernel_rfl) (by kernel_rfl) (by kernel_rfl) (fun _ _ _ h => h) (Or.inl ⟨by rfl, by (intro w hSw; (try dsimp only at hSw); go_simp; try with_reducible rfl)⟩) hHeld ?_
        simp only [Act.put, List.getElem_toArray, List.getElem_cons_zero, List.getElem_cons_succ, List.setIfInBounds_toArray, List.set_cons_zero, List.set_cons_succ]
        refine wpAnyH_take (i := 12) (oi := _) (v := _) rfl (by kernel_rfl) (by kernel_rfl) (by kernel_rfl) (fun _ _ _ h => h) (Or.inl ⟨by rfl, by (intro w hSw; (try dsimp only at hSw); go_simp; try with_reducible rfl)⟩) hHeld ?_
        simp only [Act.put, List.getElem_toArray, List.getElem_cons_zero, List.getElem_cons_succ, List.setIfInBounds_toArray, List.set_cons_zero, List.set_cons_succ]
        refine wpAnyH_take (i := 13) (oi := _) (v := _) rfl (by kernel_rfl) (by kernel_rfl) (by kernel_rfl) (fun _ _ _ h => h) (Or.inl ⟨by rfl, by (intro w hSw; (try dsimp only at hSw); go_simp; try with_reducible rfl)⟩) hHeld ?_
        simp only [Act.put, List.getElem_toArray, List.getElem_cons_zero, List.getElem_cons_succ, List.setIfInBounds_toArray, List.set_cons_zero, List.set_cons_succ]
        refine wpAnyH_take (i := 14) (oi := _) (v := _) rfl (by kernel_rfl) (by kernel_rfl) (by kernel_rfl) (fun _ _ _ h => h) (Or.inl ⟨by rfl, by (intro w hSw; (try dsimp only at hSw); go_simp; try with_reducible rfl)⟩) hHeld ?_
        simp only [Act.put, List.getElem_toArray, List.getElem_cons_zero, List.getElem_cons_succ, List.setIfInBounds_toArray, List.set_cons_zero, List.set_cons_succ]
        refine wpAnyH_take (i := 15) (oi := _) (v := _) rfl (by kernel_rfl) (by kernel_rfl) (by kernel_rfl) (fun _ _ _ h => h) (Or.inl ⟨by rfl, by (intro w hSw; (try dsimp only at hSw); go_simp; try with_reducible rfl)⟩) hHeld ?_
        simp only [Act.put, List.getElem_toArray, List.getElem_cons_zero, List.getElem_cons_succ, List.setIfInBounds_toArray, List.set_cons_zero, List.set_cons_succ]
        refine wpAnyH_take (i := 16) (oi := _) (v := _) rfl (by kernel_rfl) (by kernel_rfl) (by kernel_rfl) (fun _ _ _ h => h) (Or.inl ⟨by rfl, by (intro w hSw; (try dsimp only at hSw); go_simp; try with_reducible rfl)⟩) hHeld ?_
        simp only [Act.put, List.getElem_toArray, List.getElem_cons_zero, List.getElem_cons_succ, List.setIfInBounds_toArray, List.set_cons_zero, List.set_cons_succ]
        refine wpAnyH_take (i := 17) (oi := _) (v := _) rfl (by kernel_rfl) (by kernel_rfl) (by kernel_rfl) (fun _ _ _ h => h) (Or.inl ⟨by rfl, by (intro w hSw; (try dsimp only at hSw); go_simp; try with_reducible rfl)⟩) hHeld ?_
        simp only [Act.put, List.getElem_toArray, List.getElem_cons_zero, List.getElem_cons_succ, List.setIfInBounds_toArray, List.set_cons_zero, List.set_cons_succ]
        refine wpAnyH_take (i := 18) (oi := _) (v := _) rfl (by kernel_rfl) (by kernel_rfl) (by kernel_rfl) (fun _ _ _ h => h) (Or.inl ⟨by rfl, by (intro w hSw; (try dsimp only at hSw); go_simp; try with_reducible rfl)⟩) hHeld ?_
        simp only [Act.put, List.getElem_toArray, List.getElem_cons_zero, List.getElem_cons_succ, List.setIfInBounds_toArray, List.set_cons_zero, List.set_cons_succ]
        refine wpAnyH_take (i := 19) (oi := _) (v := _) rfl (by kernel_rfl) (by kernel_rfl) (by kernel_rfl) (fun _ _ _ h => h) (Or.inl ⟨by rfl, by (intro w hSw; (try dsimp only at hSw); go_simp; try with_reducible rfl)⟩) hHeld ?_
        simp only [Act.put, List.getElem_toArray, List.getElem_cons_zero, List.getElem_cons_succ, List.setIfInBounds_toArray, List.set_cons_zero, List.set_cons_succ]
        refine wpAnyH_take (i := 20) (oi := _) (v := _) rfl (by kernel_rfl) (by kernel_rfl) (by kernel_rfl) (fun _ _ _ h => h) (Or.inl ⟨by rfl, by (intro w hSw; (try dsimp only at hSw); go_simp; try with_reducible rfl)⟩) hHeld ?_
        simp only [Act.put, List.getElem_toArray, List.getElem_cons_zero, List.getElem_cons_succ, List.setIfInBounds_toArray, List.set_cons_zero, List.set_cons_succ]
        refine wpAnyH_take (i := 21) (oi := _) (v := _) rfl (by kernel_rfl) (by kernel_rfl) (by kernel_rfl) (fun _ _ _ h => h) (Or.inl ⟨by rfl, by (intro w hSw; (try dsimp only at hSw); go_simp; try with_reducible rfl)⟩) hHeld ?_
        simp only [Act.put, List.getElem_toArray, List.getElem_cons_zero, List.getElem_cons_succ, List.setIfInBounds_toArray, List.set_cons_zero, List.set_cons_succ]
        refine wpAnyH_take (i := 22) (oi := _) (v := _) rfl (by kernel_rfl) (by kernel_rfl) (by kernel_rfl) (fun _ _ _ h => h) (Or.inl ⟨by rfl, by (intro w hSw; (try dsimp only at hSw); go_simp; try with_reducible rfl)⟩) hHeld ?_
        simp only [Act.put, List.getElem_toArray, List.getElem_cons_zero, List.getElem_cons_succ, List.setIfInBounds_toArray, List.set_cons_zero, List.set_cons_succ]
        refine wpAnyH_done (by kernel_rfl) ?_ _
        obtain ⟨we2, h5, hw⟩ : ∃ we2, Aside0 (Below wc2.heap.size wc2 we2) ∧ we2 = wc2.drew := ⟨_, ⟨Below.drew (Below.refl _ _)⟩, rfl⟩
        rw [← hw]
        have P5 := Aside0.mk ((h5.out.block wb0.heap.size G5).trans X5.out)
        have G5 : wb0.heap.size < we2.heap.size := Nat.lt_of_lt_of_le G5 h5.out.size
        have BA := Aside0.mk (B3.out.trans (h5.out.mono B3.out.size))
        clear DD HP B1 L2 X3 X5 C3 B3 MK hHeld hw h5 f1 f2
        go_wp2_with fail
        go_ret
        exact ⟨rfl, BA.out⟩
    · have DD := Aside0.mk (recdecode_val l0 W0.out hl0 2 (by omega) (by omega) K K2.out)
      rw [hd] at DD
      have HP := Aside0.mk hp
      clear hd hp
      have f1 : (ee == 0) = false := beq_eq_false_iff_ne.2 he
      have f2 : (ee != 0) = true := bne_iff_ne.2 he
      clear he
      go_wp2_with fail
      refine (record_DecodeLog.calls K A0 c0 l0 0 0 0 0 0 0 0 ⟨#[]⟩ ee we0 (Kd.C_below R0.out BA.out) C0.out HP.out).mono ?_
      rintro e wa1 ⟨rfl, hB⟩
      have B1 := Aside0.mk (BA.out.trans (hB.mono BA.out.size))
      have cv := fun (ob : Obj) c => Kd.C_string (c := c) (P := Tryd.prog) Tryd.underlying36 Tryd.underlying5 Tryd.underlying9 (Kd.C_alloc (Kd.C_below R0.out B1.out) ob)
      have P5 := Aside0.mk ((hB.block wb0.heap.size G5).trans P5.out)
      have G5 : wb0.heap.size < wa1.heap.size := Nat.lt_of_lt_of_le G5 hB.size
      clear hB
      go_wp2_with fail
      refine (cisternref07_DocDecode.calls K (strOfNums l0) 2 0 ([] : List Int) ⟨#[]⟩ ee _ DD.out).mono ?_
      rintro e wb1 ⟨v, rfl, hR, hB⟩
      have B2 := Aside0.mk (B1.out.trans ((below_alloc (Below.refl _ _) _).trans (hB.mono (by simp)) |>.mono B1.out.size))
      have X1 := Aside0.mk ((hB.block wa1.heap.size (by simp)).trans (heap_alloc_new wa1 (.cells #[.int .i64 0, .int .i64 0, .int .i64 0, .int .i64 0, .int .i64 0, .int .i64 0, .int .i64 0, .string ⟨#[]⟩] 25)))
      have Z1 : wa1.heap.size < wb1.heap.size := by have := hB.size; simp at this; omega
      have P5 := Aside0.mk ((hB.block wb0.heap.size (by simp; omega)).trans (((below_alloc (Below.refl wa1.heap.size wa1) (.cells #[.int .i64 0, .int .i64 0, .int .i64 0, .int .i64 0, .int .i64 0, .int .i64 0, .int .i64 0, .string ⟨#[]⟩] 25)).block wb0.heap.size G5).trans P5.out))
      have R2 := Kd.R_lower (base' := wb0.heap.size + 1) hR (by simp; omega)
      obtain ⟨A2, c2, rfl⟩ := Kd.R_slice R2
      have L2 := Aside0.mk (Kd.R_reads' R2).2.1
      have C2 := fun v0 v1 v2 => kept3 (v0 := v0) (v1 := v1) (v2 := v2) R2
      have G5b : wb0.heap.size < wb1.heap.size := by have := hB.size; simp at this; omega
      obtain ⟨⟨t0, u0⟩, ⟨t1, u1⟩, ⟨t2, u2⟩⟩ := box3 P5.out
      clear hR hB cv R2
      go_wp2_with fail
      have X5 := Aside0.mk (put3 (v0 := .int .i64 0) (v1 := .slice A2 (([] : List Int) : List Int).length c2) (v2 := .string ⟨#[]⟩) P5.out)
      have X3 := Aside0.mk ((other3 (W := wb1) (g := wb0.heap.size) (v0 := .int .i64 0) (v1 := .slice A2 (([] : List Int) : List Int).length c2) (v2 := .string ⟨#[]⟩) (k := wa1.heap.size) (by omega)).trans X1.out)
      have C3 := Aside0.mk (C2 (.int .i64 0) (.slice A2 (([] : List Int) : List Int).length c2) (.string ⟨#[]⟩))
      have B3 := Aside0.mk (below3 (v0 := .int .i64 0) (v1 := .slice A2 (([] : List Int) : List Int).length c2) (v2 := .string ⟨#[]⟩) GW.out B2.out)
      have G5 : wb0.heap.size < ((((wb1.setCell ⟨wb0.heap.size, 0, none⟩ (.int .i64 0)).setCell ⟨wb0.heap.size, 1, none⟩ (.slice A2 (([] : List Int) : List Int).length c2)).setCell ⟨wb0.heap.size, 2, none⟩ (.string ⟨#[]⟩))).heap.size := by simpa [World.setCell] using G5b
      simp only [List.length_cons, List.length_nil, Nat.zero_add, Nat.reduceAdd] at X5 X3 C3 B3 G5
      clear C2 t0 u0 t1 u1 t2 u2
      generalize hw : (((wb1.setCell ⟨wb0.heap.size, 0, none⟩ (.int .i64 0)).setCell ⟨wb0.heap.size, 1, none⟩ (.slice A2 0 c2)).setCell ⟨wb0.heap.size, 2, none⟩ (.string ⟨#[]⟩)) = wc1 at X5 X3 C3 B3 G5 ⊢
      clear hw X1 B2 G5b Z1
      have MK : Aside0 (∀ w', Below wc1.heap.size wc1 w' → (Below wc1.heap.size wc1 w' ∧ w'.cell? ⟨wa1.heap.size, 0, none⟩ = some (.int .i64 0) ∧ w'.cell? ⟨wa1.heap.size, 1, none⟩ = some (.int .i64 0) ∧ w'.cell? ⟨wa1.heap.size, 2, none⟩ = some (.int .i64 0) ∧ w'.cell? ⟨wa1.heap.size, 3, none⟩ = some (.int .i64 0) ∧ w'.cell? ⟨wa1.heap.size, 4, none⟩ = some (.int .i64 0) ∧ w'.cell? ⟨wa1.heap.size, 5, none⟩ = some (.int .i64 0) ∧ w'.cell? ⟨wa1.heap.size, 6, none⟩ = some (.int .i64 0) ∧ w'.cell? ⟨wa1.heap.size, 7, none⟩ = some (.string ⟨#[]⟩) ∧ w'.cell? ⟨wb0.heap.size, 0, none⟩ = some (.int .i64 0) ∧ w'.cell? ⟨wb0.heap.size, 1, none⟩ = some (.slice A2 0 c2) ∧ w'.cell? ⟨wb0.heap.size, 2, none⟩ = some (.string ⟨#[]⟩))) := ⟨fun w' h => by
        have Y3 := (h.block wa1.heap.size (Array.getElem?_eq_some_iff.1 X3.out).1).trans X3.out
        have Y5 := (h.block wb0.heap.size (Array.getElem?_eq_some_iff.1 X5.out).1).trans X5.out
        obtain ⟨⟨m0, _⟩, ⟨m1, _⟩, ⟨m2, _⟩, ⟨m3, _⟩, ⟨m4, _⟩, ⟨m5, _⟩, ⟨m6, _⟩, ⟨m7, _⟩⟩ := box8d Y3
        obtain ⟨⟨n0, _⟩, ⟨n1, _⟩, ⟨n2, _⟩⟩ := box3 Y5
        exact ⟨h, m0, m1, m2, m3, m4, m5, m6, m7, n0, n1, n2⟩⟩
      refine wp_region_held_drew (S := (fun w' => Below wc1.heap.size wc1 w' ∧ w'.cell? ⟨wa1.heap.size, 0, none⟩ = some (.int .i64 0) ∧ w'.cell? ⟨wa1.heap.size, 1, none⟩ = some (.int .i64 0) ∧ w'.cell? ⟨wa1.heap.size, 2, none⟩ = some (.int .i64 0) ∧ w'.cell? ⟨wa1.heap.size, 3, none⟩ = some (.int .i64 0) ∧ w'.cell? ⟨wa1.heap.size, 4, none⟩ = some (.int .i64 0) ∧ w'.cell? ⟨wa1.heap.size, 5, none⟩ = some (.int .i64 0) ∧ w'.cell? ⟨wa1.heap.size, 6, none⟩ = some (.int .i64 0) ∧ w'.cell? ⟨wa1.heap.size, 7, none⟩ = some (.string ⟨#[]⟩) ∧ w'.cell? ⟨wb0.heap.size, 0, none⟩ = some (.int .i64 0) ∧ w'.cell? ⟨wb0.heap.size, 1, none⟩ = some (.slice A2 0 c2) ∧ w'.cell? ⟨wb0.heap.size, 2, none⟩ = some (.string ⟨#[]⟩))) (by kernel_rfl) ?_ (fun hHeld => ?_)
      · try dsimp only
        (first
          | exact MK.out _ (Below.drew (Below.refl _ _))
          | exact MK.out _ (pw_below_drewN (Below.refl _ _) _)
          | exact MK.out _ SB1.out
          | exact MK.out _ SB2.out
          | exact (by go_split_ands; assumption)
          | fail)
      refine wpAnyH_take (i := 0) (oi := _) (v := _) rfl (by kernel_rfl) (by kernel_rfl) (by kernel_rfl) (fun _ _ _ h => h) (Or.inl ⟨by rfl, by (intro w hSw; (try dsimp only at hSw); go_simp; try with_reducible rfl)⟩) hHeld ?_
      simp only [Act.put, List.getElem_toArray, List.getElem_cons_zero, List.getElem_cons_succ, List.setIfInBounds_toArray, List.set_cons_zero, List.set_cons_succ]
      refine wpAnyH_take (i := 1) (oi := _) (v := _) rfl (by kernel_rfl) (by kernel_rfl) (by kernel_rfl) (fun _ _ _ h => h) (Or.inl ⟨by rfl, by (intro w hSw; (try dsimp only at hSw); go_simp; try with_reducible rfl)⟩) hHeld ?_
      simp only [Act.put, List.getElem_toArray, List.getElem_cons_zero, List.getElem_cons_succ, List.setIfInBounds_toArray, List.set_cons_zero, List.set_cons_succ]
      refine wpAnyH_take (i := 2) (oi := _) (v := _) rfl (by kernel_rfl) (by kernel_rfl) (by kernel_rfl) (fun _ _ _ h => h) (Or.inl ⟨by rfl, by (intro w hSw; (try dsimp only at hSw); go_simp; try with_reducible rfl)⟩) hHeld ?_
      simp only [Act.put, List.getElem_toArray, List.getElem_cons_zero, List.getElem_cons_succ, List.setIfInBounds_toArray, List.set_cons_zero, List.set_cons_succ]
      refine wpAnyH_take (i := 3) (oi := _) (v := _) rfl (by kernel_rfl) (by kernel_rfl) (by kernel_rfl) (fun _ _ _ h => h) (Or.inl ⟨by rfl, by (intro w hSw; (try dsimp only at hSw); go_simp; try with_reducible rfl)⟩) hHeld ?_
      simp only [Act.put, List.getElem_toArray, List.getElem_cons_zero, List.getElem_cons_succ, List.setIfInBounds_toArray, List.set_cons_zero, List.set_cons_succ]
      refine wpAnyH_take (i := 4) (oi := _) (v := _) rfl (by kernel_rfl) (by kernel_rfl) (by kernel_rfl) (fun _ _ _ h => h) (Or.inl ⟨by rfl, by (intro w hSw; (try dsimp only at hSw); go_simp; try with_reducible rfl)⟩) hHeld ?_
      simp only [Act.put, List.getElem_toArray, List.getElem_cons_zero, List.getElem_cons_succ, List.setIfInBounds_toArray, List.set_cons_zero, List.set_cons_succ]
      refine wpAnyH_take (i := 5) (oi := _) (v := _) rfl (by kernel_rfl) (by kernel_rfl) (by kernel_rfl) (fun _ _ _ h => h) (Or.inl ⟨by rfl, by (intro w hSw; (try dsimp only at hSw); go_simp; try with_reducible rfl)⟩) hHeld ?_
      simp only [Act.put, List.getElem_toArray, List.getElem_cons_zero, List.getElem_cons_succ, List.setIfInBounds_toArray, List.set_cons_zero, List.set_cons_succ]
      refine wpAnyH_take (i := 6) (oi := _) (v := _) rfl (by kernel_rfl) (by kernel_rfl) (by kernel_rfl) (fun _ _ _ h => h) (Or.inl ⟨by rfl, by (intro w hSw; (try dsimp only at hSw); go_simp; try with_reducible rfl)⟩) hHeld ?_
      simp only [Act.put, List.getElem_toArray, List.getElem_cons_zero, List.getElem_cons_succ, List.setIfInBounds_toArray, List.set_cons_zero, List.set_cons_succ]
      refine wpAnyH_take (i := 7) (oi := _) (v := undef) rfl (by kernel_rfl) (by kernel_rfl) (by kernel_rfl) (fun _ _ _ h => h) (Or.inr ⟨by rfl, rfl⟩) hHeld ?_
      simp only [Act.put, List.getElem_toArray, List.getElem_cons_zero, List.getElem_cons_succ, List.setIfInBounds_toArray, List.set_cons_zero, List.set_cons_succ]
      refine wpAnyH_take (i := 8) (oi := _) (v := undef) rfl (by kernel_rfl) (by kernel_rfl) (by kernel_rfl) (fun _ _ _ h => h) (Or.inr ⟨by rfl, rfl⟩) hHeld ?_
      simp only [Act.put, List.getElem_toArray, List.getElem_cons_zero, List.getElem_cons_succ, List.setIfInBounds_toArray, List.set_cons_zero, List.set_cons_succ]
      refine wpAnyH_take (i := 9) (oi := _) (v := undef) rfl (by kernel_rfl) (by kernel_rfl) (by kernel_rfl) (fun _ _ _ h => h) (Or.inr ⟨by rfl, rfl⟩) hHeld ?_
      simp only [Act.put, List.getElem_toArray, List.getElem_cons_zero, List.getElem_cons_succ, List.setIfInBounds_toArray, List.set_cons_zero, List.set_cons_succ]
      refine wpAnyH_take (i := 10) (oi := _) (v := undef) rfl (by kernel_rfl) (by kernel_rfl) (by kernel_rfl) (fun _ _ _ h => h) (Or.inr ⟨by rfl, rfl⟩) hHeld ?_
      simp only [Act.put, List.getElem_toArray, List.getElem_cons_zero, List.getElem_cons_succ, List.setIfInBounds_toArray, List.set_cons_zero, List.set_cons_succ]
      refine wpAnyH_take (i := 11) (oi := _) (v := undef) rfl (by kernel_rfl) (by kernel_rfl) (by kernel_rfl) (fun _ _ _ h => h) (Or.inr ⟨by rfl, rfl⟩) hHeld ?_
      simp only [Act.put, List.getElem_toArray, List.getElem_cons_zero, List.getElem_cons_succ, List.setIfInBounds_toArray, List.set_cons_zero, List.set_cons_succ]
      refine wpAnyH_take (i := 12) (oi := _) (v := _) rfl (by kernel_rfl) (by kernel_rfl) (by kernel_rfl) (fun _ _ _ h => h) (Or.inl ⟨by rfl, by (intro w hSw; (try dsimp only at hSw); go_simp; try with_reducible rfl)⟩) hHeld ?_
      simp only [Act.put, List.getElem_toArray, List.getElem_cons_zero, List.getElem_cons_succ, List.setIfInBounds_toArray, List.set_cons_zero, List.set_cons_succ]
      refine wpAnyH_take (i := 13) (oi := _) (v := _) rfl (by kernel_rfl) (by kernel_rfl) (by kernel_rfl) (fun _ _ _ h => h) (Or.inl ⟨by rfl, by (intro w hSw; (try dsimp only at hSw); go_simp; try with_reducible rfl)⟩) hHeld ?_
      simp only [Act.put, List.getElem_toArray, List.getElem_cons_zero, List.getElem_cons_succ, List.setIfInBounds_toArray, List.set_cons_zero, List.set_cons_succ]
      refine wpAnyH_take (i := 14) (oi := _) (v := _) rfl (by kernel_rfl) (by kernel_rfl) (by kernel_rfl) (fun _ _ _ h => h) (Or.inl ⟨by rfl, by (intro w hSw; (try dsimp only at hSw); go_simp; try with_reducible rfl)⟩) hHeld ?_
      simp only [Act.put, List.getElem_toArray, List.getElem_cons_zero, List.getElem_cons_succ, List.setIfInBounds_toArray, List.set_cons_zero, List.set_cons_succ]
      refine wpAnyH_take (i := 15) (oi := _) (v := _) rfl (by kernel_rfl) (by kernel_rfl) (by kernel_rfl) (fun _ _ _ h => h) (Or.inl ⟨by rfl, by (intro w hSw; (try dsimp only at hSw); go_simp; try with_reducible rfl)⟩) hHeld ?_
      simp only [Act.put, List.getElem_toArray, List.getElem_cons_zero, List.getElem_cons_succ, List.setIfInBounds_toArray, List.set_cons_zero, List.set_cons_succ]
      refine wpAnyH_take (i := 16) (oi := _) (v := _) rfl (by kernel_rfl) (by kernel_rfl) (by kernel_rfl) (fun _ _ _ h => h) (Or.inl ⟨by rfl, by (intro w hSw; (try dsimp only at hSw); go_simp; try with_reducible rfl)⟩) hHeld ?_
      simp only [Act.put, List.getElem_toArray, List.getElem_cons_zero, List.getElem_cons_succ, List.setIfInBounds_toArray, List.set_cons_zero, List.set_cons_succ]
      refine wpAnyH_take (i := 17) (oi := _) (v := _) rfl (by kernel_rfl) (by kernel_rfl) (by kernel_rfl) (fun _ _ _ h => h) (Or.inl ⟨by rfl, by (intro w hSw; (try dsimp only at hSw); go_simp; try with_reducible rfl)⟩) hHeld ?_
      simp only [Act.put, List.getElem_toArray, List.getElem_cons_zero, List.getElem_cons_succ, List.setIfInBounds_toArray, List.set_cons_zero, List.set_cons_succ]
      refine wpAnyH_take (i := 18) (oi := _) (v := _) rfl (by kernel_rfl) (by kernel_rfl) (by kernel_rfl) (fun _ _ _ h => h) (Or.inl ⟨by rfl, by (intro w hSw; (try dsimp only at hSw); go_simp; try with_reducible rfl)⟩) hHeld ?_
      simp only [Act.put, List.getElem_toArray, List.getElem_cons_zero, List.getElem_cons_succ, List.setIfInBounds_toArray, List.set_cons_zero, List.set_cons_succ]
      refine wpAnyH_take (i := 19) (oi := _) (v := _) rfl (by kernel_rfl) (by kernel_rfl) (by kernel_rfl) (fun _ _ _ h => h) (Or.inl ⟨by rfl, by (intro w hSw; (try dsimp only at hSw); go_simp; try with_reducible rfl)⟩) hHeld ?_
      simp only [Act.put, List.getElem_toArray, List.getElem_cons_zero, List.getElem_cons_succ, List.setIfInBounds_toArray, List.set_cons_zero, List.set_cons_succ]
      refine wpAnyH_take (i := 20) (oi := _) (v := _) rfl (by kernel_rfl) (by kernel_rfl) (by kernel_rfl) (fun _ _ _ h => h) (Or.inl ⟨by rfl, by (intro w hSw; (try dsimp only at hSw); go_simp; try with_reducible rfl)⟩) hHeld ?_
      simp only [Act.put, List.getElem_toArray, List.getElem_cons_zero, List.getElem_cons_succ, List.setIfInBounds_toArray, List.set_cons_zero, List.set_cons_succ]
      refine wpAnyH_take (i := 21) (oi := _) (v := _) rfl (by kernel_rfl) (by kernel_rfl) (by kernel_rfl) (fun _ _ _ h => h) (Or.inl ⟨by rfl, by (intro w hSw; (try dsimp only at hSw); go_simp; try with_reducible rfl)⟩) hHeld ?_
      simp only [Act.put, List.getElem_toArray, List.getElem_cons_zero, List.getElem_cons_succ, List.setIfInBounds_toArray, List.set_cons_zero, List.set_cons_succ]
      refine wpAnyH_take (i := 22) (oi := _) (v := _) rfl (by kernel_rfl) (by kernel_rfl) (by kernel_rfl) (fun _ _ _ h => h) (Or.inl ⟨by rfl, by (intro w hSw; (try dsimp only at hSw); go_simp; try with_reducible rfl)⟩) hHeld ?_
      simp only [Act.put, List.getElem_toArray, List.getElem_cons_zero, List.getElem_cons_succ, List.setIfInBounds_toArray, List.set_cons_zero, List.set_cons_succ]
      refine wpAnyH_done (by kernel_rfl) ?_ _
      obtain ⟨we1, h5, hw⟩ : ∃ we1, Aside0 (Below wc1.heap.size wc1 we1) ∧ we1 = wc1.drew := ⟨_, ⟨Below.drew (Below.refl _ _)⟩, rfl⟩
      rw [← hw]
      have P5 := Aside0.mk ((h5.out.block wb0.heap.size G5).trans X5.out)
      have G5 : wb0.heap.size < we1.heap.size := Nat.lt_of_lt_of_le G5 h5.out.size
      have BA := Aside0.mk (B3.out.trans (h5.out.mono B3.out.size))
      clear DD HP B1 L2 X3 X5 C3 B3 MK hHeld hw h5 f1 f2
      rcases home_tells l0 W0.out hl0 K K1.out with ⟨x0, xt, hd, hp⟩ | ⟨ee, he, hd, hp⟩
      · have DD := Aside0.mk (recdecode_val l0 W0.out hl0 3 (by omega) (by omega) K K2.out)
        rw [hd] at DD
        have HP := Aside0.mk hp
        clear hd hp
        go_wp2_with fail
        refine (record_DecodeHome.calls K A0 c0 l0 x0 xt 0 we1 (Kd.C_below R0.out BA.out) C0.out HP.out).mono ?_
        rintro e wa2 ⟨rfl, hB⟩
        have B1 := Aside0.mk (BA.out.trans (hB.mono BA.out.size))
        have cv := fun (ob : Obj) c => Kd.C_string (c := c) (P := Tryd.prog) Tryd.underlying36 Tryd.underlying5 Tryd.underlying9 (Kd.C_alloc (Kd.C_below R0.out B1.out) ob)
        have P5 := Aside0.mk ((hB.block wb0.heap.size G5).trans P5.out)
        have G5 : wb0.heap.size < wa2.heap.size := Nat.lt_of_lt_of_le G5 hB.size
        clear hB
        go_wp2_with fail
        refine (cisternref07_DocDecode.calls K (strOfNums l0) 3 3 [x0] xt 0 _ DD.out).mono ?_
        rintro e wb2 ⟨v, rfl, hR, hB⟩
        have B2 := Aside0.mk (B1.out.trans ((below_alloc (Below.refl _ _) _).trans (hB.mono (by simp)) |>.mono B1.out.size))
        have X1 := Aside0.mk ((hB.block wa2.heap.size (by simp)).trans (heap_alloc_new wa2 (.cells #[.int .i64 x0, .string xt] 27)))
        have Z1 : wa2.heap.size < wb2.heap.size := by have := hB.size; simp at this; omega
        have P5 := Aside0.mk ((hB.block wb0.heap.size (by simp; omega)).trans (((below_alloc (Below.refl wa2.heap.size wa2) (.cells #[.int .i64 x0, .string xt] 27)).block wb0.heap.size G5).trans P5.out))
        have R2 := Kd.R_lower (base' := wb0.heap.size + 1) hR (by simp; omega)
        obtain ⟨A2, c2, rfl⟩ := Kd.R_slice R2
        have L2 := Aside0.mk (Kd.R_reads' R2).2.1
        have C2 := fun v0 v1 v2 => kept3 (v0 := v0) (v1 := v1) (v2 := v2) R2
        have G5b : wb0.heap.size < wb2.heap.size := by have := hB.size; simp at this; omega
        obtain ⟨⟨t0, u0⟩, ⟨t1, u1⟩, ⟨t2, u2⟩⟩ := box3 P5.out
        clear hR hB cv R2
        go_wp2_with fail
        have X5 := Aside0.mk (put3 (v0 := .int .i64 3) (v1 := .slice A2 ([x0] : List Int).length c2) (v2 := .string xt) P5.out)
        have X3 := Aside0.mk ((other3 (W := wb2) (g := wb0.heap.size) (v0 := .int .i64 3) (v1 := .slice A2 ([x0] : List Int).length c2) (v2 := .string xt) (k := wa2.heap.size) (by omega)).trans X1.out)
        have C3 := Aside0.mk (C2 (.int .i64 3) (.slice A2 ([x0] : List Int).length c2) (.string xt))
        have B3 := Aside0.mk (below3 (v0 := .int .i64 3) (v1 := .slice A2 ([x0] : List Int).length c2) (v2 := .string xt) GW.out B2.out)
        have G5 : wb0.heap.size < ((((wb2.setCell ⟨wb0.heap.size, 0, none⟩ (.int .i64 3)).setCell ⟨wb0.heap.size, 1, none⟩ (.slice A2 ([x0] : List Int).length c2)).setCell ⟨wb0.heap.size, 2, none⟩ (.string xt))).heap.size := by simpa [World.setCell] using G5b
        simp only [List.length_cons, List.length_nil, Nat.zero_add, Nat.reduceAdd] at X5 X3 C3 B3 G5
        clear C2 t0 u0 t1 u1 t2 u2
        generalize hw : (((wb2.setCell ⟨wb0.heap.size, 0, none⟩ (.int .i64 3)).setCell ⟨wb0.heap.size, 1, none⟩ (.slice A2 1 c2)).setCell ⟨wb0.heap.size, 2, none⟩ (.string xt)) = wc2 at X5 X3 C3 B3 G5 ⊢
        clear hw X1 B2 G5b Z1
        have MK : Aside0 (∀ w', Below wc2.heap.size wc2 w' → (Below wc2.heap.size wc2 w' ∧ w'.cell? ⟨wa2.heap.size, 0, none⟩ = some (.int .i64 x0) ∧ w'.cell? ⟨wa2.heap.size, 1, none⟩ = some (.string xt) ∧ w'.cell? ⟨wb0.heap.size, 0, none⟩ = some (.int .i64 3) ∧ w'.cell? ⟨wb0.heap.size, 1, none⟩ = some (.slice A2 1 c2) ∧ w'.cell? ⟨wb0.heap.size, 2, none⟩ = some (.string xt))) := ⟨fun w' h => by
          have Y3 := (h.block wa2.heap.size (Array.getElem?_eq_some_iff.1 X3.out).1).trans X3.out
          have Y5 := (h.block wb0.heap.size (Array.getElem?_eq_some_iff.1 X5.out).1).trans X5.out
          obtain ⟨⟨m0, _⟩, ⟨m1, _⟩⟩ := box2 Y3
          obtain ⟨⟨n0, _⟩, ⟨n1, _⟩, ⟨n2, _⟩⟩ := box3 Y5
          exact ⟨h, m0, m1, n0, n1, n2⟩⟩
        refine wp_region_held_drew (S := (fun w' => Below wc2.heap.size wc2 w' ∧ w'.cell? ⟨wa2.heap.size, 0, none⟩ = some (.int .i64 x0) ∧ w'.cell? ⟨wa2.heap.size, 1, none⟩ = some (.string xt) ∧ w'.cell? ⟨wb0.heap.size, 0, none⟩ = some (.int .i64 3) ∧ w'.cell? ⟨wb0.heap.size, 1, none⟩ = some (.slice A2 1 c2) ∧ w'.cell? ⟨wb0.heap.size, 2, none⟩ = some (.string xt))) (by kernel_rfl) ?_ (fun hHeld => ?_)
        · try dsimp only
          (first
            | exact MK.out _ (Below.drew (Below.refl _ _))
            | exact MK.out _ (pw_below_drewN (Below.refl _ _) _)
            | exact MK.out _ SB1.out
            | exact MK.out _ SB2.out
            | exact (by go_split_ands; assumption)
            | fail)
        refine wpAnyH_take (i := 0) (oi := _) (v := _) rfl (by kernel_rfl) (by kernel_rfl) (by kernel_rfl) (fun _ _ _ h => h) (Or.inl ⟨by rfl, by (intro w hSw; (try dsimp only at hSw); go_simp; try with_reducible rfl)⟩) hHeld ?_
        simp only [Act.put, List.getElem_toArray, List.getElem_cons_zero, List.getElem_cons_succ, List.setIfInBounds_toArray, List.set_cons_zero, List.set_cons_succ]
        refine wpAnyH_take (i := 1) (oi := _) (v := _) rfl (by kernel_rfl) (by kernel_rfl) (by kernel_rfl) (fun _ _ _ h => h) (Or.inl ⟨by rfl, by (intro w hSw; (try dsimp only at hSw); go_simp; try with_reducible rfl)⟩) hHeld ?_
        simp only [Act.put, List.getElem_toArray, List.getElem_cons_zero, List.getElem_cons_succ, List.setIfInBounds_toArray, List.set_cons_zero, List.set_cons_succ]
        refine wpAnyH_take (i := 2) (oi := _) (v := _) rfl (by kernel_rfl) (by kernel_rfl) (by kernel_rfl) (fun _ _ _ h => h) (Or.inl ⟨by rfl, by (intro w hSw; (try dsimp only at hSw); go_simp; try with_reducible rfl)⟩) hHeld ?_
        simp only [Act.put, List.getElem_toArray, List.getElem_cons_zero, List.getElem_cons_succ, List.setIfInBounds_toArray, List.set_cons_zero, List.set_cons_succ]
        refine wpAnyH_take (i := 3) (oi := _) (v := _) rfl (by kernel_rfl) (by kernel_rfl) (by kernel_rfl) (fun _ _ _ h => h) (Or.inl ⟨by rfl, by (intro w hSw; (try dsimp only at hSw); go_simp; try with_reducible rfl)⟩) hHeld ?_
        simp only [Act.put, List.getElem_toArray, List.getElem_cons_zero, List.getElem_cons_succ, List.setIfInBounds_toArray, List.set_cons_zero, List.set_cons_succ]
        refine wpAnyH_take (i := 4) (oi := _) (v := _) rfl (by kernel_rfl) (by kernel_rfl) (by kernel_rfl) (fun _ _ _ h => h) (Or.inl ⟨by rfl, by (intro w hSw; (try dsimp only at hSw); go_simp; try with_reducible rfl)⟩) hHeld ?_
        simp only [Act.put, List.getElem_toArray, List.getElem_cons_zero, List.getElem_cons_succ, List.setIfInBounds_toArray, List.set_cons_zero, List.set_cons_succ]
        refine wpAnyH_take (i := 5) (oi := _) (v := _) rfl (by kernel_rfl) (by kernel_rfl) (by kernel_rfl) (fun _ _ _ h => h) (Or.inl ⟨by rfl, by (intro w hSw; (try dsimp only at hSw); go_simp; try with_reducible rfl)⟩) hHeld ?_
        simp only [Act.put, List.getElem_toArray, List.getElem_cons_zero, List.getElem_cons_succ, List.setIfInBounds_toArray, List.set_cons_zero, List.set_cons_succ]
        refine wpAnyH_take (i := 6) (oi := _) (v := _) rfl (by kernel_rfl) (by kernel_rfl) (by kernel_rfl) (fun _ _ _ h => h) (Or.inl ⟨by rfl, by (intro w hSw; (try dsimp only at hSw); go_simp; try with_reducible rfl)⟩) hHeld ?_
        simp only [Act.put, List.getElem_toArray, List.getElem_cons_zero, List.getElem_cons_succ, List.setIfInBounds_toArray, List.set_cons_zero, List.set_cons_succ]
        refine wpAnyH_take (i := 7) (oi := _) (v := _) rfl (by kernel_rfl) (by kernel_rfl) (by kernel_rfl) (fun _ _ _ h => h) (Or.inl ⟨by rfl, by (intro w hSw; (try dsimp only at hSw); go_simp; try with_reducible rfl)⟩) hHeld ?_
        simp only [Act.put, List.getElem_toArray, List.getElem_cons_zero, List.getElem_cons_succ, List.setIfInBounds_toArray, List.set_cons_zero, List.set_cons_succ]
        refine wpAnyH_take (i := 9) (oi := _) (v := _) rfl (by kernel_rfl) (by kernel_rfl) (by kernel_rfl) (fun _ _ _ h => h) (Or.inl ⟨by rfl, by (intro w hSw; (try dsimp only at hSw); go_simp; try with_reducible rfl)⟩) hHeld ?_
        simp only [Act.put, List.getElem_toArray, List.getElem_cons_zero, List.getElem_cons_succ, List.setIfInBounds_toArray, List.set_cons_zero, List.set_cons_succ]
        refine wpAnyH_ready (rs := [8]) (by kernel_rfl) (by simp) ?_
        refine AllReadyH.cons rfl (fun K hK => ?_) AllReadyH.nil
        go_simp
        go_wp2_with (refine (cisternlaw07_homeRec.calls x0 xt _ _ _ _ rfl).mono ?_; rintro e w4 ⟨v, rfl, hR, hB⟩; obtain ⟨A4, c4, rfl, h4, hC4⟩ := Kd.R_reads hR; have SB1 : Aside0 (Below wc2.heap.size wc2 w4) := ⟨by go_split_ands; exact Below.trans (by assumption) (hB.mono (Below.size (by assumption)))⟩; have C4 := Aside0.mk hC4; have L4 := Aside0.mk h4; clear hR hB hC4 h4)
        refine hK.out _ _ ?_ (fun hNew => ?_)
        · try dsimp only
          (first
            | exact MK.out _ (Below.drew (Below.refl _ _))
            | exact MK.out _ (pw_below_drewN (Below.refl _ _) _)
            | exact MK.out _ SB1.out
            | exact MK.out _ SB2.out
            | exact (by go_split_ands; assumption)
            | fail)
        clear hK K hHeld
        have hHeld := hNew
        clear hNew
        refine wpAnyH_ready (rs := [10]) (by kernel_rfl) (by simp) ?_
        refine AllReadyH.cons rfl (fun K hK => ?_) AllReadyH.nil
        go_simp
        go_wp2_with (refine (cisternlaw07_same.calls 50 3 A4 c4 [x0] xt 3 A2 c2 [x0] xt true _ C4.out L4.out (Kd.C_below C3.out (by go_split_ands; assumption)) L2.out (recsame_val 3 [x0] xt (by simp) 50 (by simp))).mono ?_; rintro e w5 ⟨rfl, hB⟩; have SB2 : Aside0 (Below wc2.heap.size wc2 w5) := ⟨by go_split_ands; exact Below.trans (by assumption) (hB.mono (Below.size (by assumption)))⟩; clear hB)
        refine hK.out _ _ ?_ (fun hNew => ?_)
        · try dsimp only
          (first
            | exact MK.out _ (Below.drew (Below.refl _ _))
            | exact MK.out _ (pw_below_drewN (Below.refl _ _) _)
            | exact MK.out _ SB1.out
            | exact MK.out _ SB2.out
            | exact (by go_split_ands; assumption)
            | fail)
        clear hK K hHeld
        have hHeld := hNew
        clear hNew
        refine wpAnyH_take (i := 11) (oi := _) (v := _) rfl (by kernel_rfl) (by kernel_rfl) (by kernel_rfl) (fun _ _ _ h => h) (Or.inl ⟨by rfl, by (intro w hSw; (try dsimp only at hSw); go_simp; try with_reducible rfl)⟩) hHeld ?_
        simp only [Act.put, List.getElem_toArray, List.getElem_cons_zero, List.getElem_cons_succ, List.setIfInBounds_toArray, List.set_cons_zero, List.set_cons_succ]
        refine wpAnyH_take (i := 12) (oi := _) (v := _) rfl (by kernel_rfl) (by kernel_rfl) (by kernel_rfl) (fun _ _ _ h => h) (Or.inl ⟨by rfl, by (intro w hSw; (try dsimp only at hSw); go_simp; try with_reducible rfl)⟩) hHeld ?_
        simp only [Act.put, List.getElem_toArray, List.getElem_cons_zero, List.getElem_cons_succ, List.setIfInBounds_toArray, List.set_cons_zero, List.set_cons_succ]
        refine wpAnyH_take (i := 13) (oi := _) (v := _) rfl (by kernel_rfl) (by kernel_rfl) (by kernel_rfl) (fun _ _ _ h => h) (Or.inl ⟨by rfl, by (intro w hSw; (try dsimp only at hSw); go_simp; try with_reducible rfl)⟩) hHeld ?_
        simp only [Act.put, List.getElem_toArray, List.getElem_cons_zero, List.getElem_cons_succ, List.setIfInBounds_toArray, List.set_cons_zero, List.set_cons_succ]
        refine wpAnyH_take (i := 14) (oi := _) (v := _) rfl (by kernel_rfl) (by kernel_rfl) (by kernel_rfl) (fun _ _ _ h => h) (Or.inl ⟨by rfl, by (intro w hSw; (try dsimp only at hSw); go_simp; try with_reducible rfl)⟩) hHeld ?_
        simp only [Act.put, List.getElem_toArray, List.getElem_cons_zero, List.getElem_cons_succ, List.setIfInBounds_toArray, List.set_cons_zero, List.set_cons_succ]
        refine wpAnyH_take (i := 15) (oi := _) (v := _) rfl (by kernel_rfl) (by kernel_rfl) (by kernel_rfl) (fun _ _ _ h => h) (Or.inl ⟨by rfl, by (intro w hSw; (try dsimp only at hSw); go_simp; try with_reducible rfl)⟩) hHeld ?_
        simp only [Act.put, List.getElem_toArray, List.getElem_cons_zero, List.getElem_cons_succ, List.setIfInBounds_toArray, List.set_cons_zero, List.set_cons_succ]
        refine wpAnyH_take (i := 16) (oi := _) (v := _) rfl (by kernel_rfl) (by kernel_rfl) (by kernel_rfl) (fun _ _ _ h => h) (Or.inl ⟨by rfl, by (intro w hSw; (try dsimp only at hSw); go_simp; try with_reducible rfl)⟩) hHeld ?_
        simp only [Act.put, List.getElem_toArray, List.getElem_cons_zero, List.getElem_cons_succ, List.setIfInBounds_toArray, List.set_cons_zero, List.set_cons_succ]
        refine wpAnyH_take (i := 17) (oi := _) (v := undef) rfl (by kernel_rfl) (by kernel_rfl) (by kernel_rfl) (fun _ _ _ h => h) (Or.inr ⟨by rfl, rfl⟩) hHeld ?_
        simp only [Act.put, List.getElem_toArray, List.getElem_cons_zero, List.getElem_cons_succ, List.setIfInBounds_toArray, List.set_cons_zero, List.set_cons_succ]
        refine wpAnyH_take (i := 18) (oi := _) (v := undef) rfl (by kernel_rfl) (by kernel_rfl) (by kernel_rfl) (fun _ _ _ h => h) (Or.inr ⟨by rfl, rfl⟩) hHeld ?_
        simp only [Act.put, List.getElem_toArray, List.getElem_cons_zero, List.getElem_cons_succ, List.setIfInBounds_toArray, List.set_cons_zero, List.set_cons_succ]
        refine wpAnyH_take (i := 19) (oi := _) (v := undef) rfl (by kernel_rfl) (by kernel_rfl) (by kernel_rfl) (fun _ _ _ h => h) (Or.inr ⟨by rfl, rfl⟩) hHeld ?_
        simp only [Act.put, List.getElem_toArray, List.getElem_cons_zero, List.getElem_cons_succ, List.setIfInBounds_toArray, List.set_cons_zero, List.set_cons_succ]
        refine wpAnyH_take (i := 20) (oi := _) (v := _) rfl (by kernel_rfl) (by kernel_rfl) (by kernel_rfl) (fun _ _ _ h => h) (Or.inl ⟨by rfl, by (intro w hSw; (try dsimp only at hSw); go_simp; try with_reducible rfl)⟩) hHeld ?_
        simp only [Act.put, List.getElem_toArray, List.getElem_cons_zero, List.getElem_cons_succ, List.setIfInBounds_toArray, List.set_cons_zero, List.set_cons_succ]
        refine wpAnyH_take (i := 21) (oi := _) (v := _) rfl (by kernel_rfl) (by kernel_rfl) (by kernel_rfl) (fun _ _ _ h => h) (Or.inl ⟨by rfl, by (intro w hSw; (try dsimp only at hSw); go_simp; try with_reducible rfl)⟩) hHeld ?_
        simp only [Act.put, List.getElem_toArray, List.getElem_cons_zero, List.getElem_cons_succ, List.setIfInBounds_toArray, List.set_cons_zero, List.set_cons_succ]
        refine wpAnyH_take (i := 22) (oi := _) (v := _) rfl (by kernel_rfl) (by kernel_rfl) (by kernel_rfl) (fun _ _ _ h => h) (Or.inl ⟨by rfl, by (intro w hSw; (try dsimp only at hSw); go_simp; try with_reducible rfl)⟩) hHeld ?_
        simp only [Act.put, List.getElem_toArray, List.getElem_cons_zero, List.getElem_cons_succ, List.setIfInBounds_toArray, List.set_cons_zero, List.set_cons_succ]
        refine wpAnyH_done (by kernel_rfl) ?_ _
        obtain ⟨we2, h5, hw⟩ : ∃ we2, Aside0 (Below wc2.heap.size wc2 we2) ∧ we2 = w5 := ⟨_, SB2, rfl⟩
        rw [← hw]
        have P5 := Aside0.mk ((h5.out.block wb0.heap.size G5).trans X5.out)
        have G5 : wb0.heap.size < we2.heap.size := Nat.lt_of_lt_of_le G5 h5.out.size
        have BA := Aside0.mk (B3.out.trans (h5.out.mono B3.out.size))
        clear DD HP B1 L2 X3 X5 C3 B3 MK hHeld hw h5 C4 L4 SB1 SB2
        go_wp2_with fail
        go_ret
        exact ⟨rfl, BA.out⟩
      · have DD := Aside0.mk (recdecode_val l0 W0.out hl0 3 (by omega) (by omega) K K2.out)
        rw [hd] at DD
        have HP := Aside0.mk hp
        clear hd hp
        have f1 : (ee == 0) = false := beq_eq_false_iff_ne.2 he
        have f2 : (ee != 0) = true := bne_iff_ne.2 he
        clear he
        go_wp2_with fail
        refine (record_DecodeHome.calls K A0 c0 l0 0 ⟨#[]⟩ ee we1 (Kd.C_below R0.out BA.out) C0.out HP.out).mono ?_
        rintro e wa2 ⟨rfl, hB⟩
        have B1 := Aside0.mk (BA.out.trans (hB.mono BA.out.size))
        have cv := fun (ob : Obj) c => Kd.C_string (c := c) (P := Tryd.prog) Tryd.underlying36 Tryd.underlying5 Tryd.underlying9 (Kd.C_alloc (Kd.C_below R0.out B1.out) ob)
        have P5 := Aside0.mk ((hB.block wb0.heap.size G5).trans P5.out)
        have G5 : wb0.heap.size < wa2.heap.size := Nat.lt_of_lt_of_le G5 hB.size
        clear hB
        go_wp2_with fail
        refine (cisternref07_DocDecode.calls K (strOfNums l0) 3 0 ([] : List Int) ⟨#[]⟩ ee _ DD.out).mono ?_
        rintro e wb2 ⟨v, rfl, hR, hB⟩
        have B2 := Aside0.mk (B1.out.trans ((below_alloc (Below.refl _ _) _).trans (hB.mono (by simp)) |>.mono B1.out.size))
        have X1 := Aside0.mk ((hB.block wa2.heap.size (by simp)).trans (heap_alloc_new wa2 (.cells #[.int .i64 0, .string ⟨#[]⟩] 27)))
        have Z1 : wa2.heap.size < wb2.heap.size := by have := hB.size; simp at this; omega
        have P5 := Aside0.mk ((hB.block wb0.heap.size (by simp; omega)).trans (((below_alloc (Below.refl wa2.heap.size wa2) (.cells #[.int .i64 0, .string ⟨#[]⟩] 27)).block wb0.heap.size G5).trans P5.out))
        have R2 := Kd.R_lower (base' := wb0.heap.size + 1) hR (by simp; omega)
        obtain ⟨A2, c2, rfl⟩ := Kd.R_slice R2
        have L2 := Aside0.mk (Kd.R_reads' R2).2.1
        have C2 := fun v0 v1 v2 => kept3 (v0 := v0) (v1 := v1) (v2 := v2) R2
        have G5b : wb0.heap.size < wb2.heap.size := by have := hB.size; simp at this; omega
        obtain ⟨⟨t0, u0⟩, ⟨t1, u1⟩, ⟨t2, u2⟩⟩ := box3 P5.out
        clear hR hB cv R2
        go_wp2_with fail
        have X5 := Aside0.mk (put3 (v0 := .int .i64 0) (v1 := .slice A2 (([] : List Int) : List Int).length c2) (v2 := .string ⟨#[]⟩) P5.out)
        have X3 := Aside0.mk ((other3 (W := wb2) (g := wb0.heap.size) (v0 := .int .i64 0) (v1 := .slice A2 (([] : List Int) : List Int).length c2) (v2 := .string ⟨#[]⟩) (k := wa2.heap.size) (by omega)).trans X1.out)
        have C3 := Aside0.mk (C2 (.int .i64 0) (.slice A2 (([] : List Int) : List Int).length c2) (.string ⟨#[]⟩))
        have B3 := Aside0.mk (below3 (v0 := .int .i64 0) (v1 := .slice A2 (([] : List Int) : List Int).length c2) (v2 := .string ⟨#[]⟩) GW.out B2.out)
        have G5 : wb0.heap.size < ((((wb2.setCell ⟨wb0.heap.size, 0, none⟩ (.int .i64 0)).setCell ⟨wb0.heap.size, 1, none⟩ (.slice A2 (([] : List Int) : List Int).length c2)).setCell ⟨wb0.heap.size, 2, none⟩ (.string ⟨#[]⟩))).heap.size := by simpa [World.setCell] using G5b
        simp only [List.length_cons, List.length_nil, Nat.zero_add, Nat.reduceAdd] at X5 X3 C3 B3 G5
        clear C2 t0 u0 t1 u1 t2 u2
        generalize hw : (((wb2.setCell ⟨wb0.heap.size, 0, none⟩ (.int .i64 0)).setCell ⟨wb0.heap.size, 1, none⟩ (.slice A2 0 c2)).setCell ⟨wb0.heap.size, 2, none⟩ (.string ⟨#[]⟩)) = wc2 at X5 X3 C3 B3 G5 ⊢
        clear hw X1 B2 G5b Z1
        have MK : Aside0 (∀ w', Below wc2.heap.size wc2 w' → (Below wc2.heap.size wc2 w' ∧ w'.cell? ⟨wa2.heap.size, 0, none⟩ = some (.int .i64 0) ∧ w'.cell? ⟨wa2.heap.size, 1, none⟩ = some (.string ⟨#[]⟩) ∧ w'.cell? ⟨wb0.heap.size, 0, none⟩ = some (.int .i64 0) ∧ w'.cell? ⟨wb0.heap.size, 1, none⟩ = some (.slice A2 0 c2) ∧ w'.cell? ⟨wb0.heap.size, 2, none⟩ = some (.string ⟨#[]⟩))) := ⟨fun w' h => by
          have Y3 := (h.block wa2.heap.size (Array.getElem?_eq_some_iff.1 X3.out).1).trans X3.out
          have Y5 := (h.block wb0.heap.size (Array.getElem?_eq_some_iff.1 X5.out).1).trans X5.out
          obtain ⟨⟨m0, _⟩, ⟨m1, _⟩⟩ := box2 Y3
          obtain ⟨⟨n0, _⟩, ⟨n1, _⟩, ⟨n2, _⟩⟩ := box3 Y5
          exact ⟨h, m0, m1, n0, n1, n2⟩⟩
        refine wp_region_held_drew (S := (fun w' => Below wc2.heap.size wc2 w' ∧ w'.cell? ⟨wa2.heap.size, 0, none⟩ = some (.int .i64 0) ∧ w'.cell? ⟨wa2.heap.size, 1, none⟩ = some (.string ⟨#[]⟩) ∧ w'.cell? ⟨wb0.heap.size, 0, none⟩ = some (.int .i64 0) ∧ w'.cell? ⟨wb0.heap.size, 1, none⟩ = some (.slice A2 0 c2) ∧ w'.cell? ⟨wb0.heap.size, 2, none⟩ = some (.string ⟨#[]⟩))) (by kernel_rfl) ?_ (fun hHeld => ?_)
        · try dsimp only
          (first
            | exact MK.out _ (Below.drew (Below.refl _ _))
            | exact MK.out _ (pw_below_drewN (Below.refl _ _) _)
            | exact MK.out _ SB1.out
            | exact MK.out _ SB2.out
            | exact (by go_split_ands; assumption)
            | fail)
        refine wpAnyH_take (i := 0) (oi := _) (v := _) rfl (by kernel_rfl) (by kernel_rfl) (by kernel_rfl) (fun _ _ _ h => h) (Or.inl ⟨by rfl, by (intro w hSw; (try dsimp only at hSw); go_simp; try with_reducible rfl)⟩) hHeld ?_
        simp only [Act.put, List.getElem_toArray, List.getElem_cons_zero, List.getElem_cons_succ, List.setIfInBounds_toArray, List.set_cons_zero, List.set_cons_succ]
        refine wpAnyH_take (i := 1) (oi := _) (v := _) rfl (by kernel_rfl) (by kernel_rfl) (by kernel_rfl) (fun _ _ _ h => h) (Or.inl ⟨by rfl, by (intro w hSw; (try dsimp only at hSw); go_simp; try with_reducible rfl)⟩) hHeld ?_
        simp only [Act.put, List.getElem_toArray, List.getElem_cons_zero, List.getElem_cons_succ, List.setIfInBounds_toArray, List.set_cons_zero, List.set_cons_succ]
        refine wpAnyH_take (i := 2) (oi := _) (v := _) rfl (by kernel_rfl) (by kernel_rfl) (by kernel_rfl) (fun _ _ _ h => h) (Or.inl ⟨by rfl, by (intro w hSw; (try dsimp only at hSw); go_simp; try with_reducible rfl)⟩) hHeld ?_
        simp only [Act.put, List.getElem_toArray, List.getElem_cons_zero, List.getElem_cons_succ, List.setIfInBounds_toArray, List.set_cons_zero, List.set_cons_succ]
        refine wpAnyH_take (i := 3) (oi := _) (v := _) rfl (by kernel_rfl) (by kernel_rfl) (by kernel_rfl) (fun _ _ _ h => h) (Or.inl ⟨by rfl, by (intro w hSw; (try dsimp only at hSw); go_simp; try with_reducible rfl)⟩) hHeld ?_
        simp only [Act.put, List.getElem_toArray, List.getElem_cons_zero, List.getElem_cons_succ, List.setIfInBounds_toArray, List.set_cons_zero, List.set_cons_succ]
        refine wpAnyH_take (i := 4) (oi := _) (v := _) rfl (by kernel_rfl) (by kernel_rfl) (by kernel_rfl) (fun _ _ _ h => h) (Or.inl ⟨by rfl, by (intro w hSw; (try dsimp only at hSw); go_simp; try with_reducible rfl)⟩) hHeld ?_
        simp only [Act.put, List.getElem_toArray, List.getElem_cons_zero, List.getElem_cons_succ, List.setIfInBounds_toArray, List.set_cons_zero, List.set_cons_succ]
        refine wpAnyH_take (i := 5) (oi := _) (v := _) rfl (by kernel_rfl) (by kernel_rfl) (by kernel_rfl) (fun _ _ _ h => h) (Or.inl ⟨by rfl, by (intro w hSw; (try dsimp only at hSw); go_simp; try with_reducible rfl)⟩) hHeld ?_
        simp only [Act.put, List.getElem_toArray, List.getElem_cons_zero, List.getElem_cons_succ, List.setIfInBounds_toArray, List.set_cons_zero, List.set_cons_succ]
        refine wpAnyH_take (i := 6) (oi := _) (v := _) rfl (by kernel_rfl) (by kernel_rfl) (by kernel_rfl) (fun _ _ _ h => h) (Or.inl ⟨by rfl, by (intro w hSw; (try dsimp only at hSw); go_simp; try with_reducible rfl)⟩) hHeld ?_
        simp only [Act.put, List.getElem_toArray, List.getElem_cons_zero, List.getElem_cons_succ, List.setIfInBounds_toArray, List.set_cons_zero, List.set_cons_succ]
        refine wpAnyH_take (i := 7) (oi := _) (v := undef) rfl (by kernel_rfl) (by kernel_rfl) (by kernel_rfl) (fun _ _ _ h => h) (Or.inr ⟨by rfl, rfl⟩) hHeld ?_
        simp only [Act.put, List.getElem_toArray, List.getElem_cons_zero, List.getElem_cons_succ, List.setIfInBounds_toArray, List.set_cons_zero, List.set_cons_succ]
        refine wpAnyH_take (i := 8) (oi := _) (v := undef) rfl (by kernel_rfl) (by kernel_rfl) (by kernel_rfl) (fun _ _ _ h => h) (Or.inr ⟨by rfl, rfl⟩) hHeld ?_
        simp only [Act.put, List.getElem_toArray, List.getElem_cons_zero, List.getElem_cons_succ, List.setIfInBounds_toArray, List.set_cons_zero, List.set_cons_succ]
        refine wpAnyH_take (i := 9) (oi := _) (v := undef) rfl (by kernel_rfl) (by kernel_rfl) (by kernel_rfl) (fun _ _ _ h => h) (Or.inr ⟨by rfl, rfl⟩) hHeld ?_
        simp only [Act.put, List.getElem_toArray, List.getElem_cons_zero, List.getElem_cons_succ, List.setIfInBounds_toArray, List.set_cons_zero, List.set_cons_succ]
        refine wpAnyH_take (i := 10) (oi := _) (v := undef) rfl (by kernel_rfl) (by kernel_rfl) (by kernel_rfl) (fun _ _ _ h => h) (Or.inr ⟨by rfl, rfl⟩) hHeld ?_
        simp only [Act.put, List.getElem_toArray, List.getElem_cons_zero, List.getElem_cons_succ, List.setIfInBounds_toArray, List.set_cons_zero, List.set_cons_succ]
        refine wpAnyH_take (i := 11) (oi := _) (v := _) rfl (by kernel_rfl) (by kernel_rfl) (by kernel_rfl) (fun _ _ _ h => h) (Or.inl ⟨by rfl, by (intro w hSw; (try dsimp only at hSw); go_simp; try with_reducible rfl)⟩) hHeld ?_
        simp only [Act.put, List.getElem_toArray, List.getElem_cons_zero, List.getElem_cons_succ, List.setIfInBounds_toArray, List.set_cons_zero, List.set_cons_succ]
        refine wpAnyH_take (i := 12) (oi := _) (v := _) rfl (by kernel_rfl) (by kernel_rfl) (by kernel_rfl) (fun _ _ _ h => h) (Or.inl ⟨by rfl, by (intro w hSw; (try dsimp only at hSw); go_simp; try with_reducible rfl)⟩) hHeld ?_
        simp only [Act.put, List.getElem_toArray, List.getElem_cons_zero, List.getElem_cons_succ, List.setIfInBounds_toArray, List.set_cons_zero, List.set_cons_succ]
        refine wpAnyH_take (i := 13) (oi := _) (v := _) rfl (by kernel_rfl) (by kernel_rfl) (by kernel_rfl) (fun _ _ _ h => h) (Or.inl ⟨by rfl, by (intro w hSw; (try dsimp only at hSw); go_simp; try with_reducible rfl)⟩) hHeld ?_
        simp only [Act.put, List.getElem_toArray, List.getElem_cons_zero, List.getElem_cons_succ, List.setIfInBounds_toArray, List.set_cons_zero, List.set_cons_succ]
        refine wpAnyH_take (i := 14) (oi := _) (v := _) rfl (by kernel_rfl) (by kernel_rfl) (by kernel_rfl) (fun _ _ _ h => h) (Or.inl ⟨by rfl, by (intro w hSw; (try dsimp only at hSw); go_simp; try with_reducible rfl)⟩) hHeld ?_
        simp only [Act.put, List.getElem_toArray, List.getElem_cons_zero, List.getElem_cons_succ, List.setIfInBounds_toArray, List.set_cons_zero, List.set_cons_succ]
        refine wpAnyH_take (i := 15) (oi := _) (v := _) rfl (by kernel_rfl) (by kernel_rfl) (by kernel_rfl) (fun _ _ _ h => h) (Or.inl ⟨by rfl, by (intro w hSw; (try dsimp only at hSw); go_simp; try with_reducible rfl)⟩) hHeld ?_
        simp only [Act.put, List.getElem_toArray, List.getElem_cons_zero, List.getElem_cons_succ, List.setIfInBounds_toArray, List.set_cons_zero, List.set_cons_succ]
        refine wpAnyH_take (i := 16) (oi := _) (v := _) rfl (by kernel_rfl) (by kernel_rfl) (by kernel_rfl) (fun _ _ _ h => h) (Or.inl ⟨by rfl, by (intro w hSw; (try dsimp only at hSw); go_simp; try with_reducible rfl)⟩) hHeld ?_
        simp only [Act.put, List.getElem_toArray, List.getElem_cons_zero, List.getElem_cons_succ, List.setIfInBounds_toArray, List.set_cons_zero, List.set_cons_succ]
        refine wpAnyH_take (i := 17) (oi := _) (v := _) rfl (by kernel_rfl) (by kernel_rfl) (by kernel_rfl) (fun _ _ _ h => h) (Or.inl ⟨by rfl, by (intro w hSw; (try dsimp only at hSw); go_simp; try with_reducible rfl)⟩) hHeld ?_
        simp only [Act.put, List.getElem_toArray, List.getElem_cons_zero, List.getElem_cons_succ, List.setIfInBounds_toArray, List.set_cons_zero, List.set_cons_succ]
        refine wpAnyH_take (i := 18) (oi := _) (v := _) rfl (by kernel_rfl) (by kernel_rfl) (by kernel_rfl) (fun _ _ _ h => h) (Or.inl ⟨by rfl, by (intro w hSw; (try dsimp only at hSw); go_simp; try with_reducible rfl)⟩) hHeld ?_
        simp only [Act.put, List.getElem_toArray, List.getElem_cons_zero, List.getElem_cons_succ, List.setIfInBounds_toArray, List.set_cons_zero, List.set_cons_succ]
        refine wpAnyH_take (i := 19) (oi := _) (v := _) rfl (by kernel_rfl) (by kernel_rfl) (by kernel_rfl) (fun _ _ _ h => h) (Or.inl ⟨by rfl, by (intro w hSw; (try dsimp only at hSw); go_simp; try with_reducible rfl)⟩) hHeld ?_
        simp only [Act.put, List.getElem_toArray, List.getElem_cons_zero, List.getElem_cons_succ, List.setIfInBounds_toArray, List.set_cons_zero, List.set_cons_succ]
        refine wpAnyH_take (i := 20) (oi := _) (v := _) rfl (by kernel_rfl) (by kernel_rfl) (by kernel_rfl) (fun _ _ _ h => h) (Or.inl ⟨by rfl, by (intro w hSw; (try dsimp only at hSw); go_simp; try with_reducible rfl)⟩) hHeld ?_
        simp only [Act.put, List.getElem_toArray, List.getElem_cons_zero, List.getElem_cons_succ, List.setIfInBounds_toArray, List.set_cons_zero, List.set_cons_succ]
        refine wpAnyH_take (i := 21) (oi := _) (v := _) rfl (by kernel_rfl) (by kernel_rfl) (by kernel_rfl) (fun _ _ _ h => h) (Or.inl ⟨by rfl, by (intro w hSw; (try dsimp only at hSw); go_simp; try with_reducible rfl)⟩) hHeld ?_
        simp only [Act.put, List.getElem_toArray, List.getElem_cons_zero, List.getElem_cons_succ, List.setIfInBounds_toArray, List.set_cons_zero, List.set_cons_succ]
        refine wpAnyH_take (i := 22) (oi := _) (v := _) rfl (by kernel_rfl) (by kernel_rfl) (by kernel_rfl) (fun _ _ _ h => h) (Or.inl ⟨by rfl, by (intro w hSw; (try dsimp only at hSw); go_simp; try with_reducible rfl)⟩) hHeld ?_
        simp only [Act.put, List.getElem_toArray, List.getElem_cons_zero, List.getElem_cons_succ, List.setIfInBounds_toArray, List.set_cons_zero, List.set_cons_succ]
        refine wpAnyH_done (by kernel_rfl) ?_ _
        obtain ⟨we2, h5, hw⟩ : ∃ we2, Aside0 (Below wc2.heap.size wc2 we2) ∧ we2 = wc2.drew := ⟨_, ⟨Below.drew (Below.refl _ _)⟩, rfl⟩
        rw [← hw]
        have P5 := Aside0.mk ((h5.out.block wb0.heap.size G5).trans X5.out)
        have G5 : wb0.heap.size < we2.heap.size := Nat.lt_of_lt_of_le G5 h5.out.size
        have BA := Aside0.mk (B3.out.trans (h5.out.mono B3.out.size))
        clear DD HP B1 L2 X3 X5 C3 B3 MK hHeld hw h5 f1 f2
        go_wp2_with fail
        go_ret
        exact ⟨rfl, BA.out⟩
end
end Go.Proofs.YtmkkeccmjejfnaaDoor.PA
