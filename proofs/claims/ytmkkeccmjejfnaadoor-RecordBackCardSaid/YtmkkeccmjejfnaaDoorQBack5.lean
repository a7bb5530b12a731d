/- Texts of this claim: contracts of the functions that the statement reaches, and plain laws of what they compute. -/
import Derived.Test.YtmkkeccmjejfnaaDoorQBack4
set_option linter.unusedVariables false
set_option linter.unusedSimpArgs false
namespace Go.Proofs.YtmkkeccmjejfnaaDoor.PA
section

open Go.RowKit Go.Proofs.YtmkkeccmjejfnaaDoorW.PrintWords Go.Proofs.YtmkkeccmjejfnaaDoorW.PrintLast Go.Proofs.YtmkkeccmjejfnaaDoorW.PrintMore
set_option linter.unusedVariables false
set_option linter.unusedSimpArgs false
section
open Go.ChangeShapes Go.WideShapes Go.Deep
variable {H : Type} {enc : TypeId × Value → H} {P : Program} {w : World} {base : Nat} {spare : Nat → Bool} {held : Bool}
theorem struct_rows_sized {ts : List TypeId} {ds : List (DataW H)} {ps : List MemPlace} {d : DataW H} {j i off : Nat} {t ft e : TypeId} {fs : Array Field} {f : Field} {cs : List Value} {v : Value} {A : Option Addr} {len cap : Nat}
    (hsz : (DataW.weightsEach P ts ds).all (· ≤ reachBytes) = true) (htj : ts[j]? = some t) (hdj : ds[j]? = some d) (ht : P.underlying t = some (.struct fs)) (hf : fs[i]? = some f) (hft : f.type = ft) (ho : f.offset = off) (hfe : P.underlying ft = some (.slice e)) (hco : P.cellsOf ft = 1) {B : Nat} (hB : P.bytesOf e = B)
    (h : DataW.Trod enc P w base spare held t v d ps) (hv : v.cells.toList = cs) (hc : cs[off]? = some (.slice A len cap)) : len * B ≤ 140737488351232 := by
  subst hv; subst hft; subst ho
  obtain ⟨fuel, hx⟩ := h
  obtain ⟨xs, n, _, he, _, hl, hh⟩ := DataW.trod_struct ht hx
  have hi := hh i f hf
  have hlt : i < xs.length := by rw [hl]; exact (Array.getElem?_eq_some_iff.1 hf).1
  rw [List.getElem?_eq_getElem hlt, hco] at hi
  have h1 : (v.cells.toList.drop f.offset).take 1 = [.slice A len cap] := by
    obtain ⟨hlo, hco'⟩ := List.getElem?_eq_some_iff.1 hc
    rw [List.drop_eq_getElem_cons hlo, hco']
    rfl
  rw [h1] at hi
  rcases open_slice hfe hi with ⟨hcs, _⟩ | ⟨a, l, c, m, n, D, Pl, hcs, _, hl', hm, hmm, hx', _⟩
  · simp at hcs
    obtain ⟨rfl, rfl, rfl⟩ := hcs
    simp
  · simp at hcs
    obtain ⟨rfl, rfl, rfl⟩ := hcs
    have hd : d = .agg (xs.map (·.1)) := by injection he
    have hmem : (len + (m - len)) * P.bytesOf e ∈ DataW.weightsEach P ts ds := by
      refine DataW.weights_mem_each htj hdj _ ?_
      rw [hd]
      simp only [DataW.weights, ht]
      refine DataW.weights_mem_each (j := i) (t := f.type) (d := xs[i].1) ?_ ?_ _ ?_
      · rw [List.getElem?_map, Array.getElem?_toList, hf]
        rfl
      · rw [List.getElem?_map, List.getElem?_eq_getElem hlt]
        rfl
      · rw [hx']
        simp [DataW.weights, hfe]
    have z := List.all_eq_true.1 hsz _ hmem
    rw [hB] at z
    have z' : (len + (m - len)) * B ≤ reachBytes := by simpa using z
    have h3 : len ≤ len + (m - len) := by omega
    exact Nat.le_trans (Nat.mul_le_mul_right _ h3) z'
end
theorem boxc11 {W : World} {g : Nat} {t : TypeId} {d0 d1 d2 d3 d4 d5 d6 d7 d8 d9 d10 : Value} (h : W.heap[g]? = some (.cells #[d0, d1, d2, d3, d4, d5, d6, d7, d8, d9, d10] t (0, 0))) : W.cell? ⟨g, 0, none⟩ = some d0 ∧ W.cell? ⟨g, 1, none⟩ = some d1 ∧ W.cell? ⟨g, 2, none⟩ = some d2 ∧ W.cell? ⟨g, 3, none⟩ = some d3 ∧ W.cell? ⟨g, 4, none⟩ = some d4 ∧ W.cell? ⟨g, 5, none⟩ = some d5 ∧ W.cell? ⟨g, 6, none⟩ = some d6 ∧ W.cell? ⟨g, 7, none⟩ = some d7 ∧ W.cell? ⟨g, 8, none⟩ = some d8 ∧ W.cell? ⟨g, 9, none⟩ = some d9 ∧ W.cell? ⟨g, 10, none⟩ = some d10 := ⟨(blk_cell h 0).trans rfl, (blk_cell h 1).trans rfl, (blk_cell h 2).trans rfl, (blk_cell h 3).trans rfl, (blk_cell h 4).trans rfl, (blk_cell h 5).trans rfl, (blk_cell h 6).trans rfl, (blk_cell h 7).trans rfl, (blk_cell h 8).trans rfl, (blk_cell h 9).trans rfl, (blk_cell h 10).trans rfl⟩
theorem bk_log (n0 n1 n2 n3 n4 n5 n6 : Int) (t : ByteArray) (hw : wf64 n0 ∧ wf64 n1 ∧ wf64 n2 ∧ wf64 n3 ∧ wf64 n4 ∧ wf64 n5 ∧ wf64 n6) (K : Nat) (hK : 6000000 ≤ K) :
    ∃ x e, record_EncodeLog.f K n0 n1 n2 n3 n4 n5 n6 t = some (x, e) ∧ (e = 0 → record_DecodeLog.f K x = some (n0, n1, n2, n3, n4, n5, n6, t, 0) ∧ record_DecodeHome.f K x = some (0, ⟨#[]⟩, 2) ∧ record_DecodeSuper.f K x = some (0, 0, 0, 2)) := by
  rcases back_log n0 n1 n2 n3 n4 n5 n6 t hw K hK with h | ⟨x, h, h1⟩
  · exact ⟨_, _, h, fun h => by simp at h⟩
  · exact ⟨_, _, h, fun _ => h1⟩
theorem bk_pairs (n : Int) (hn : wf64 n) (l : List S65) (hl : l.length ≤ 140737488351232) (K : Nat) (hK : 2 * l.length + 8000000 ≤ K) :
    ∃ x e, record_EncodePairs.f K n l = some (x, e) ∧ (e = 0 → record_DecodePairs.f K x = some (n, l, 0)) := by
  rcases back_pairs n hn l hl K hK with ⟨e, he, h⟩ | ⟨x, h, h1⟩
  · exact ⟨_, _, h, fun h => absurd h he⟩
  · exact ⟨_, _, h, fun _ => h1⟩
theorem bk_super (b : List Int) (hb : byteL b) (hl : b.length ≤ 140737488351232) (K : Nat) (hK : 6000000 ≤ K) : ∃ x y z e, record_DecodeSuper.f K b = some (x, y, z, e) ∧ (e = 0 → record_EncodeSuper.f K x y z = some (b, 0)) := by
  rcases back_super b hb hl K hK with ⟨e, he, h⟩ | ⟨x, y, z, h, h1⟩
  · exact ⟨_, _, _, _, h, fun h => absurd h he⟩
  · exact ⟨_, _, _, _, h, fun _ => h1⟩
theorem bk_home (b : List Int) (hb : byteL b) (hl : b.length ≤ 140737488351232) (K : Nat) (hK : 6000000 ≤ K) : ∃ p t e, record_DecodeHome.f K b = some (p, t, e) ∧ (e = 0 → record_EncodeHome.f K p t = some (b, 0)) := by
  rcases back_home b hb hl K hK with ⟨e, he, h⟩ | ⟨p, t, h, h1⟩
  · exact ⟨_, _, _, h, fun h => absurd h he⟩
  · exact ⟨_, _, _, h, fun _ => h1⟩
theorem bk_blob (b : List Int) (hb : byteL b) (hl : b.length ≤ 140737488351232) (K : Nat) (hK : 10 * b.length + 8000000 ≤ K) : ∃ n l e, record_DecodePairs.f K b = some (n, l, e) ∧ (e = 0 → record_EncodePairs.f K n l = some (b, 0)) := by
  rcases back_blob b hb hl K hK with ⟨e, he, h⟩ | ⟨n, l, _, h, h1⟩
  · exact ⟨_, _, _, h, fun h => absurd h he⟩
  · exact ⟨_, _, _, h, fun _ => h1⟩
set_option maxHeartbeats 2000000 in
set_option maxRecDepth 100000 in
theorem cisternlaw07_RecordBack.walk (n0 n1 n2 n3 n4 n5 n6 : Int) (t : ByteArray) (N : Int) (A1 : Option Addr) (c1 : Nat) (l1 : List S65) (A2 : Option Addr) (c2 : Nat) (l2 : List Int) (w : World)
    (wa0 : (((Lit.int .i64 n0).wf = true) ∧ ((Lit.int .i64 n1).wf = true) ∧ ((Lit.int .i64 n2).wf = true) ∧ ((Lit.int .i64 n3).wf = true) ∧ ((Lit.int .i64 n4).wf = true) ∧ ((Lit.int .i64 n5).wf = true) ∧ ((Lit.int .i64 n6).wf = true) ∧ (t.size ≤ maxLen)) ∧ ((Lit.int .i64 N).wf = true) ∧ (∀ x_ ∈ l1, (x_.f0.size ≤ maxLen) ∧ (x_.f1.size ≤ maxLen)) ∧ (∀ x_ ∈ l2, (Lit.int .u8 x_).wf = true)) (hr1 : Kd.C k65 w A1 l1.length l1) (hc1 : l1.length ≤ c1) (y1 : l1.length * 32 ≤ 140737488351232) (hr2 : Kd.C (Kd.int .u8) w A2 l2.length l2) (hc2 : l2.length ≤ c2) (y2 : l2.length * 1 ≤ 140737488351232) :
    Calls Tryd.prog 9 #[.agg #[.int .i64 n0, .int .i64 n1, .int .i64 n2, .int .i64 n3, .int .i64 n4, .int .i64 n5, .int .i64 n6, .string t, .int .i64 N, .slice A1 l1.length c1, .slice A2 l2.length c2]] w fun e w' => e = .returned (.bool true) ∧ Below w.heap.size w w' := by
  obtain ⟨w0, wN, _, w2⟩ := wa0
  have W2 := wf_u8 w2
  have R1 := Aside0.mk hr1
  have C1 := Aside0.mk hc1
  have R2 := Aside0.mk hr2
  have C2 := Aside0.mk hc2
  have hl1 : l1.length ≤ 140737488351232 := by omega
  have hl2 : l2.length ≤ 140737488351232 := by omega
  obtain ⟨K, hK⟩ : ∃ K : Nat, K = 2 * l1.length + 10 * l2.length + 9000000 := ⟨_, rfl⟩
  obtain ⟨x1, e1, EL, hL⟩ := bk_log n0 n1 n2 n3 n4 n5 n6 t ⟨wf64_iff.1 w0.1, wf64_iff.1 w0.2.1, wf64_iff.1 w0.2.2.1, wf64_iff.1 w0.2.2.2.1, wf64_iff.1 w0.2.2.2.2.1, wf64_iff.1 w0.2.2.2.2.2.1, wf64_iff.1 w0.2.2.2.2.2.2.1⟩ K (by omega)
  obtain ⟨x2, e2, EP, hP⟩ := bk_pairs N (wf64_iff.1 wN) l1 hl1 K (by omega)
  obtain ⟨s0, s1, s2, e3, ES, hS⟩ := bk_super l2 W2 hl2 K (by omega)
  obtain ⟨p0, pt, e4, EH, hH⟩ := bk_home l2 W2 hl2 K (by omega)
  obtain ⟨m, q, e5, EB, hB5⟩ := bk_blob l2 W2 hl2 K (by omega)
  replace EL := Aside0.mk EL
  have HL := Aside0.mk hL
  replace EP := Aside0.mk EP
  have HP := Aside0.mk hP
  replace ES := Aside0.mk ES
  have HS := Aside0.mk hS
  replace EH := Aside0.mk EH
  have HH := Aside0.mk hH
  replace EB := Aside0.mk EB
  have HB := Aside0.mk hB5
  have SP : Aside0 (cisternref07_SamePairs.f K l1 l1 = some true) := ⟨samepairs_val l1 hl1 K (by omega)⟩
  have KN : Aside0 (cisternlaw07_known.f K = some true) := ⟨known_val K (by omega)⟩
  clear w0 wN hr1 hc1 y1 hr2 hc2 y2 w2 hK hL hP hS hH hB5 W2 hl1 hl2
  go_enter Tryd.func9, Tryd.ntmps9
  go_wp2_with fail
  refine (cisternlaw07_known.calls K true _ KN.out).mono ?_
  rintro e wa ⟨rfl, hB⟩
  have a0 := heap_alloc_new w (.cells #[.int .i64 n0, .int .i64 n1, .int .i64 n2, .int .i64 n3, .int .i64 n4, .int .i64 n5, .int .i64 n6, .string t, .int .i64 N, .slice A1 l1.length c1, .slice A2 l2.length c2] 69)
  have X0 := Aside0.mk ((hB.block w.heap.size (by simp)).trans a0)
  have BA := Aside0.mk ((below_alloc (Below.refl w.heap.size w) (.cells #[.int .i64 n0, .int .i64 n1, .int .i64 n2, .int .i64 n3, .int .i64 n4, .int .i64 n5, .int .i64 n6, .string t, .int .i64 N, .slice A1 l1.length c1, .slice A2 l2.length c2] 69)).trans (hB.mono (by simp)))
  have HZ := Aside0.mk (show w.heap.size + 1 ≤ wa.heap.size by have := hB.size; simp at this; omega)
  have KB := fun (W : World) (h : Below wa.heap.size wa W) => boxc11 ((h.block w.heap.size (by have := HZ.out; omega)).trans X0.out)
  replace KB := Aside0.mk KB
  have Q1 := Aside0.mk (fun (W : World) (h : Below wa.heap.size wa W) => Kd.C_below R1.out (BA.out.trans (h.mono BA.out.size)))
  have Q2 := Aside0.mk (fun (W : World) (h : Below wa.heap.size wa W) => Kd.C_below R2.out (BA.out.trans (h.mono BA.out.size)))
  clear hB a0 X0 HZ
  have B0 := Aside0.mk (Below.refl wa.heap.size wa)
  obtain ⟨k0, k1, k2, k3, k4, k5, k6, k7, k8, k9, k10⟩ := KB.out wa B0.out
  go_wp2_with fail
  refine (record_EncodeLog.calls K n0 n1 n2 n3 n4 n5 n6 t x1 e1 wa EL.out).mono ?_
  rintro e wb ⟨v, rfl, hR, hB⟩
  obtain ⟨A3, c3, rfl, hc3, hC3⟩ := Kd.R_reads hR
  have L3 := Aside0.mk hc3
  have X3 := Aside0.mk hC3
  have BB := Aside0.mk (B0.out.trans (hB.mono B0.out.size))
  clear hB hR hc3 hC3
  clear k0 k1 k2 k3 k4 k5 k6 k7 k8 k9 k10
  go_upto_if 34 with fail
  go_cut [] (fun wx => Aside0 (Below wa.heap.size wa wx))
  case first =>
    by_cases he : e1 = 0
    case neg =>
      have f1 : (e1 == 0) = false := beq_eq_false_iff_ne.2 he
      clear he
      go_wp2_with fail
      go_meet
      exact BB
    case pos =>
      obtain ⟨d1, d2, d3⟩ := HL.out he
      have D1 := Aside0.mk d1
      have D2 := Aside0.mk d2
      have D3 := Aside0.mk d3
      clear d1 d2 d3
      subst he
      have BQ := Aside0.mk (Below.refl wb.heap.size wb)
      go_wp2_with fail
      refine (record_DecodeLog.calls K A3 c3 x1 n0 n1 n2 n3 n4 n5 n6 t 0 wb X3.out L3.out D1.out).mono ?_
      rintro e wd ⟨rfl, hB⟩
      have BD := Aside0.mk (below_alloc hB (.cells #[.int .i64 n0, .int .i64 n1, .int .i64 n2, .int .i64 n3, .int .i64 n4, .int .i64 n5, .int .i64 n6, .string t] 25))
      have X5 := Aside0.mk (heap_alloc_new wd (.cells #[.int .i64 n0, .int .i64 n1, .int .i64 n2, .int .i64 n3, .int .i64 n4, .int .i64 n5, .int .i64 n6, .string t] 25))
      clear hB
      go_wp2_with fail
      refine (record_DecodeHome.calls K A3 c3 x1 0 ⟨#[]⟩ 2 _ (Kd.C_below X3.out BD.out) L3.out D2.out).mono ?_
      rintro e wf ⟨rfl, hB⟩
      have BF := Aside0.mk (BD.out.trans (hB.mono BD.out.size))
      have X6 := Aside0.mk ((hB.block wd.heap.size (by simp)).trans X5.out)
      have S6 := Aside0.mk (show wd.heap.size < wf.heap.size by have := hB.size; simp at this; omega)
      clear hB X5
      go_wp2_with fail
      refine (record_DecodeSuper.calls K A3 c3 x1 0 0 0 2 _ (Kd.C_alloc (Kd.C_below X3.out BF.out) _) L3.out D3.out).mono ?_
      rintro e wg ⟨rfl, hB⟩
      have BG := Aside0.mk (BF.out.trans ((below_alloc (Below.refl _ _) _).trans (hB.mono (by simp)) |>.mono BF.out.size))
      have X7 := Aside0.mk ((hB.block wd.heap.size (by have := S6.out; simp; omega)).trans (((below_alloc (Below.refl wf.heap.size wf) _).block wd.heap.size S6.out).trans X6.out))
      have S7 := Aside0.mk (show wd.heap.size < wg.heap.size by have h6 := S6.out; have := hB.size; simp at this; omega)
      clear hB X6
      have BH := Aside0.mk (below_alloc (BB.out.trans (BG.out.mono BB.out.size)) (.cells #[.int .i64 0, .int .i64 0, .int .i64 0] 23))
      obtain ⟨k0, k1, k2, k3, k4, k5, k6, k7, k8, k9, k10⟩ := KB.out _ BH.out
      obtain ⟨j0, j1, j2, j3, j4, j5, j6, j7⟩ := boxc8 (((below_alloc (Below.refl wg.heap.size wg) (.cells #[.int .i64 0, .int .i64 0, .int .i64 0] 23)).block wd.heap.size S7.out).trans X7.out)
      clear k8 k9 k10
      go_wp2_with fail
      go_meet
      exact BH
  case rest =>
  have B1 := hcut
  obtain ⟨k0, k1, k2, k3, k4, k5, k6, k7, k8, k9, k10⟩ := KB.out wc B1.out
  clear k0 k1 k2 k3 k4 k5 k6 k7 k10
  go_wp2_with fail
  refine (record_EncodePairs.calls K N A1 c1 l1 x2 e2 wc (Q1.out wc B1.out) C1.out EP.out).mono ?_
  rintro e wb2 ⟨v, rfl, hR, hB⟩
  obtain ⟨A4, c4, rfl, hc_, hC_⟩ := Kd.R_reads hR
  have L4 := Aside0.mk hc_
  have X4 := Aside0.mk hC_
  have BB2 := Aside0.mk (B1.out.trans (hB.mono B1.out.size))
  clear hB hR hc_ hC_ k8 k9 hcut
  go_upto_if 75 with fail
  go_cut [] (fun wx => Aside0 (Below wa.heap.size wa wx))
  case first =>
    by_cases he : e2 = 0
    case neg =>
      have f1 : (e2 == 0) = false := beq_eq_false_iff_ne.2 he
      clear he
      go_wp2_with fail
      go_meet
      exact BB2
    case pos =>
      have D1 := Aside0.mk (HP.out he)
      subst he
      go_wp2_with fail
      refine (record_DecodePairs.calls K A4 c4 x2 N l1 0 wb2 X4.out L4.out D1.out).mono ?_
      rintro e wd2 ⟨v, rfl, hR, hB⟩
      obtain ⟨A5, c5, rfl, hc_, hC_⟩ := Kd.R_reads hR
      have L5 := Aside0.mk hc_
      have X5 := Aside0.mk hC_
      have BD2 := Aside0.mk (BB2.out.trans (hB.mono BB2.out.size))
      clear hB hR hc_ hC_
      obtain ⟨k0, k1, k2, k3, k4, k5, k6, k7, k8, k9, k10⟩ := KB.out wd2 BD2.out
      clear k0 k1 k2 k3 k4 k5 k6 k7 k10
      go_wp2_with fail
      refine (cisternref07_SamePairs.calls K A5 c5 l1 A1 c1 l1 true wd2 X5.out L5.out (Q1.out wd2 BD2.out) C1.out SP.out).mono ?_
      rintro e wf2 ⟨rfl, hD⟩
      have BF2 := Aside0.mk (BD2.out.trans (hD.below.mono BD2.out.size))
      clear hD
      go_wp2_with fail
      go_meet
      exact BF2
  case rest =>
  have B2 := hcut
  obtain ⟨k0, k1, k2, k3, k4, k5, k6, k7, k8, k9, k10⟩ := KB.out wc B2.out
  clear k0 k1 k2 k3 k4 k5 k6 k7 k8 k9
  go_wp2_with fail
  refine (record_DecodeSuper.calls K A2 c2 l2 s0 s1 s2 e3 wc (Q2.out wc B2.out) C2.out ES.out).mono ?_
  rintro e wb3 ⟨rfl, hB⟩
  have BB3 := Aside0.mk (B2.out.trans ((below_alloc hB (.cells #[.int .i64 s0, .int .i64 s1, .int .i64 s2] 23)).mono B2.out.size))
  have X3b := Aside0.mk (heap_alloc_new wb3 (.cells #[.int .i64 s0, .int .i64 s1, .int .i64 s2] 23))
  clear hB k10 hcut
  go_upto_if 104 with fail
  go_cut [] (fun wx => Aside0 (Below wa.heap.size wa wx))
  case first =>
    by_cases he : e3 = 0
    case neg =>
      have f1 : (e3 == 0) = false := beq_eq_false_iff_ne.2 he
      clear he
      go_wp2_with fail
      go_meet
      exact BB3
    case pos =>
      have D1 := Aside0.mk (HS.out he)
      subst he
      obtain ⟨j0, j1, j2⟩ := boxc3 X3b.out
      go_wp2_with fail
      refine (record_EncodeSuper.calls K s0 s1 s2 l2 0 _ D1.out).mono ?_
      rintro e wd3 ⟨v, rfl, hR, hB⟩
      obtain ⟨A5, c5, rfl, hc_, hC_⟩ := Kd.R_reads hR
      have L5 := Aside0.mk hc_
      have X5 := Aside0.mk hC_
      have BD3 := Aside0.mk (BB3.out.trans (hB.mono BB3.out.size))
      clear hB hR hc_ hC_
      have cv := fun c => Kd.C_string (c := c) (P := Tryd.prog) Tryd.underlying36 Tryd.underlying5 Tryd.underlying9 (X5.out)
      have cv2 := fun c => Kd.C_string (c := c) (P := Tryd.prog) Tryd.underlying36 Tryd.underlying5 Tryd.underlying9 (Q2.out wd3 BD3.out)
      obtain ⟨k0, k1, k2, k3, k4, k5, k6, k7, k8, k9, k10⟩ := KB.out wd3 BD3.out
      clear k0 k1 k2 k3 k4 k5 k6 k7 k8 k9
      go_wp2_with fail
      go_meet
      exact BD3
  case rest =>
  have B3 := hcut
  obtain ⟨k0, k1, k2, k3, k4, k5, k6, k7, k8, k9, k10⟩ := KB.out wc B3.out
  clear k0 k1 k2 k3 k4 k5 k6 k7 k8 k9
  go_wp2_with fail
  refine (record_DecodeHome.calls K A2 c2 l2 p0 pt e4 wc (Q2.out wc B3.out) C2.out EH.out).mono ?_
  rintro e wb4 ⟨rfl, hB⟩
  have BB4 := Aside0.mk (B3.out.trans ((below_alloc hB (.cells #[.int .i64 p0, .string pt] 27)).mono B3.out.size))
  have X4b := Aside0.mk (heap_alloc_new wb4 (.cells #[.int .i64 p0, .string pt] 27))
  clear hB k10 hcut
  go_upto_if 127 with fail
  go_cut [] (fun wx => Aside0 (Below wa.heap.size wa wx))
  case first =>
    by_cases he : e4 = 0
    case neg =>
      have f1 : (e4 == 0) = false := beq_eq_false_iff_ne.2 he
      clear he
      go_wp2_with fail
      go_meet
      exact BB4
    case pos =>
      have D1 := Aside0.mk (HH.out he)
      subst he
      obtain ⟨j0, j1⟩ := boxc2 X4b.out
      go_wp2_with fail
      refine (record_EncodeHome.calls K p0 pt l2 0 _ D1.out).mono ?_
      rintro e wd4 ⟨v, rfl, hR, hB⟩
      obtain ⟨A5, c5, rfl, hc_, hC_⟩ := Kd.R_reads hR
      have L5 := Aside0.mk hc_
      have X5 := Aside0.mk hC_
      have BD4 := Aside0.mk (BB4.out.trans (hB.mono BB4.out.size))
      clear hB hR hc_ hC_
      have cv := fun c => Kd.C_string (c := c) (P := Tryd.prog) Tryd.underlying36 Tryd.underlying5 Tryd.underlying9 (X5.out)
      have cv2 := fun c => Kd.C_string (c := c) (P := Tryd.prog) Tryd.underlying36 Tryd.underlying5 Tryd.underlying9 (Q2.out wd4 BD4.out)
      obtain ⟨k0, k1, k2, k3, k4, k5, k6, k7, k8, k9, k10⟩ := KB.out wd4 BD4.out
      clear k0 k1 k2 k3 k4 k5 k6 k7 k8 k9
      go_wp2_with fail
      go_meet
      exact BD4
  case rest =>
  have B4 := hcut
  obtain ⟨k0, k1, k2, k3, k4, k5, k6, k7, k8, k9, k10⟩ := KB.out wc B4.out
  clear k0 k1 k2 k3 k4 k5 k6 k7 k8 k9
  go_wp2_with fail
  refine (record_DecodePairs.calls K A2 c2 l2 m q e5 wc (Q2.out wc B4.out) C2.out EB.out).mono ?_
  rintro e wb5 ⟨v, rfl, hR, hB⟩
  obtain ⟨A4, c4, rfl, hc_, hC_⟩ := Kd.R_reads hR
  have L4 := Aside0.mk hc_
  have X4 := Aside0.mk hC_
  have BB5 := Aside0.mk (B4.out.trans (hB.mono B4.out.size))
  clear hB hR hc_ hC_ k10 hcut
  go_upto_if 151 with fail
  go_cut [] (fun wx => Aside0 (Below wa.heap.size wa wx))
  case first =>
    by_cases he : e5 = 0
    case neg =>
      have f1 : (e5 == 0) = false := beq_eq_false_iff_ne.2 he
      clear he
      go_wp2_with fail
      go_meet
      exact BB5
    case pos =>
      have D1 := Aside0.mk (HB.out he)
      subst he
      go_wp2_with fail
      refine (record_EncodePairs.calls K m A4 c4 q l2 0 wb5 X4.out L4.out D1.out).mono ?_
      rintro e wd5 ⟨v, rfl, hR, hB⟩
      obtain ⟨A5, c5, rfl, hc_, hC_⟩ := Kd.R_reads hR
      have L5 := Aside0.mk hc_
      have X5 := Aside0.mk hC_
      have BD5 := Aside0.mk (BB5.out.trans (hB.mono BB5.out.size))
      clear hB hR hc_ hC_
      have cv := fun c => Kd.C_string (c := c) (P := Tryd.prog) Tryd.underlying36 Tryd.underlying5 Tryd.underlying9 (X5.out)
      have cv2 := fun c => Kd.C_string (c := c) (P := Tryd.prog) Tryd.underlying36 Tryd.underlying5 Tryd.underlying9 (Q2.out wd5 BD5.out)
      obtain ⟨k0, k1, k2, k3, k4, k5, k6, k7, k8, k9, k10⟩ := KB.out wd5 BD5.out
      clear k0 k1 k2 k3 k4 k5 k6 k7 k8 k9
      go_wp2_with fail
      go_meet
      exact BD5
  case rest =>
  have B5 := hcut
  go_wp2_with fail
  go_ret
  exact ⟨rfl, BA.out.trans (B5.out.mono BA.out.size)⟩
end
end Go.Proofs.YtmkkeccmjejfnaaDoor.PA
