/- The law NodeHalves answers true at every input: its row, out of the walk. Laid by a program of this work. -/
import Derived.Test.YtjjfeoigjhbbpaaQH6
import Derived.Test.YtjjfeoigjhbbpaaRows
import Derived.WalkKit
import Derived.ProofKit
import Derived.OpenShut
import Derived.ShutString
import Derived.ChangeOld
import Derived.Below
import Derived.SizedLaws
import Derived.Deep.Slices
import Derived.Deep.Strs
import Derived.Lib.SmallJoins
namespace Go.Proofs.Ytjjfeoigjhbbpaa.nodeHalves
open Go.ChangeShapes Go.WideShapes Go.ChangeAt Go.RowKit Go.Deep
open Go.ChangeMaps (open_string shut_string)
open Go.Proofs.Ytjjfeoigjhbbpaa.PA Go.Proofs.YtjjfeoigjhbbpaaW.PrintWords Go.Proofs.YtjjfeoigjhbbpaaW.PrintLast Go.Proofs.YtjjfeoigjhbbpaaW.PrintMore
set_option linter.unusedVariables false
set_option linter.unusedSimpArgs false
theorem own : ownKnob Try.prog.godebug = none := by kernel_rfl
theorem laidOut : laidOutB Try.prog = true := by kernel_rfl
theorem he_b {H : Type} {enc : TypeId × Value → H} {w : World} {base : Nat} {spare : Nat → Bool} {held : Bool} {t : TypeId} (ht : Try.prog.underlying t = some .bool) (n : Nat) (cs : List Value) (y : DataW H × List MemPlace) (h : DataW.trod enc Try.prog w base spare held n t cs = some y) : ∃ v : Bool, Kd.bool.K w v cs ∧ (True) := by
  obtain ⟨a, rfl, _⟩ := DataW.trod_bool ht h
  exact ⟨a, rfl, trivial⟩
theorem he_s {H : Type} {enc : TypeId × Value → H} {w : World} {base : Nat} {spare : Nat → Bool} {held : Bool} {t : TypeId} (ht : Try.prog.underlying t = some .string) (n : Nat) (cs : List Value) (y : DataW H × List MemPlace) (h : DataW.trod enc Try.prog w base spare held n t cs = some y) : ∃ v : ByteArray, Kd.string.K w v cs ∧ (v.size ≤ maxLen) := by
  obtain ⟨a, rfl, _, hw⟩ := DataW.trod_string ht h
  exact ⟨a, rfl, hw⟩
instance : Inhabited S48 := ⟨z48⟩
set_option maxRecDepth 100000 in
theorem he_t48 {H : Type} {enc : TypeId × Value → H} {w : World} {base : Nat} {spare : Nat → Bool} {held : Bool} (n : Nat) (cs : List Value) (y : DataW H × List MemPlace) (h : DataW.trod enc Try.prog w base spare held n 48 cs = some y) : ∃ v : S48, k48.K w v cs ∧ ((v.f0.size ≤ maxLen) ∧ (v.f1.size ≤ maxLen)) := by
  obtain ⟨xs, n', _, _, hl, hlen, hf⟩ := DataW.trod_struct Try.underlying48 h
  have ec : Try.prog.cellsOf 48 = 2 := by kernel_rfl
  rw [ec] at hl
  match xs, hlen with
  | [y0, y1], _ =>
  match cs, hl with
  | [c0, c1], _ =>
  have e0 : Try.prog.cellsOf 9 = 1 := by kernel_rfl
  have h0 : DataW.trod enc Try.prog w base spare held n' 9 (([c0, c1].drop 0).take (Try.prog.cellsOf 9)) = some y0 := hf 0 _ rfl
  rw [e0] at h0
  obtain ⟨v0, k0, w0⟩ := he_s (t := 9) Try.underlying9 _ _ _ h0
  have e1 : Try.prog.cellsOf 9 = 1 := by kernel_rfl
  have h1 : DataW.trod enc Try.prog w base spare held n' 9 (([c0, c1].drop 1).take (Try.prog.cellsOf 9)) = some y1 := hf 1 _ rfl
  rw [e1] at h1
  obtain ⟨v1, k1, w1⟩ := he_s (t := 9) Try.underlying9 _ _ _ h1
  exact ⟨⟨v0, v1⟩, ⟨_, _, rfl, k0, k1⟩, w0, w1⟩
theorem he_sl48 {H : Type} {enc : TypeId × Value → H} {w : World} {base : Nat} {spare : Nat → Bool} {held : Bool} {t : TypeId} (ht : Try.prog.underlying t = some (.slice 48)) (n : Nat) (cs : List Value) (y : DataW H × List MemPlace) (h : DataW.trod enc Try.prog w base spare held n t cs = some y) : ∃ v : List S48, (Kd.slice 48 k48).K w v cs ∧ (∀ x_ ∈ v, (x_.f0.size ≤ maxLen) ∧ (x_.f1.size ≤ maxLen)) := by
  have hsh : ∃ A len cap, cs = [.slice A len cap] := by
    rcases open_slice ht h with ⟨hcs, _⟩ | ⟨a, l, c, _, _, _, _, hcs, _⟩
    · exact ⟨_, _, _, hcs⟩
    · exact ⟨_, _, _, hcs⟩
  obtain ⟨A, len, cap, rfl⟩ := hsh
  obtain ⟨l, hl, hC, hc, hw⟩ := open_rows k48 (fun v => (v.f0.size ≤ maxLen) ∧ (v.f1.size ≤ maxLen)) ht (by kernel_rfl) (fun n cs y h => he_t48 n cs y h) h
  subst hl
  exact ⟨l, ⟨A, cap, rfl, hc, hC⟩, hw⟩
theorem he_sl9 {H : Type} {enc : TypeId × Value → H} {w : World} {base : Nat} {spare : Nat → Bool} {held : Bool} {t : TypeId} (ht : Try.prog.underlying t = some (.slice 9)) (n : Nat) (cs : List Value) (y : DataW H × List MemPlace) (h : DataW.trod enc Try.prog w base spare held n t cs = some y) : ∃ v : List ByteArray, (Kd.slice 9 Kd.string).K w v cs ∧ (∀ x_ ∈ v, x_.size ≤ maxLen) := by
  have hsh : ∃ A len cap, cs = [.slice A len cap] := by
    rcases open_slice ht h with ⟨hcs, _⟩ | ⟨a, l, c, _, _, _, _, hcs, _⟩
    · exact ⟨_, _, _, hcs⟩
    · exact ⟨_, _, _, hcs⟩
  obtain ⟨A, len, cap, rfl⟩ := hsh
  obtain ⟨l, hl, hC, hc, hw⟩ := open_rows Kd.string (fun v => v.size ≤ maxLen) ht (by kernel_rfl) (fun n cs y h => he_s (t := 9) Try.underlying9 n cs y h) h
  subst hl
  exact ⟨l, ⟨A, cap, rfl, hc, hC⟩, hw⟩
theorem he_i64 {H : Type} {enc : TypeId × Value → H} {w : World} {base : Nat} {spare : Nat → Bool} {held : Bool} {t : TypeId} (ht : Try.prog.underlying t = some (.int .i64)) (n : Nat) (cs : List Value) (y : DataW H × List MemPlace) (h : DataW.trod enc Try.prog w base spare held n t cs = some y) : ∃ v : Int, (Kd.int .i64).K w v cs ∧ ((Lit.int .i64 v).wf = true) := by
  obtain ⟨a, rfl, _, hw⟩ := DataW.trod_int ht h
  exact ⟨a, rfl, hw⟩
theorem he_sl3 {H : Type} {enc : TypeId × Value → H} {w : World} {base : Nat} {spare : Nat → Bool} {held : Bool} {t : TypeId} (ht : Try.prog.underlying t = some (.slice 3)) (n : Nat) (cs : List Value) (y : DataW H × List MemPlace) (h : DataW.trod enc Try.prog w base spare held n t cs = some y) : ∃ v : List Int, (Kd.slice 3 (Kd.int .i64)).K w v cs ∧ (∀ x_ ∈ v, (Lit.int .i64 x_).wf = true) := by
  have hsh : ∃ A len cap, cs = [.slice A len cap] := by
    rcases open_slice ht h with ⟨hcs, _⟩ | ⟨a, l, c, _, _, _, _, hcs, _⟩
    · exact ⟨_, _, _, hcs⟩
    · exact ⟨_, _, _, hcs⟩
  obtain ⟨A, len, cap, rfl⟩ := hsh
  obtain ⟨l, hl, hC, hc, hw⟩ := open_rows (Kd.int .i64) (fun v => (Lit.int .i64 v).wf = true) ht (by kernel_rfl) (fun n cs y h => he_i64 (t := 3) Try.underlying3 n cs y h) h
  subst hl
  exact ⟨l, ⟨A, cap, rfl, hc, hC⟩, hw⟩
instance : Inhabited S26 := ⟨z26⟩
set_option maxRecDepth 100000 in
theorem he_t26 {H : Type} {enc : TypeId × Value → H} {w : World} {base : Nat} {spare : Nat → Bool} {held : Bool} (n : Nat) (cs : List Value) (y : DataW H × List MemPlace) (h : DataW.trod enc Try.prog w base spare held n 26 cs = some y) : ∃ v : S26, k26.K w v cs ∧ ((True) ∧ (∀ x_ ∈ v.f1, (x_.f0.size ≤ maxLen) ∧ (x_.f1.size ≤ maxLen)) ∧ (∀ x_ ∈ v.f2, x_.size ≤ maxLen) ∧ (∀ x_ ∈ v.f3, (Lit.int .i64 x_).wf = true)) := by
  obtain ⟨xs, n', _, _, hl, hlen, hf⟩ := DataW.trod_struct Try.underlying26 h
  have ec : Try.prog.cellsOf 26 = 4 := by kernel_rfl
  rw [ec] at hl
  match xs, hlen with
  | [y0, y1, y2, y3], _ =>
  match cs, hl with
  | [c0, c1, c2, c3], _ =>
  have e0 : Try.prog.cellsOf 4 = 1 := by kernel_rfl
  have h0 : DataW.trod enc Try.prog w base spare held n' 4 (([c0, c1, c2, c3].drop 0).take (Try.prog.cellsOf 4)) = some y0 := hf 0 _ rfl
  rw [e0] at h0
  obtain ⟨v0, k0, w0⟩ := he_b (t := 4) Try.underlying4 _ _ _ h0
  have e1 : Try.prog.cellsOf 22 = 1 := by kernel_rfl
  have h1 : DataW.trod enc Try.prog w base spare held n' 22 (([c0, c1, c2, c3].drop 1).take (Try.prog.cellsOf 22)) = some y1 := hf 1 _ rfl
  rw [e1] at h1
  obtain ⟨v1, k1, w1⟩ := he_sl48 (t := 22) Try.underlying22 _ _ _ h1
  have e2 : Try.prog.cellsOf 23 = 1 := by kernel_rfl
  have h2 : DataW.trod enc Try.prog w base spare held n' 23 (([c0, c1, c2, c3].drop 2).take (Try.prog.cellsOf 23)) = some y2 := hf 2 _ rfl
  rw [e2] at h2
  obtain ⟨v2, k2, w2⟩ := he_sl9 (t := 23) Try.underlying23 _ _ _ h2
  have e3 : Try.prog.cellsOf 24 = 1 := by kernel_rfl
  have h3 : DataW.trod enc Try.prog w base spare held n' 24 (([c0, c1, c2, c3].drop 3).take (Try.prog.cellsOf 24)) = some y3 := hf 3 _ rfl
  rw [e3] at h3
  obtain ⟨v3, k3, w3⟩ := he_sl3 (t := 24) Try.underlying24 _ _ _ h3
  exact ⟨⟨v0, v1, v2, v3⟩, ⟨_, _, rfl, k0, ⟨_, _, rfl, k1, ⟨_, _, rfl, k2, k3⟩⟩⟩, w0, w1, w2, w3⟩
set_option maxRecDepth 100000 in
theorem lifted (os : Os) (started : os.Started) (H : Type) (enc : TypeId × Value → H) :
    ReturnsInHanded {} Try.checked os 4 .any (Rows.nodeHalvesSpec.pre6 enc Try.prog Try.f4 Rows.nodeHalvesRow.domain false) (Rows.nodeHalvesSpec.post enc Try.prog Try.f4 false true false false) := by
  refine returnsInHanded_of_change_sized (C := Try.checked) own started (by kernel_rfl) Try.func4
    (ChangeSpec.witness6 (enc := enc) (C := Try.checked) false ⟨#[], #[.agg #[.bool false, .slice none 0 0, .slice none 0 0, .slice none 0 0], .string ByteArray.empty, .agg #[.bool false, .slice none 0 0, .slice none 0 0, .slice none 0 0]], []⟩ 8 (by kernel_rfl) (by kernel_rfl) (by kernel_rfl) (by kernel_rfl)) ?_
  intro W base args ds gs before hval0 hW hcnd hsz0 _
  have hsz : (DataW.weightsEach Try.prog (Try.f4.params.toList ++ Rows.nodeHalvesSpec.plain.varTypes Try.prog) (ds ++ gs)).all (· ≤ reachBytes) = true := hsz0
  have hval : ∀ (j : Nat) t v, Try.f4.params[j]? = some t → args[j]? = some v → Value.okWide Try.prog W .any base t v := hval0
  have hW' := hW
  obtain ⟨p, q, hA0, hV, rfl, hfz, hnd⟩ := hW
  have hA : DataW.TrodAll enc Try.prog W 0 (fun _ => true) true Try.f4.params.toList args.toList ds p := hA0
  rw [Try.params4] at hA hval hsz
  obtain ⟨v0, vs0, d0, ds0, p0, q0, hargs, rfl, rfl, h0, r0⟩ := trodAll_cons hA
  obtain ⟨v1, vs1, d1, ds1, p1, q1, rfl, rfl, rfl, h1, r1⟩ := trodAll_cons r0
  obtain ⟨v2, vs2, d2, ds2, p2, q2, rfl, rfl, rfl, h2, r2⟩ := trodAll_cons r1
  obtain ⟨rfl, rfl, rfl⟩ := trodAll_nil r2
  obtain rfl : args = #[v0, v1, v2] := by cases args; simp_all
  obtain ⟨rfl, rfl⟩ := trodVars_none hV
  obtain ⟨cs0, rfl, hsz0⟩ := okWide_struct Try.underlying26 (hval 0 26 v0 rfl rfl)
  have k0 := h0
  have lt0 : ∀ x ∈ p0, x.block < W.heap.size := by obtain ⟨m, hm⟩ := k0; exact DataW.trod_lt m _ _ _ hm
  obtain ⟨fu0, hf0⟩ := h0
  obtain ⟨x0, hk0, w0⟩ := he_t26 _ _ _ (by simpa [Value.cells] using hf0)
  obtain ⟨A0_1, c0_1, A0_2, c0_2, A0_3, c0_3, hcs0, l0_1, g0_1, l0_2, g0_2, l0_3, g0_3⟩ := k26_open hk0
  obtain rfl : cs0 = #[.bool x0.f0, .slice A0_1 x0.f1.length c0_1, .slice A0_2 x0.f2.length c0_2, .slice A0_3 x0.f3.length c0_3] := by rw [← Array.toList_inj]; exact hcs0
  have y0_1 := struct_rows_sized hsz (j := 0) (t := 26) (i := 1) (off := 1) rfl rfl Try.underlying26 rfl rfl rfl Try.underlying22 (by kernel_rfl) (B := 32) (by kernel_rfl) ⟨fu0, hf0⟩ rfl rfl
  have y0_2 := struct_rows_sized hsz (j := 0) (t := 26) (i := 2) (off := 2) rfl rfl Try.underlying26 rfl rfl rfl Try.underlying23 (by kernel_rfl) (B := 16) (by kernel_rfl) ⟨fu0, hf0⟩ rfl rfl
  have y0_3 := struct_rows_sized hsz (j := 0) (t := 26) (i := 3) (off := 3) rfl rfl Try.underlying26 rfl rfl rfl Try.underlying24 (by kernel_rfl) (B := 8) (by kernel_rfl) ⟨fu0, hf0⟩ rfl rfl
  obtain ⟨a1, rfl, rfl, rfl, y1⟩ := open_string Try.underlying9 (hval 1 9 v1 rfl rfl) h1
  have w1 : a1.size ≤ 140737488351232 := by
    have z := sized_string hsz (j := 1) (t := 9) rfl rfl
    rw [Array.length_toList] at z
    exact z
  obtain ⟨cs2, rfl, hsz2⟩ := okWide_struct Try.underlying26 (hval 2 26 v2 rfl rfl)
  have k2 := h2
  have lt2 : ∀ x ∈ p2, x.block < W.heap.size := by obtain ⟨m, hm⟩ := k2; exact DataW.trod_lt m _ _ _ hm
  obtain ⟨fu2, hf2⟩ := h2
  obtain ⟨x2, hk2, w2⟩ := he_t26 _ _ _ (by simpa [Value.cells] using hf2)
  obtain ⟨A2_1, c2_1, A2_2, c2_2, A2_3, c2_3, hcs2, l2_1, g2_1, l2_2, g2_2, l2_3, g2_3⟩ := k26_open hk2
  obtain rfl : cs2 = #[.bool x2.f0, .slice A2_1 x2.f1.length c2_1, .slice A2_2 x2.f2.length c2_2, .slice A2_3 x2.f3.length c2_3] := by rw [← Array.toList_inj]; exact hcs2
  have y2_1 := struct_rows_sized hsz (j := 2) (t := 26) (i := 1) (off := 1) rfl rfl Try.underlying26 rfl rfl rfl Try.underlying22 (by kernel_rfl) (B := 32) (by kernel_rfl) ⟨fu2, hf2⟩ rfl rfl
  have y2_2 := struct_rows_sized hsz (j := 2) (t := 26) (i := 2) (off := 2) rfl rfl Try.underlying26 rfl rfl rfl Try.underlying23 (by kernel_rfl) (B := 16) (by kernel_rfl) ⟨fu2, hf2⟩ rfl rfl
  have y2_3 := struct_rows_sized hsz (j := 2) (t := 26) (i := 3) (off := 3) rfl rfl Try.underlying26 rfl rfl rfl Try.underlying24 (by kernel_rfl) (B := 8) (by kernel_rfl) ⟨fu2, hf2⟩ rfl rfl
  clear hA0 hval0 hsz0 hsz
  refine (cisternlaw11_NodeHalves.walk x0.f0 A0_1 c0_1 x0.f1 A0_2 c0_2 x0.f2 A0_3 c0_3 x0.f3 a1 x2.f0 A2_1 c2_1 x2.f1 A2_2 c2_2 x2.f2 A2_3 c2_3 x2.f3 W w0 g0_1 l0_1 y0_1 g0_2 l0_2 y0_2 g0_3 l0_3 y0_3 w1 w2 g2_1 l2_1 y2_1 g2_2 l2_2 y2_2 g2_3 l2_3 y2_3).mono fun e W' ⟨he, bel⟩ => ?_
  subst he
  exact ⟨_, rfl, _, _, _, [], _, [], hW', trodAll_mk1 (shut_bool Try.underlying4 _), (trodAll_cons_mk (Below.trod laidOut (by kernel_rfl) (of_decide_eq_true (by kernel_rfl)) k0 bel lt0) (trodAll_cons_mk (shut_string Try.underlying9 y1) (trodAll_cons_mk (Below.trod laidOut (by kernel_rfl) (of_decide_eq_true (by kernel_rfl)) k2 bel lt2) trodAll_mk0))), rfl, bel.frame _, fun h => by cases h⟩
theorem over : Rows.nodeHalvesRow.holds Try.pinned (OpenSpec.ofChange Rows.nodeHalvesSpec) :=
  OpenClaim.holds_of_wide 4 Try.f4 rfl rfl rfl rfl rfl rfl rfl ⟨rfl, rfl, rfl, rfl, rfl⟩ rfl rfl rfl rfl rfl (by kernel_rfl) Try.func4 (by kernel_rfl)
    (of_decide_eq_true (by kernel_rfl)) (by unfold Func.isWrapper; first | (rw [if_pos (by decide +kernel)]; kernel_rfl) | (rw [if_neg (by decide +kernel)]; exact ⟨rfl, rfl⟩))
    (fun os started H enc _ => lifted os started H enc)
end Go.Proofs.Ytjjfeoigjhbbpaa.nodeHalves
namespace Go.Proofs.Ytjjfeoigjhbbpaa
theorem nodeHalves_holds : Rows.NodeHalvesSaid := nodeHalves.over
#print axioms nodeHalves_holds
end Go.Proofs.Ytjjfeoigjhbbpaa
-- DATUM: #[.agg #[.bool false, .slice none 0 0, .slice none 0 0, .slice none 0 0], .string ByteArray.empty, .agg #[.bool false, .slice none 0 0, .slice none 0 0, .slice none 0 0]]
