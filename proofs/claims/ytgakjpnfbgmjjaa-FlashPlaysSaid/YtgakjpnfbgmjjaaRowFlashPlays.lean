/- The law FlashPlays answers true at every input: its row, out of the walk. Laid by a program of this work. -/
import Derived.Test.YtgakjpnfbgmjjaaRows
import Derived.Test.YtgakjpnfbgmjjaaV10
import Derived.WalkKit
import Derived.ProofKit
import Derived.OpenShut
import Derived.ShutString
import Derived.ChangeOld
import Derived.Below
import Derived.SizedLaws
import Derived.Deep.Slices
import Derived.Deep.Strs
import Derived.Lib.SmallJoins
namespace Go.Proofs.Ytgakjpnfbgmjjaa.flashPlays
open Go.ChangeShapes Go.WideShapes Go.ChangeAt Go.RowKit Go.Deep
open Go.ChangeMaps (open_string shut_string)
open Go.Proofs.Ytgakjpnfbgmjjaa.PA Go.Proofs.YtgakjpnfbgmjjaaW.PrintWords Go.Proofs.YtgakjpnfbgmjjaaW.PrintLast Go.Proofs.YtgakjpnfbgmjjaaW.PrintMore
set_option linter.unusedVariables false
set_option linter.unusedSimpArgs false
theorem own : ownKnob Try.prog.godebug = none := by kernel_rfl
theorem laidOut : laidOutB Try.prog = true := by kernel_rfl
theorem he_i64 {H : Type} {enc : TypeId × Value → H} {w : World} {base : Nat} {spare : Nat → Bool} {held : Bool} {t : TypeId} (ht : Try.prog.underlying t = some (.int .i64)) (n : Nat) (cs : List Value) (y : DataW H × List MemPlace) (h : DataW.trod enc Try.prog w base spare held n t cs = some y) : ∃ v : Int, (Kd.int .i64).K w v cs ∧ ((Lit.int .i64 v).wf = true) := by
  obtain ⟨a, rfl, _, hw⟩ := DataW.trod_int ht h
  exact ⟨a, rfl, hw⟩
theorem he_sl3 {H : Type} {enc : TypeId × Value → H} {w : World} {base : Nat} {spare : Nat → Bool} {held : Bool} {t : TypeId} (ht : Try.prog.underlying t = some (.slice 3)) (n : Nat) (cs : List Value) (y : DataW H × List MemPlace) (h : DataW.trod enc Try.prog w base spare held n t cs = some y) (hq : ∀ q ∈ y.1.weights Try.prog t, q ≤ reachBytes) : ∃ v : List Int, (Kd.slice 3 (Kd.int .i64)).K w v cs ∧ ((∀ x_ ∈ v, (Lit.int .i64 x_).wf = true) ∧ v.length * 8 ≤ 140737488351232) := by
  have hsh : ∃ A len cap, cs = [.slice A len cap] := by
    rcases open_slice ht h with ⟨hcs, _⟩ | ⟨a, l, c, _, _, _, _, hcs, _⟩
    · exact ⟨_, _, _, hcs⟩
    · exact ⟨_, _, _, hcs⟩
  obtain ⟨A, len, cap, rfl⟩ := hsh
  obtain ⟨l, hl, hC, hc, hw, hb⟩ := open_rows_fit (Kd.int .i64) (fun v => (Lit.int .i64 v).wf = true) ht (by kernel_rfl) (fun n cs y h _ => he_i64 (t := 3) Try.underlying3 n cs y h) h hq
  subst hl
  rw [show Try.prog.bytesOf 3 = 8 by kernel_rfl] at hb
  exact ⟨l, ⟨A, cap, rfl, hc, hC⟩, hw, hb⟩
instance : Inhabited S44 := ⟨z44⟩
set_option maxRecDepth 100000 in
theorem he_t44 {H : Type} {enc : TypeId × Value → H} {w : World} {base : Nat} {spare : Nat → Bool} {held : Bool} (n : Nat) (cs : List Value) (y : DataW H × List MemPlace) (h : DataW.trod enc Try.prog w base spare held n 44 cs = some y) (hq : ∀ q ∈ y.1.weights Try.prog 44, q ≤ reachBytes) : ∃ v : S44, k44.K w v cs ∧ Wf44 v := by
  obtain ⟨xs, n', _, hye, hl, hlen, hf⟩ := DataW.trod_struct Try.underlying44 h
  have ec : Try.prog.cellsOf 44 = 5 := by kernel_rfl
  rw [ec] at hl
  match xs, hlen with
  | [y0, y1, y2, y3, y4], _ =>
  match cs, hl with
  | [c0, c1, c2, c3, c4], _ =>
  have e0 : Try.prog.cellsOf 3 = 1 := by kernel_rfl
  have h0 : DataW.trod enc Try.prog w base spare held n' 3 (([c0, c1, c2, c3, c4].drop 0).take (Try.prog.cellsOf 3)) = some y0 := hf 0 _ rfl
  rw [e0] at h0
  obtain ⟨v0, k0, w0⟩ := he_i64 (t := 3) Try.underlying3 _ _ _ h0
  have e1 : Try.prog.cellsOf 3 = 1 := by kernel_rfl
  have h1 : DataW.trod enc Try.prog w base spare held n' 3 (([c0, c1, c2, c3, c4].drop 1).take (Try.prog.cellsOf 3)) = some y1 := hf 1 _ rfl
  rw [e1] at h1
  obtain ⟨v1, k1, w1⟩ := he_i64 (t := 3) Try.underlying3 _ _ _ h1
  have e2 : Try.prog.cellsOf 3 = 1 := by kernel_rfl
  have h2 : DataW.trod enc Try.prog w base spare held n' 3 (([c0, c1, c2, c3, c4].drop 2).take (Try.prog.cellsOf 3)) = some y2 := hf 2 _ rfl
  rw [e2] at h2
  obtain ⟨v2, k2, w2⟩ := he_i64 (t := 3) Try.underlying3 _ _ _ h2
  have e3 : Try.prog.cellsOf 3 = 1 := by kernel_rfl
  have h3 : DataW.trod enc Try.prog w base spare held n' 3 (([c0, c1, c2, c3, c4].drop 3).take (Try.prog.cellsOf 3)) = some y3 := hf 3 _ rfl
  rw [e3] at h3
  obtain ⟨v3, k3, w3⟩ := he_i64 (t := 3) Try.underlying3 _ _ _ h3
  have e4 : Try.prog.cellsOf 22 = 1 := by kernel_rfl
  have h4 : DataW.trod enc Try.prog w base spare held n' 22 (([c0, c1, c2, c3, c4].drop 4).take (Try.prog.cellsOf 22)) = some y4 := hf 4 _ rfl
  rw [e4] at h4
  subst hye
  obtain ⟨v4, k4, w4⟩ := he_sl3 (t := 22) Try.underlying22 _ _ _ h4 (part_fits (i := 4) (xs := [y0, y1, y2, y3, y4]) (y := y4) Try.underlying44 rfl rfl rfl hq)
  exact ⟨⟨v0, v1, v2, v3, v4⟩, ⟨_, _, rfl, k0, ⟨_, _, rfl, k1, ⟨_, _, rfl, k2, ⟨_, _, rfl, k3, k4⟩⟩⟩⟩, w0, w1, w2, w3, w4⟩
set_option maxRecDepth 100000 in
theorem lifted (os : Os) (started : os.Started) (H : Type) (enc : TypeId × Value → H) :
    ReturnsInHanded {} Try.checked os 8 .any (Rows.flashPlaysSpec.pre6 enc Try.prog Try.f8 Rows.flashPlaysRow.domain false) (Rows.flashPlaysSpec.post enc Try.prog Try.f8 false true false false) := by
  refine returnsInHanded_of_change_sized (C := Try.checked) own started (by kernel_rfl) Try.func8
    (ChangeSpec.witness6 (enc := enc) (C := Try.checked) false ⟨#[], #[.int .i64 0, .slice none 0 0], []⟩ 8 (by kernel_rfl) (by kernel_rfl) (by kernel_rfl) (by kernel_rfl)) ?_
  intro W base args ds gs before hval0 hW hcnd hsz0 _
  have hsz : (DataW.weightsEach Try.prog (Try.f8.params.toList ++ Rows.flashPlaysSpec.plain.varTypes Try.prog) (ds ++ gs)).all (· ≤ reachBytes) = true := hsz0
  have hval : ∀ (j : Nat) t v, Try.f8.params[j]? = some t → args[j]? = some v → Value.okWide Try.prog W .any base t v := hval0
  have hW' := hW
  obtain ⟨p, q, hA0, hV, rfl, hfz, hnd⟩ := hW
  have hA : DataW.TrodAll enc Try.prog W 0 (fun _ => true) true Try.f8.params.toList args.toList ds p := hA0
  rw [Try.params8] at hA hval hsz
  obtain ⟨v0, vs0, d0, ds0, p0, q0, hargs, rfl, rfl, h0, r0⟩ := trodAll_cons hA
  obtain ⟨v1, vs1, d1, ds1, p1, q1, rfl, rfl, rfl, h1, r1⟩ := trodAll_cons r0
  obtain ⟨rfl, rfl, rfl⟩ := trodAll_nil r1
  obtain rfl : args = #[v0, v1] := by cases args; simp_all
  obtain ⟨rfl, rfl⟩ := trodVars_none hV
  obtain ⟨a0, rfl, rfl, rfl, w0⟩ := open_int Try.underlying3 (hval 0 3 v0 rfl rfl) h0
  obtain ⟨a1, len1, cap1, rfl⟩ := okWide_slice Try.underlying42 (hval 1 42 v1 rfl rfl)
  have k1 := h1
  have lt1 : ∀ x ∈ p1, x.block < W.heap.size := by obtain ⟨m, hm⟩ := k1; exact DataW.trod_lt m _ _ _ hm
  have y1 := open_rows_sized hsz (j := 1) (t := 42) rfl rfl Try.underlying42 (B := 56) (by kernel_rfl) h1
  obtain ⟨fu1, hf1⟩ := h1
  obtain ⟨l1, rfl, hr1, hc1, w1, _⟩ := open_rows_fit k44 Wf44 Try.underlying42 (by kernel_rfl) (fun n cs y h hq => he_t44 n cs y h hq) (by simpa [Value.cells] using hf1) (fun q hh => by simpa using List.all_eq_true.1 hsz q (DataW.weights_mem_each (j := 1) (t := 42) rfl rfl q hh))
  clear hA0 hval0 hsz0 hsz
  refine (cisternlaw01_FlashPlays.walk a0 a1 cap1 l1 W w0 hr1 hc1 y1 w1).mono fun e W' ⟨he, bel⟩ => ?_
  subst he
  exact ⟨_, rfl, _, _, _, [], _, [], hW', trodAll_mk1 (shut_bool Try.underlying4 _), (trodAll_cons_mk (shut_int Try.underlying3 w0) (trodAll_cons_mk (Below.trod laidOut (by kernel_rfl) (of_decide_eq_true (by kernel_rfl)) k1 bel lt1) trodAll_mk0)), rfl, bel.frame _, fun h => by cases h⟩
theorem over : Rows.flashPlaysRow.holds Try.pinned (OpenSpec.ofChange Rows.flashPlaysSpec) :=
  OpenClaim.holds_of_wide 8 Try.f8 rfl rfl rfl rfl rfl rfl rfl ⟨rfl, rfl, rfl, rfl, rfl⟩ rfl rfl rfl rfl rfl (by kernel_rfl) Try.func8 (by kernel_rfl)
    (of_decide_eq_true (by kernel_rfl)) (by unfold Func.isWrapper; first | (rw [if_pos (by decide +kernel)]; kernel_rfl) | (rw [if_neg (by decide +kernel)]; exact ⟨rfl, rfl⟩))
    (fun os started H enc _ => lifted os started H enc)
end Go.Proofs.Ytgakjpnfbgmjjaa.flashPlays
namespace Go.Proofs.Ytgakjpnfbgmjjaa
theorem flashPlays_holds : Rows.FlashPlaysSaid := flashPlays.over
#print axioms flashPlays_holds
end Go.Proofs.Ytgakjpnfbgmjjaa