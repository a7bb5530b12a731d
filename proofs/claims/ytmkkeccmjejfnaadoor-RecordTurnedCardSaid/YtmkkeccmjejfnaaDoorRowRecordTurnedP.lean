/- The law RecordTurned answers true at every input: its row, out of the walk. Laid by a program of this work. -/
import Derived.Test.YtmkkeccmjejfnaaDoorQRest5
import Derived.Test.YtmkkeccmjejfnaaDoorCards
import Derived.Test.YtmkkeccmjejfnaaDoorTie
import Derived.WalkKit
import Derived.Deep.DeepHandedRow
import Derived.Lay
import Derived.Lib.LaidTab
import Derived.ProofKit
import Derived.OpenShut
import Derived.ShutString
import Derived.ChangeOld
import Derived.Below
import Derived.SizedLaws
import Derived.Deep.Slices
import Derived.Deep.Strs
import Derived.Lib.SmallJoins
namespace Go.Proofs.YtmkkeccmjejfnaaDoor.recordTurned
open Go.ChangeShapes Go.WideShapes Go.ChangeAt Go.RowKit Go.Deep
open Go.ChangeMaps (open_string shut_string)
open Go.Proofs.YtmkkeccmjejfnaaDoor.PA Go.Proofs.YtmkkeccmjejfnaaDoorW.PrintWords Go.Proofs.YtmkkeccmjejfnaaDoorW.PrintLast Go.Proofs.YtmkkeccmjejfnaaDoorW.PrintMore
set_option linter.unusedVariables false
set_option linter.unusedSimpArgs false
theorem own : ownKnob Tryd.prog.godebug = none := by kernel_rfl
theorem laidOut : laidOutB Tryd.prog = true := by kernel_rfl
theorem he_i64 {H : Type} {enc : TypeId × Value → H} {w : World} {base : Nat} {spare : Nat → Bool} {held : Bool} {t : TypeId} (ht : Tryd.prog.underlying t = some (.int .i64)) (n : Nat) (cs : List Value) (y : DataW H × List MemPlace) (h : DataW.trod enc Tryd.prog w base spare held n t cs = some y) : ∃ v : Int, (Kd.int .i64).K w v cs ∧ ((Lit.int .i64 v).wf = true) := by
  obtain ⟨a, rfl, _, hw⟩ := DataW.trod_int ht h
  exact ⟨a, rfl, hw⟩
theorem he_s {H : Type} {enc : TypeId × Value → H} {w : World} {base : Nat} {spare : Nat → Bool} {held : Bool} {t : TypeId} (ht : Tryd.prog.underlying t = some .string) (n : Nat) (cs : List Value) (y : DataW H × List MemPlace) (h : DataW.trod enc Tryd.prog w base spare held n t cs = some y) : ∃ v : ByteArray, Kd.string.K w v cs ∧ (v.size ≤ maxLen) := by
  obtain ⟨a, rfl, _, hw⟩ := DataW.trod_string ht h
  exact ⟨a, rfl, hw⟩
instance : Inhabited S25 := ⟨z25⟩
set_option maxRecDepth 100000 in
theorem he_t25 {H : Type} {enc : TypeId × Value → H} {w : World} {base : Nat} {spare : Nat → Bool} {held : Bool} (n : Nat) (cs : List Value) (y : DataW H × List MemPlace) (h : DataW.trod enc Tryd.prog w base spare held n 25 cs = some y) : ∃ v : S25, k25.K w v cs ∧ (((Lit.int .i64 v.f0).wf = true) ∧ ((Lit.int .i64 v.f1).wf = true) ∧ ((Lit.int .i64 v.f2).wf = true) ∧ ((Lit.int .i64 v.f3).wf = true) ∧ ((Lit.int .i64 v.f4).wf = true) ∧ ((Lit.int .i64 v.f5).wf = true) ∧ ((Lit.int .i64 v.f6).wf = true) ∧ (v.f7.size ≤ maxLen)) := by
  obtain ⟨xs, n', _, _, hl, hlen, hf⟩ := DataW.trod_struct Tryd.underlying25 h
  have ec : Tryd.prog.cellsOf 25 = 8 := by kernel_rfl
  rw [ec] at hl
  match xs, hlen with
  | [y0, y1, y2, y3, y4, y5, y6, y7], _ =>
  match cs, hl with
  | [c0, c1, c2, c3, c4, c5, c6, c7], _ =>
  have e0 : Tryd.prog.cellsOf 3 = 1 := by kernel_rfl
  have h0 : DataW.trod enc Tryd.prog w base spare held n' 3 (([c0, c1, c2, c3, c4, c5, c6, c7].drop 0).take (Tryd.prog.cellsOf 3)) = some y0 := hf 0 _ rfl
  rw [e0] at h0
  obtain ⟨v0, k0, w0⟩ := he_i64 (t := 3) Tryd.underlying3 _ _ _ h0
  have e1 : Tryd.prog.cellsOf 3 = 1 := by kernel_rfl
  have h1 : DataW.trod enc Tryd.prog w base spare held n' 3 (([c0, c1, c2, c3, c4, c5, c6, c7].drop 1).take (Tryd.prog.cellsOf 3)) = some y1 := hf 1 _ rfl
  rw [e1] at h1
  obtain ⟨v1, k1, w1⟩ := he_i64 (t := 3) Tryd.underlying3 _ _ _ h1
  have e2 : Tryd.prog.cellsOf 3 = 1 := by kernel_rfl
  have h2 : DataW.trod enc Tryd.prog w base spare held n' 3 (([c0, c1, c2, c3, c4, c5, c6, c7].drop 2).take (Tryd.prog.cellsOf 3)) = some y2 := hf 2 _ rfl
  rw [e2] at h2
  obtain ⟨v2, k2, w2⟩ := he_i64 (t := 3) Tryd.underlying3 _ _ _ h2
  have e3 : Tryd.prog.cellsOf 3 = 1 := by kernel_rfl
  have h3 : DataW.trod enc Tryd.prog w base spare held n' 3 (([c0, c1, c2, c3, c4, c5, c6, c7].drop 3).take (Tryd.prog.cellsOf 3)) = some y3 := hf 3 _ rfl
  rw [e3] at h3
  obtain ⟨v3, k3, w3⟩ := he_i64 (t := 3) Tryd.underlying3 _ _ _ h3
  have e4 : Tryd.prog.cellsOf 3 = 1 := by kernel_rfl
  have h4 : DataW.trod enc Tryd.prog w base spare held n' 3 (([c0, c1, c2, c3, c4, c5, c6, c7].drop 4).take (Tryd.prog.cellsOf 3)) = some y4 := hf 4 _ rfl
  rw [e4] at h4
  obtain ⟨v4, k4, w4⟩ := he_i64 (t := 3) Tryd.underlying3 _ _ _ h4
  have e5 : Tryd.prog.cellsOf 3 = 1 := by kernel_rfl
  have h5 : DataW.trod enc Tryd.prog w base spare held n' 3 (([c0, c1, c2, c3, c4, c5, c6, c7].drop 5).take (Tryd.prog.cellsOf 3)) = some y5 := hf 5 _ rfl
  rw [e5] at h5
  obtain ⟨v5, k5, w5⟩ := he_i64 (t := 3) Tryd.underlying3 _ _ _ h5
  have e6 : Tryd.prog.cellsOf 3 = 1 := by kernel_rfl
  have h6 : DataW.trod enc Tryd.prog w base spare held n' 3 (([c0, c1, c2, c3, c4, c5, c6, c7].drop 6).take (Tryd.prog.cellsOf 3)) = some y6 := hf 6 _ rfl
  rw [e6] at h6
  obtain ⟨v6, k6, w6⟩ := he_i64 (t := 3) Tryd.underlying3 _ _ _ h6
  have e7 : Tryd.prog.cellsOf 9 = 1 := by kernel_rfl
  have h7 : DataW.trod enc Tryd.prog w base spare held n' 9 (([c0, c1, c2, c3, c4, c5, c6, c7].drop 7).take (Tryd.prog.cellsOf 9)) = some y7 := hf 7 _ rfl
  rw [e7] at h7
  obtain ⟨v7, k7, w7⟩ := he_s (t := 9) Tryd.underlying9 _ _ _ h7
  exact ⟨⟨v0, v1, v2, v3, v4, v5, v6, v7⟩, ⟨_, _, rfl, k0, ⟨_, _, rfl, k1, ⟨_, _, rfl, k2, ⟨_, _, rfl, k3, ⟨_, _, rfl, k4, ⟨_, _, rfl, k5, ⟨_, _, rfl, k6, k7⟩⟩⟩⟩⟩⟩⟩, w0, w1, w2, w3, w4, w5, w6, w7⟩
instance : Inhabited S65 := ⟨z65⟩
set_option maxRecDepth 100000 in
theorem he_t65 {H : Type} {enc : TypeId × Value → H} {w : World} {base : Nat} {spare : Nat → Bool} {held : Bool} (n : Nat) (cs : List Value) (y : DataW H × List MemPlace) (h : DataW.trod enc Tryd.prog w base spare held n 65 cs = some y) : ∃ v : S65, k65.K w v cs ∧ ((v.f0.size ≤ maxLen) ∧ (v.f1.size ≤ maxLen)) := by
  obtain ⟨xs, n', _, _, hl, hlen, hf⟩ := DataW.trod_struct Tryd.underlying65 h
  have ec : Tryd.prog.cellsOf 65 = 2 := by kernel_rfl
  rw [ec] at hl
  match xs, hlen with
  | [y0, y1], _ =>
  match cs, hl with
  | [c0, c1], _ =>
  have e0 : Tryd.prog.cellsOf 9 = 1 := by kernel_rfl
  have h0 : DataW.trod enc Tryd.prog w base spare held n' 9 (([c0, c1].drop 0).take (Tryd.prog.cellsOf 9)) = some y0 := hf 0 _ rfl
  rw [e0] at h0
  obtain ⟨v0, k0, w0⟩ := he_s (t := 9) Tryd.underlying9 _ _ _ h0
  have e1 : Tryd.prog.cellsOf 9 = 1 := by kernel_rfl
  have h1 : DataW.trod enc Tryd.prog w base spare held n' 9 (([c0, c1].drop 1).take (Tryd.prog.cellsOf 9)) = some y1 := hf 1 _ rfl
  rw [e1] at h1
  obtain ⟨v1, k1, w1⟩ := he_s (t := 9) Tryd.underlying9 _ _ _ h1
  exact ⟨⟨v0, v1⟩, ⟨_, _, rfl, k0, k1⟩, w0, w1⟩
theorem laid_met (os : Os) : laidMet Tryd.prog Rows.recordTurnedRow.laid ((World.laidAll Tryd.prog os Rows.recordTurnedRow.laid).forCall (fun _ _ => 0) ⟨#[], #[.agg #[.int .i64 0, .int .i64 0, .int .i64 0, .int .i64 0, .int .i64 0, .int .i64 0, .int .i64 0, .string ByteArray.empty], .slice none 0 0, .int .i64 0], []⟩).memory :=
  laidMet_laidAll _ (by kernel_rfl) (by kernel_rfl)
set_option maxRecDepth 100000 in
theorem reads (os : Os) {H : Type} (enc : TypeId × Value → H) : ∃ places, DataW.whole enc Tryd.prog ((World.laidAll Tryd.prog os Rows.recordTurnedRow.laid).forCall (fun _ _ => 0) ⟨#[], #[.agg #[.int .i64 0, .int .i64 0, .int .i64 0, .int .i64 0, .int .i64 0, .int .i64 0, .int .i64 0, .string ByteArray.empty], .slice none 0 0, .int .i64 0], []⟩).memory Tryd.f6.params.toList Rows.recordTurnedSpec.vars false (#[.agg #[.int .i64 0, .int .i64 0, .int .i64 0, .int .i64 0, .int .i64 0, .int .i64 0, .int .i64 0, .string ByteArray.empty], .slice none 0 0, .int .i64 0] : Array Value).toList 8 = some ([.agg [.lit (.int .i64 0), .lit (.int .i64 0), .lit (.int .i64 0), .lit (.int .i64 0), .lit (.int .i64 0), .lit (.int .i64 0), .lit (.int .i64 0), .lit (.string [])], .nil, .lit (.int .i64 0)], [], places) :=
  ⟨[], by kernel_rfl⟩
set_option maxRecDepth 100000 in
theorem lifted (os : Os) (started : os.Started) (H : Type) (enc : TypeId × Value → H) (F : Stop.Interp) :
    ReturnsInHanded {} Tryd.checked os 6 .any ((OpenSpec.ofChange Rows.recordTurnedSpec).preRow enc Tryd.prog Tryd.f6 Rows.recordTurnedRow.domain false Rows.recordTurnedRow.laid) (((OpenSpec.ofChange Rows.recordTurnedSpec).at F).post enc Tryd.prog Tryd.f6 false true false false) := by
  obtain ⟨places, hx⟩ := reads os enc
  refine returnsInHanded_of_row (C := Tryd.checked) (s := OpenSpec.ofChange Rows.recordTurnedSpec) own started (by kernel_rfl) Tryd.func6
    (witness_row_at (enc := enc) (C := Tryd.checked) false (World.laidAll Tryd.prog os Rows.recordTurnedRow.laid) #[.agg #[.int .i64 0, .int .i64 0, .int .i64 0, .int .i64 0, .int .i64 0, .int .i64 0, .int .i64 0, .string ByteArray.empty], .slice none 0 0, .int .i64 0] (World.laidAll_os _ _ _) (by kernel_rfl) (by kernel_rfl) (by kernel_rfl)
      (OpenSpec.preRow_of_cond 8 hx (by kernel_rfl) (fun k hk => by cases hk) (by kernel_rfl) (laid_met os))) ?_
  intro W base args ds gs before hval0 hW hcnd _ hsz0 _ _ _
  have hsz : (DataW.weightsEach Tryd.prog (Tryd.f6.params.toList ++ Rows.recordTurnedSpec.plain.varTypes Tryd.prog) (ds ++ gs)).all (· ≤ reachBytes) = true := hsz0
  have hval : ∀ (j : Nat) t v, Tryd.f6.params[j]? = some t → args[j]? = some v → Value.okWide Tryd.prog W .any base t v := hval0
  have hW' := hW
  obtain ⟨p, q, hA0, hV, rfl, hfz, hnd⟩ := hW
  have hA : DataW.TrodAll enc Tryd.prog W 0 (fun _ => true) true Tryd.f6.params.toList args.toList ds p := hA0
  rw [Tryd.params6] at hA hval hsz
  obtain ⟨v0, vs0, d0, ds0, p0, q0, hargs, rfl, rfl, h0, r0⟩ := trodAll_cons hA
  obtain ⟨v1, vs1, d1, ds1, p1, q1, rfl, rfl, rfl, h1, r1⟩ := trodAll_cons r0
  obtain ⟨v2, vs2, d2, ds2, p2, q2, rfl, rfl, rfl, h2, r2⟩ := trodAll_cons r1
  obtain ⟨rfl, rfl, rfl⟩ := trodAll_nil r2
  obtain rfl : args = #[v0, v1, v2] := by cases args; simp_all
  obtain ⟨rfl, rfl⟩ := trodVars_none hV
  obtain ⟨cs0, rfl, hsz0⟩ := okWide_struct Tryd.underlying25 (hval 0 25 v0 rfl rfl)
  have k0 := h0
  have lt0 : ∀ x ∈ p0, x.block < W.heap.size := by obtain ⟨m, hm⟩ := k0; exact DataW.trod_lt m _ _ _ hm
  obtain ⟨fu0, hf0⟩ := h0
  obtain ⟨x0, hk0, w0⟩ := he_t25 _ _ _ (by simpa [Value.cells] using hf0)
  obtain rfl : cs0 = #[.int .i64 x0.f0, .int .i64 x0.f1, .int .i64 x0.f2, .int .i64 x0.f3, .int .i64 x0.f4, .int .i64 x0.f5, .int .i64 x0.f6, .string x0.f7] := by rw [← Array.toList_inj]; exact k25_open hk0
  obtain ⟨a1, len1, cap1, rfl⟩ := okWide_slice Tryd.underlying54 (hval 1 54 v1 rfl rfl)
  have k1 := h1
  have lt1 : ∀ x ∈ p1, x.block < W.heap.size := by obtain ⟨m, hm⟩ := k1; exact DataW.trod_lt m _ _ _ hm
  have y1 := open_rows_sized hsz (j := 1) (t := 54) rfl rfl Tryd.underlying54 (B := 32) (by kernel_rfl) h1
  obtain ⟨fu1, hf1⟩ := h1
  obtain ⟨l1, rfl, hr1, hc1, w1⟩ := open_rows k65 (fun v => (v.f0.size ≤ maxLen) ∧ (v.f1.size ≤ maxLen)) Tryd.underlying54 (by kernel_rfl) (fun n cs y h => he_t65 n cs y h) (by simpa [Value.cells] using hf1)
  obtain ⟨a2, rfl, rfl, rfl, w2⟩ := open_int Tryd.underlying3 (hval 2 3 v2 rfl rfl) h2
  clear hA0 hval0 hsz0 hsz
  refine (cisternlaw07_RecordTurned.walk x0.f0 x0.f1 x0.f2 x0.f3 x0.f4 x0.f5 x0.f6 x0.f7 a1 cap1 l1 a2 W w0 hr1 hc1 y1 w1 w2).mono fun e W' ⟨he, bel⟩ => ?_
  subst he
  exact ⟨_, rfl, _, _, _, [], _, [], hW', trodAll_mk1 (shut_bool Tryd.underlying4 _), (trodAll_cons_mk (Below.trod laidOut (by kernel_rfl) (of_decide_eq_true (by kernel_rfl)) k0 bel lt0) (trodAll_cons_mk (Below.trod laidOut (by kernel_rfl) (of_decide_eq_true (by kernel_rfl)) k1 bel lt1) (trodAll_cons_mk (shut_int Tryd.underlying3 w2) trodAll_mk0))), rfl, bel.frame _, fun h => by cases h⟩
theorem said : Rows.RecordTurnedSaid :=
  OpenClaim.holds_of_cond 6 Tryd.f6 rfl rfl rfl rfl rfl rfl rfl ⟨rfl, rfl, rfl, rfl, rfl⟩ rfl rfl rfl rfl rfl (by kernel_rfl) Tryd.func6 (by kernel_rfl)
    (of_decide_eq_true (by kernel_rfl)) (by unfold Func.isWrapper; first | (rw [if_pos (by decide +kernel)]; kernel_rfl) | (rw [if_neg (by decide +kernel)]; exact ⟨rfl, rfl⟩))
    (fun os started H enc _ F => by rw [OpenClaim.pre_eq_preRow]; exact lifted os started H enc F)
theorem plain (f : FuncId) (fn : Func) (hf : Tryd.pinned.checked.prog.funcNamed "cistern/cisternlaw07.RecordTurned" = some f) (hfn : Tryd.pinned.checked.prog.funcs[f]? = some fn) :
    false = Tryd.pinned.checked.prog.looks [] ∧ ∀ (j : Nat) t, fn.params[j]? = some t → Tryd.pinned.checked.prog.wantsStandIn t = false := by
  obtain rfl : f = 6 := Option.some.inj ((show Tryd.prog.funcNamed "cistern/cisternlaw07.RecordTurned" = some 6 by kernel_rfl).symm.trans hf) |>.symm
  obtain rfl : fn = Tryd.f6 := (Option.some.inj (Tryd.func6.symm.trans hfn)).symm
  refine ⟨by kernel_rfl, fun j t ht => ?_⟩
  rw [Tryd.params6] at ht
  have hm := Array.mem_of_getElem? ht
  have hq : t = 25 ∨ t = 54 ∨ t = 3 := by simpa using hm
  rcases hq with rfl | rfl | rfl
  · exact (show Tryd.prog.wantsStandIn 25 = false by kernel_rfl)
  · exact (show Tryd.prog.wantsStandIn 54 = false by kernel_rfl)
  · exact (show Tryd.prog.wantsStandIn 3 = false by kernel_rfl)
theorem card : Rows.RecordTurnedCardSaid :=
  Claim7.holds_tied_plain_at .later [] _ _ _ _ said (fun _ h => by cases h) (by kernel_rfl) (fun _ h => by cases h) recordTurned_row_tie rfl ⟨rfl, rfl⟩ (by kernel_rfl) rfl plain (by kernel_rfl)
end Go.Proofs.YtmkkeccmjejfnaaDoor.recordTurned
namespace Go.Proofs.YtmkkeccmjejfnaaDoor
theorem recordTurned_holds : Rows.RecordTurnedCardSaid := recordTurned.card
#print axioms recordTurned_holds
end Go.Proofs.YtmkkeccmjejfnaaDoor