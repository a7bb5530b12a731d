/- The law RecordBack answers true at every input: its row, out of the walk. Laid by a program of this work. -/
import Derived.Test.YtmkkeccmjejfnaaDoorQBack5
import Derived.Test.YtmkkeccmjejfnaaDoorCards
import Derived.Test.YtmkkeccmjejfnaaDoorTie
import Derived.WalkKit
import Derived.Deep.DeepHandedRow
import Derived.Lay
import Derived.Lib.LaidTab
import Derived.ProofKit
import Derived.OpenShut
import Derived.ShutString
import Derived.ChangeOld
import Derived.Below
import Derived.SizedLaws
import Derived.Deep.Slices
import Derived.Deep.Strs
import Derived.Lib.SmallJoins
namespace Go.Proofs.YtmkkeccmjejfnaaDoor.recordBack
open Go.ChangeShapes Go.WideShapes Go.ChangeAt Go.RowKit Go.Deep
open Go.ChangeMaps (open_string shut_string)
open Go.Proofs.YtmkkeccmjejfnaaDoor.PA Go.Proofs.YtmkkeccmjejfnaaDoorW.PrintWords Go.Proofs.YtmkkeccmjejfnaaDoorW.PrintLast Go.Proofs.YtmkkeccmjejfnaaDoorW.PrintMore
set_option linter.unusedVariables false
set_option linter.unusedSimpArgs false
theorem own : ownKnob Tryd.prog.godebug = none := by kernel_rfl
theorem laidOut : laidOutB Tryd.prog = true := by kernel_rfl
theorem he_i64 {H : Type} {enc : TypeId × Value → H} {w : World} {base : Nat} {spare : Nat → Bool} {held : Bool} {t : TypeId} (ht : Tryd.prog.underlying t = some (.int .i64)) (n : Nat) (cs : List Value) (y : DataW H × List MemPlace) (h : DataW.trod enc Tryd.prog w base spare held n t cs = some y) : ∃ v : Int, (Kd.int .i64).K w v cs ∧ ((Lit.int .i64 v).wf = true) := by
  obtain ⟨a, rfl, _, hw⟩ := DataW.trod_int ht h
  exact ⟨a, rfl, hw⟩
theorem he_s {H : Type} {enc : TypeId × Value → H} {w : World} {base : Nat} {spare : Nat → Bool} {held : Bool} {t : TypeId} (ht : Tryd.prog.underlying t = some .string) (n : Nat) (cs : List Value) (y : DataW H × List MemPlace) (h : DataW.trod enc Tryd.prog w base spare held n t cs = some y) : ∃ v : ByteArray, Kd.string.K w v cs ∧ (v.size ≤ maxLen) := by
  obtain ⟨a, rfl, _, hw⟩ := DataW.trod_string ht h
  exact ⟨a, rfl, hw⟩
instance : Inhabited S25 := ⟨z25⟩
set_option maxRecDepth 100000 in
theorem he_t25 {H : Type} {enc : TypeId × Value → H} {w : World} {base : Nat} {spare : Nat → Bool} {held : Bool} (n : Nat) (cs : List Value) (y : DataW H × List MemPlace) (h : DataW.trod enc Tryd.prog w base spare held n 25 cs = some y) : ∃ v : S25, k25.K w v cs ∧ (((Lit.int .i64 v.f0).wf = true) ∧ ((Lit.int .i64 v.f1).wf = true) ∧ ((Lit.int .i64 v.f2).wf = true) ∧ ((Lit.int .i64 v.f3).wf = true) ∧ ((Lit.int .i64 v.f4).wf = true) ∧ ((Lit.int .i64 v.f5).wf = true) ∧ ((Lit.int .i64 v.f6).wf = true) ∧ (v.f7.size ≤ maxLen)) := by
  obtain ⟨xs, n', _, _, hl, hlen, hf⟩ := DataW.trod_struct Tryd.underlying25 h
  have ec : Tryd.prog.cellsOf 25 = 8 := by kernel_rfl
  rw [ec] at hl
  match xs, hlen with
  | [y0, y1, y2, y3, y4, y5, y6, y7], _ =>
  match cs, hl with
  | [c0, c1, c2, c3, c4, c5, c6, c7], _ =>
  have e0 : Tryd.prog.cellsOf 3 = 1 := by kernel_rfl
  have h0 : DataW.trod enc Tryd.prog w base spare held n' 3 (([c0, c1, c2, c3, c4, c5, c6, c7].drop 0).take (Tryd.prog.cellsOf 3)) = some y0 := hf 0 _ rfl
  rw [e0] at h0
  obtain ⟨v0, k0, w0⟩ := he_i64 (t := 3) Tryd.underlying3 _ _ _ h0
  have e1 : Tryd.prog.cellsOf 3 = 1 := by kernel_rfl
  have h1 : DataW.trod enc Tryd.prog w base spare held n' 3 (([c0, c1, c2, c3, c4, c5, c6, c7].drop 1).take (Tryd.prog.cellsOf 3)) = some y1 := hf 1 _ rfl
  rw [e1] at h1
  obtain ⟨v1, k1, w1⟩ := he_i64 (t := 3) Tryd.underlying3 _ _ _ h1
  have e2 : Tryd.prog.cellsOf 3 = 1 := by kernel_rfl
  have h2 : DataW.trod enc Tryd.prog w base spare held n' 3 (([c0, c1, c2, c3, c4, c5, c6, c7].drop 2).take (Tryd.prog.cellsOf 3)) = some y2 := hf 2 _ rfl
  rw [e2] at h2
  obtain ⟨v2, k2, w2⟩ := he_i64 (t := 3) Tryd.underlying3 _ _ _ h2
  have e3 : Tryd.prog.cellsOf 3 = 1 := by kernel_rfl
  have h3 : DataW.trod enc Tryd.prog w base spare held n' 3 (([c0, c1, c2, c3, c4, c5, c6, c7].drop 3).take (Tryd.prog.cellsOf 3)) = some y3 := hf 3 _ rfl
  rw [e3] at h3
  obtain ⟨v3, k3, w3⟩ := he_i64 (t := 3) Tryd.underlying3 _ _ _ h3
  have e4 : Tryd.prog.cellsOf 3 = 1 := by kernel_rfl
  have h4 : DataW.trod enc Tryd.prog w base spare held n' 3 (([c0, c1, c2, c3, c4, c5, c6, c7].drop 4).take (Tryd.prog.cellsOf 3)) = some y4 := hf 4 _ rfl
  rw [e4] at h4
  obtain ⟨v4, k4, w4⟩ := he_i64 (t := 3) Tryd.underlying3 _ _ _ h4
  have e5 : Tryd.prog.cellsOf 3 = 1 := by kernel_rfl
  have h5 : DataW.trod enc Tryd.prog w base spare held n' 3 (([c0, c1, c2, c3, c4, c5, c6, c7].drop 5).take (Tryd.prog.cellsOf 3)) = some y5 := hf 5 _ rfl
  rw [e5] at h5
  obtain ⟨v5, k5, w5⟩ := he_i64 (t := 3) Tryd.underlying3 _ _ _ h5
  have e6 : Tryd.prog.cellsOf 3 = 1 := by kernel_rfl
  have h6 : DataW.trod enc Tryd.prog w base spare held n' 3 (([c0, c1, c2, c3, c4, c5, c6, c7].drop 6).take (Tryd.prog.cellsOf 3)) = some y6 := hf 6 _ rfl
  rw [e6] at h6
  obtain ⟨v6, k6, w6⟩ := he_i64 (t := 3) Tryd.underlying3 _ _ _ h6
  have e7 : Tryd.prog.cellsOf 9 = 1 := by kernel_rfl
  have h7 : DataW.trod enc Tryd.prog w base spare held n' 9 (([c0, c1, c2, c3, c4, c5, c6, c7].drop 7).take (Tryd.prog.cellsOf 9)) = some y7 := hf 7 _ rfl
  rw [e7] at h7
  obtain ⟨v7, k7, w7⟩ := he_s (t := 9) Tryd.underlying9 _ _ _ h7
  exact ⟨⟨v0, v1, v2, v3, v4, v5, v6, v7⟩, ⟨_, _, rfl, k0, ⟨_, _, rfl, k1, ⟨_, _, rfl, k2, ⟨_, _, rfl, k3, ⟨_, _, rfl, k4, ⟨_, _, rfl, k5, ⟨_, _, rfl, k6, k7⟩⟩⟩⟩⟩⟩⟩, w0, w1, w2, w3, w4, w5, w6, w7⟩
instance : Inhabited S65 := ⟨z65⟩
set_option maxRecDepth 100000 in
theorem he_t65 {H : Type} {enc : TypeId × Value → H} {w : World} {base : Nat} {spare : Nat → Bool} {held : Bool} (n : Nat) (cs : List Value) (y : DataW H × List MemPlace) (h : DataW.trod enc Tryd.prog w base spare held n 65 cs = some y) : ∃ v : S65, k65.K w v cs ∧ ((v.f0.size ≤ maxLen) ∧ (v.f1.size ≤ maxLen)) := by
  obtain ⟨xs, n', _, _, hl, hlen, hf⟩ := DataW.trod_struct Tryd.underlying65 h
  have ec : Tryd.prog.cellsOf 65 = 2 := by kernel_rfl
  rw [ec] at hl
  match xs, hlen with
  | [y0, y1], _ =>
  match cs, hl with
  | [c0, c1], _ =>
  have e0 : Tryd.prog.cellsOf 9 = 1 := by kernel_rfl
  have h0 : DataW.trod enc Tryd.prog w base spare held n' 9 (([c0, c1].drop 0).take (Tryd.prog.cellsOf 9)) = some y0 := hf 0 _ rfl
  rw [e0] at h0
  obtain ⟨v0, k0, w0⟩ := he_s (t := 9) Tryd.underlying9 _ _ _ h0
  have e1 : Tryd.prog.cellsOf 9 = 1 := by kernel_rfl
  have h1 : DataW.trod enc Tryd.prog w base spare held n' 9 (([c0, c1].drop 1).take (Tryd.prog.cellsOf 9)) = some y1 := hf 1 _ rfl
  rw [e1] at h1
  obtain ⟨v1, k1, w1⟩ := he_s (t := 9) Tryd.underlying9 _ _ _ h1
  exact ⟨⟨v0, v1⟩, ⟨_, _, rfl, k0, k1⟩, w0, w1⟩
theorem he_sl65 {H : Type} {enc : TypeId × Value → H} {w : World} {base : Nat} {spare : Nat → Bool} {held : Bool} {t : TypeId} (ht : Tryd.prog.underlying t = some (.slice 65)) (n : Nat) (cs : List Value) (y : DataW H × List MemPlace) (h : DataW.trod enc Tryd.prog w base spare held n t cs = some y) : ∃ v : List S65, (Kd.slice 65 k65).K w v cs ∧ (∀ x_ ∈ v, (x_.f0.size ≤ maxLen) ∧ (x_.f1.size ≤ maxLen)) := by
  have hsh : ∃ A len cap, cs = [.slice A len cap] := by
    rcases open_slice ht h with ⟨hcs, _⟩ | ⟨a, l, c, _, _, _, _, hcs, _⟩
    · exact ⟨_, _, _, hcs⟩
    · exact ⟨_, _, _, hcs⟩
  obtain ⟨A, len, cap, rfl⟩ := hsh
  obtain ⟨l, hl, hC, hc, hw⟩ := open_rows k65 (fun v => (v.f0.size ≤ maxLen) ∧ (v.f1.size ≤ maxLen)) ht (by kernel_rfl) (fun n cs y h => he_t65 n cs y h) h
  subst hl
  exact ⟨l, ⟨A, cap, rfl, hc, hC⟩, hw⟩
theorem he_u8 {H : Type} {enc : TypeId × Value → H} {w : World} {base : Nat} {spare : Nat → Bool} {held : Bool} {t : TypeId} (ht : Tryd.prog.underlying t = some (.int .u8)) (n : Nat) (cs : List Value) (y : DataW H × List MemPlace) (h : DataW.trod enc Tryd.prog w base spare held n t cs = some y) : ∃ v : Int, (Kd.int .u8).K w v cs ∧ ((Lit.int .u8 v).wf = true) := by
  obtain ⟨a, rfl, _, hw⟩ := DataW.trod_int ht h
  exact ⟨a, rfl, hw⟩
theorem he_sl5 {H : Type} {enc : TypeId × Value → H} {w : World} {base : Nat} {spare : Nat → Bool} {held : Bool} {t : TypeId} (ht : Tryd.prog.underlying t = some (.slice 5)) (n : Nat) (cs : List Value) (y : DataW H × List MemPlace) (h : DataW.trod enc Tryd.prog w base spare held n t cs = some y) : ∃ v : List Int, (Kd.slice 5 (Kd.int .u8)).K w v cs ∧ (∀ x_ ∈ v, (Lit.int .u8 x_).wf = true) := by
  have hsh : ∃ A len cap, cs = [.slice A len cap] := by
    rcases open_slice ht h with ⟨hcs, _⟩ | ⟨a, l, c, _, _, _, _, hcs, _⟩
    · exact ⟨_, _, _, hcs⟩
    · exact ⟨_, _, _, hcs⟩
  obtain ⟨A, len, cap, rfl⟩ := hsh
  obtain ⟨l, hl, hC, hc, hw⟩ := open_rows (Kd.int .u8) (fun v => (Lit.int .u8 v).wf = true) ht (by kernel_rfl) (fun n cs y h => he_u8 (t := 5) Tryd.underlying5 n cs y h) h
  subst hl
  exact ⟨l, ⟨A, cap, rfl, hc, hC⟩, hw⟩
instance : Inhabited S69 := ⟨z69⟩
set_option maxRecDepth 100000 in
theorem he_t69 {H : Type} {enc : TypeId × Value → H} {w : World} {base : Nat} {spare : Nat → Bool} {held : Bool} (n : Nat) (cs : List Value) (y : DataW H × List MemPlace) (h : DataW.trod enc Tryd.prog w base spare held n 69 cs = some y) : ∃ v : S69, k69.K w v cs ∧ ((((Lit.int .i64 v.f0.f0).wf = true) ∧ ((Lit.int .i64 v.f0.f1).wf = true) ∧ ((Lit.int .i64 v.f0.f2).wf = true) ∧ ((Lit.int .i64 v.f0.f3).wf = true) ∧ ((Lit.int .i64 v.f0.f4).wf = true) ∧ ((Lit.int .i64 v.f0.f5).wf = true) ∧ ((Lit.int .i64 v.f0.f6).wf = true) ∧ (v.f0.f7.size ≤ maxLen)) ∧ ((Lit.int .i64 v.f1).wf = true) ∧ (∀ x_ ∈ v.f2, (x_.f0.size ≤ maxLen) ∧ (x_.f1.size ≤ maxLen)) ∧ (∀ x_ ∈ v.f3, (Lit.int .u8 x_).wf = true)) := by
  obtain ⟨xs, n', _, _, hl, hlen, hf⟩ := DataW.trod_struct Tryd.underlying69 h
  have ec : Tryd.prog.cellsOf 69 = 11 := by kernel_rfl
  rw [ec] at hl
  match xs, hlen with
  | [y0, y1, y2, y3], _ =>
  match cs, hl with
  | [c0, c1, c2, c3, c4, c5, c6, c7, c8, c9, c10], _ =>
  have e0 : Tryd.prog.cellsOf 25 = 8 := by kernel_rfl
  have h0 : DataW.trod enc Tryd.prog w base spare held n' 25 (([c0, c1, c2, c3, c4, c5, c6, c7, c8, c9, c10].drop 0).take (Tryd.prog.cellsOf 25)) = some y0 := hf 0 _ rfl
  rw [e0] at h0
  obtain ⟨v0, k0, w0⟩ := he_t25 _ _ _ h0
  have e1 : Tryd.prog.cellsOf 3 = 1 := by kernel_rfl
  have h1 : DataW.trod enc Tryd.prog w base spare held n' 3 (([c0, c1, c2, c3, c4, c5, c6, c7, c8, c9, c10].drop 8).take (Tryd.prog.cellsOf 3)) = some y1 := hf 1 _ rfl
  rw [e1] at h1
  obtain ⟨v1, k1, w1⟩ := he_i64 (t := 3) Tryd.underlying3 _ _ _ h1
  have e2 : Tryd.prog.cellsOf 54 = 1 := by kernel_rfl
  have h2 : DataW.trod enc Tryd.prog w base spare held n' 54 (([c0, c1, c2, c3, c4, c5, c6, c7, c8, c9, c10].drop 9).take (Tryd.prog.cellsOf 54)) = some y2 := hf 2 _ rfl
  rw [e2] at h2
  obtain ⟨v2, k2, w2⟩ := he_sl65 (t := 54) Tryd.underlying54 _ _ _ h2
  have e3 : Tryd.prog.cellsOf 36 = 1 := by kernel_rfl
  have h3 : DataW.trod enc Tryd.prog w base spare held n' 36 (([c0, c1, c2, c3, c4, c5, c6, c7, c8, c9, c10].drop 10).take (Tryd.prog.cellsOf 36)) = some y3 := hf 3 _ rfl
  rw [e3] at h3
  obtain ⟨v3, k3, w3⟩ := he_sl5 (t := 36) Tryd.underlying36 _ _ _ h3
  exact ⟨⟨v0, v1, v2, v3⟩, ⟨_, _, rfl, k0, ⟨_, _, rfl, k1, ⟨_, _, rfl, k2, k3⟩⟩⟩, w0, w1, w2, w3⟩
theorem laid_met (os : Os) : laidMet Tryd.prog Rows.recordBackRow.laid ((World.laidAll Tryd.prog os Rows.recordBackRow.laid).forCall (fun _ _ => 0) ⟨#[], #[.agg #[.int .i64 0, .int .i64 0, .int .i64 0, .int .i64 0, .int .i64 0, .int .i64 0, .int .i64 0, .string ByteArray.empty, .int .i64 0, .slice none 0 0, .slice none 0 0]], []⟩).memory :=
  laidMet_laidAll _ (by kernel_rfl) (by kernel_rfl)
set_option maxRecDepth 100000 in
theorem reads (os : Os) {H : Type} (enc : TypeId × Value → H) : ∃ places, DataW.whole enc Tryd.prog ((World.laidAll Tryd.prog os Rows.recordBackRow.laid).forCall (fun _ _ => 0) ⟨#[], #[.agg #[.int .i64 0, .int .i64 0, .int .i64 0, .int .i64 0, .int .i64 0, .int .i64 0, .int .i64 0, .string ByteArray.empty, .int .i64 0, .slice none 0 0, .slice none 0 0]], []⟩).memory Tryd.f9.params.toList Rows.recordBackSpec.vars false (#[.agg #[.int .i64 0, .int .i64 0, .int .i64 0, .int .i64 0, .int .i64 0, .int .i64 0, .int .i64 0, .string ByteArray.empty, .int .i64 0, .slice none 0 0, .slice none 0 0]] : Array Value).toList 8 = some ([.agg [.agg [.lit (.int .i64 0), .lit (.int .i64 0), .lit (.int .i64 0), .lit (.int .i64 0), .lit (.int .i64 0), .lit (.int .i64 0), .lit (.int .i64 0), .lit (.string [])], .lit (.int .i64 0), .nil, .nil]], [], places) :=
  ⟨[], by kernel_rfl⟩
set_option maxRecDepth 100000 in
theorem lifted (os : Os) (started : os.Started) (H : Type) (enc : TypeId × Value → H) (F : Stop.Interp) :
    ReturnsInHanded {} Tryd.checked os 9 .any ((OpenSpec.ofChange Rows.recordBackSpec).preRow enc Tryd.prog Tryd.f9 Rows.recordBackRow.domain false Rows.recordBackRow.laid) (((OpenSpec.ofChange Rows.recordBackSpec).at F).post enc Tryd.prog Tryd.f9 false true false false) := by
  obtain ⟨places, hx⟩ := reads os enc
  refine returnsInHanded_of_row (C := Tryd.checked) (s := OpenSpec.ofChange Rows.recordBackSpec) own started (by kernel_rfl) Tryd.func9
    (witness_row_at (enc := enc) (C := Tryd.checked) false (World.laidAll Tryd.prog os Rows.recordBackRow.laid) #[.agg #[.int .i64 0, .int .i64 0, .int .i64 0, .int .i64 0, .int .i64 0, .int .i64 0, .int .i64 0, .string ByteArray.empty, .int .i64 0, .slice none 0 0, .slice none 0 0]] (World.laidAll_os _ _ _) (by kernel_rfl) (by kernel_rfl) (by kernel_rfl)
      (OpenSpec.preRow_of_cond 8 hx (by kernel_rfl) (fun k hk => by cases hk) (by kernel_rfl) (laid_met os))) ?_
  intro W base args ds gs before hval0 hW hcnd _ hsz0 _ _ _
  have hsz : (DataW.weightsEach Tryd.prog (Tryd.f9.params.toList ++ Rows.recordBackSpec.plain.varTypes Tryd.prog) (ds ++ gs)).all (· ≤ reachBytes) = true := hsz0
  have hval : ∀ (j : Nat) t v, Tryd.f9.params[j]? = some t → args[j]? = some v → Value.okWide Tryd.prog W .any base t v := hval0
  have hW' := hW
  obtain ⟨p, q, hA0, hV, rfl, hfz, hnd⟩ := hW
  have hA : DataW.TrodAll enc Tryd.prog W 0 (fun _ => true) true Tryd.f9.params.toList args.toList ds p := hA0
  rw [Tryd.params9] at hA hval hsz
  obtain ⟨v0, vs0, d0, ds0, p0, q0, hargs, rfl, rfl, h0, r0⟩ := trodAll_cons hA
  obtain ⟨rfl, rfl, rfl⟩ := trodAll_nil r0
  obtain rfl : args = #[v0] := by cases args; simp_all
  obtain ⟨rfl, rfl⟩ := trodVars_none hV
  obtain ⟨cs0, rfl, hsz0⟩ := okWide_struct Tryd.underlying69 (hval 0 69 v0 rfl rfl)
  have k0 := h0
  have lt0 : ∀ x ∈ p0, x.block < W.heap.size := by obtain ⟨m, hm⟩ := k0; exact DataW.trod_lt m _ _ _ hm
  obtain ⟨fu0, hf0⟩ := h0
  obtain ⟨x0, hk0, w0⟩ := he_t69 _ _ _ (by simpa [Value.cells] using hf0)
  obtain ⟨A0_9, c0_9, A0_10, c0_10, hcs0, l0_9, g0_9, l0_10, g0_10⟩ := k69_open hk0
  obtain rfl : cs0 = #[.int .i64 x0.f0.f0, .int .i64 x0.f0.f1, .int .i64 x0.f0.f2, .int .i64 x0.f0.f3, .int .i64 x0.f0.f4, .int .i64 x0.f0.f5, .int .i64 x0.f0.f6, .string x0.f0.f7, .int .i64 x0.f1, .slice A0_9 x0.f2.length c0_9, .slice A0_10 x0.f3.length c0_10] := by rw [← Array.toList_inj]; exact hcs0
  have y0_9 := struct_rows_sized hsz (j := 0) (t := 69) (i := 2) (off := 9) rfl rfl Tryd.underlying69 rfl rfl rfl Tryd.underlying54 (by kernel_rfl) (B := 32) (by kernel_rfl) ⟨fu0, hf0⟩ rfl rfl
  have y0_10 := struct_rows_sized hsz (j := 0) (t := 69) (i := 3) (off := 10) rfl rfl Tryd.underlying69 rfl rfl rfl Tryd.underlying36 (by kernel_rfl) (B := 1) (by kernel_rfl) ⟨fu0, hf0⟩ rfl rfl
  clear hA0 hval0 hsz0 hsz
  refine (cisternlaw07_RecordBack.walk x0.f0.f0 x0.f0.f1 x0.f0.f2 x0.f0.f3 x0.f0.f4 x0.f0.f5 x0.f0.f6 x0.f0.f7 x0.f1 A0_9 c0_9 x0.f2 A0_10 c0_10 x0.f3 W w0 g0_9 l0_9 y0_9 g0_10 l0_10 y0_10).mono fun e W' ⟨he, bel⟩ => ?_
  subst he
  exact ⟨_, rfl, _, _, _, [], _, [], hW', trodAll_mk1 (shut_bool Tryd.underlying4 _), (trodAll_cons_mk (Below.trod laidOut (by kernel_rfl) (of_decide_eq_true (by kernel_rfl)) k0 bel lt0) trodAll_mk0), rfl, bel.frame _, fun h => by cases h⟩
theorem said : Rows.RecordBackSaid :=
  OpenClaim.holds_of_cond 9 Tryd.f9 rfl rfl rfl rfl rfl rfl rfl ⟨rfl, rfl, rfl, rfl, rfl⟩ rfl rfl rfl rfl rfl (by kernel_rfl) Tryd.func9 (by kernel_rfl)
    (of_decide_eq_true (by kernel_rfl)) (by unfold Func.isWrapper; first | (rw [if_pos (by decide +kernel)]; kernel_rfl) | (rw [if_neg (by decide +kernel)]; exact ⟨rfl, rfl⟩))
    (fun os started H enc _ F => by rw [OpenClaim.pre_eq_preRow]; exact lifted os started H enc F)
theorem plain (f : FuncId) (fn : Func) (hf : Tryd.pinned.checked.prog.funcNamed "cistern/cisternlaw07.RecordBack" = some f) (hfn : Tryd.pinned.checked.prog.funcs[f]? = some fn) :
    false = Tryd.pinned.checked.prog.looks [] ∧ ∀ (j : Nat) t, fn.params[j]? = some t → Tryd.pinned.checked.prog.wantsStandIn t = false := by
  obtain rfl : f = 9 := Option.some.inj ((show Tryd.prog.funcNamed "cistern/cisternlaw07.RecordBack" = some 9 by kernel_rfl).symm.trans hf) |>.symm
  obtain rfl : fn = Tryd.f9 := (Option.some.inj (Tryd.func9.symm.trans hfn)).symm
  refine ⟨by kernel_rfl, fun j t ht => ?_⟩
  rw [Tryd.params9] at ht
  have hm := Array.mem_of_getElem? ht
  have hq : t = 69 := by simpa using hm
  rcases hq with rfl
  · exact (show Tryd.prog.wantsStandIn 69 = false by kernel_rfl)
theorem card : Rows.RecordBackCardSaid :=
  Claim7.holds_tied_plain_at .later [] _ _ _ _ said (fun _ h => by cases h) (by kernel_rfl) (fun _ h => by cases h) recordBack_row_tie rfl ⟨rfl, rfl⟩ (by kernel_rfl) rfl plain (by kernel_rfl)
end Go.Proofs.YtmkkeccmjejfnaaDoor.recordBack
namespace Go.Proofs.YtmkkeccmjejfnaaDoor
theorem recordBack_holds : Rows.RecordBackCardSaid := recordBack.card
#print axioms recordBack_holds
end Go.Proofs.YtmkkeccmjejfnaaDoor
