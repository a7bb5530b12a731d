/- The law BlobPlays answers true at every input of bulk at most 1048576: its row, out of the walk. Laid by a program of this work. -/
import Derived.Test.YtcallfgihohldaaDoorQQPlays2
import Derived.Test.YtcallfgihohldaaDoorCards
import Derived.Test.YtcallfgihohldaaDoorTie
import Derived.WalkKit
import Derived.Deep.DeepHandedRow
import Derived.Lay
import Derived.Lib.LaidTab
import Derived.ProofKit
import Derived.OpenShut
import Derived.ShutString
import Derived.ChangeOld
import Derived.Below
import Derived.SizedLaws
import Derived.Deep.Slices
import Derived.Deep.Strs
import Derived.Lib.SmallJoins
namespace Go.Proofs.YtcallfgihohldaaDoor.blobPlays
open Go.ChangeShapes Go.WideShapes Go.ChangeAt Go.RowKit Go.Deep
open Go.ChangeMaps (open_string shut_string)
open Go.Proofs.YtcallfgihohldaaDoor.PA Go.Proofs.YtcallfgihohldaaDoorW.PrintWords Go.Proofs.YtcallfgihohldaaDoorW.PrintLast Go.Proofs.YtcallfgihohldaaDoorW.PrintMore
set_option linter.unusedVariables false
set_option linter.unusedSimpArgs false
theorem own : ownKnob Tryd.prog.godebug = none := by kernel_rfl
theorem laidOut : laidOutB Tryd.prog = true := by kernel_rfl
/-! ### What comes in, weighed by its bulk -/
section
variable {H : Type} {enc : TypeId × Value → H} {P : Program} {w : World} {base : Nat} {spare : Nat → Bool} {held : Bool}
theorem bulk_one (d : DataW H) : 1 ≤ Rows.uptoBulk d := by
  cases d with
  | lit l => cases l <;> simp [Rows.uptoBulk]
  | nil => simp [Rows.uptoBulk]
  | ptr d => simp [Rows.uptoBulk]
  | slice elems spare => simp [Rows.uptoBulk]
  | agg parts => simp [Rows.uptoBulk]
  | iface t d => simp [Rows.uptoBulk]
  | map entries => simp [Rows.uptoBulk]
  | held h => simp [Rows.uptoBulk]
theorem bulk_map (D : Nat → DataW H) (f : Nat → Nat) : ∀ (l : List Nat), (∀ i ∈ l, f i ≤ Rows.uptoBulk (D i)) → (l.map f).sum ≤ Rows.uptoBulkAll (l.map D)
  | [], _ => by simp [Rows.uptoBulkAll]
  | i :: r, h => by
    have h1 := h i List.mem_cons_self
    have h2 := bulk_map D f r (fun j hj => h j (List.mem_cons_of_mem _ hj))
    simp only [List.map_cons, List.sum_cons, Rows.uptoBulkAll]
    omega
theorem sum_mem_le : ∀ {l : List Nat} {n : Nat}, n ∈ l → n ≤ l.sum
  | [], _, h => by cases h
  | x :: r, n, h => by
    rw [List.sum_cons]
    rcases List.mem_cons.1 h with rfl | h
    · omega
    · have := sum_mem_le h; omega
/-- A row's values, and what they weigh. -/
theorem open_rows_bulk {α : Type} [Inhabited α] (k : Kd α) (Wf : α → Prop) (mu : α → Nat) {t e : TypeId} {fuel : Nat} {A : Option Addr} {len cap : Nat} {x : DataW H × List MemPlace} (ht : P.underlying t = some (.slice e)) (hce : P.cellsOf e = k.sz)
    (He : ∀ n cs y, DataW.trod enc P w base spare held n e cs = some y → ∃ v, k.K w v cs ∧ Wf v ∧ mu v ≤ Rows.uptoBulk y.1)
    (h : DataW.trod enc P w base spare held fuel t [.slice A len cap] = some x) :
    ∃ l : List α, l.length = len ∧ k.C w A len l ∧ len ≤ cap ∧ (∀ v ∈ l, Wf v) ∧ (l.map mu).sum ≤ Rows.uptoBulk x.1 := by
  rcases open_slice ht h with ⟨hcs, _⟩ | ⟨a, l, c, m, n, D, Pl, hcs, _, hl, hm, hmm, hxe, hx⟩
  · simp at hcs
    obtain ⟨rfl, rfl, rfl⟩ := hcs
    exact ⟨[], rfl, ⟨rfl, by omega, fun h0 => absurd h0 (by omega)⟩, Nat.le_refl _, by simp, by simp⟩
  · simp at hcs
    obtain ⟨rfl, rfl, rfl⟩ := hcs
    have hlm : len ≤ m := by rw [hmm]; split <;> omega
    subst hxe
    obtain ⟨f, hf⟩ := choose_lt (α := α) (n := len) (p := fun i v => ∃ cs, w.cells? base (a.add (i * k.sz)) k.sz = some cs ∧ k.K w v cs ∧ Wf v ∧ mu v ≤ Rows.uptoBulk (D i)) (fun i hi => by
      obtain ⟨cs', h1, h2⟩ := hx i (by omega)
      rw [hce] at h1
      obtain ⟨v, h3, h4⟩ := He _ _ _ h2
      exact ⟨v, cs', h1, h3, h4⟩)
    refine ⟨(List.range len).map f, by simp, ⟨by simp, by simp only [maxLen] at hm; omega, fun _ => ⟨a, rfl, fun j p hj => ?_⟩⟩, hl, fun v hv => ?_, ?_⟩
    · have hjl : j < len := by
        rcases Nat.lt_or_ge j len with h' | h'
        · exact h'
        · rw [List.getElem?_eq_none (by simpa using h')] at hj; cases hj
      simp [hjl] at hj
      subst hj
      obtain ⟨cs, h1, h2, _⟩ := hf j hjl
      obtain ⟨_, h3, h4⟩ := World.cells?_some h1
      refine ⟨cs, h3, h2, fun i u hu => ?_⟩
      have hi : i < k.sz := by rw [← h3]; exact (List.getElem?_eq_some_iff.1 hu).1
      rw [← ra_addr, h4 i hi, hu]
    · simp only [List.mem_map, List.mem_range] at hv
      obtain ⟨j, hj, rfl⟩ := hv
      exact (hf j hj).choose_spec.2.2.1
    · rw [List.map_map]
      have h1 := bulk_map D (mu ∘ f) (List.range len) (fun i hi => (hf i (List.mem_range.1 hi)).choose_spec.2.2.2)
      simp only [Rows.uptoBulk]
      omega
end
theorem he_i64 {H : Type} {enc : TypeId × Value → H} {w : World} {base : Nat} {spare : Nat → Bool} {held : Bool} {t : TypeId} (ht : Tryd.prog.underlying t = some (.int .i64)) (n : Nat) (cs : List Value) (y : DataW H × List MemPlace) (h : DataW.trod enc Tryd.prog w base spare held n t cs = some y) : ∃ v : Int, (Kd.int .i64).K w v cs ∧ ((Lit.int .i64 v).wf = true) := by
  obtain ⟨a, rfl, _, hw⟩ := DataW.trod_int ht h
  exact ⟨a, rfl, hw⟩
theorem he_s {H : Type} {enc : TypeId × Value → H} {w : World} {base : Nat} {spare : Nat → Bool} {held : Bool} {t : TypeId} (ht : Tryd.prog.underlying t = some .string) (n : Nat) (cs : List Value) (y : DataW H × List MemPlace) (h : DataW.trod enc Tryd.prog w base spare held n t cs = some y) : ∃ v : ByteArray, Kd.string.K w v cs ∧ (v.size ≤ maxLen) ∧ v.size ≤ Rows.uptoBulk y.1 := by
  obtain ⟨a, rfl, hy, hw⟩ := DataW.trod_string ht h
  refine ⟨a, rfl, hw, ?_⟩
  rw [hy]
  simp only [Rows.uptoBulk, Array.length_toList]
  exact Nat.le_succ _
theorem he_sl3 {H : Type} {enc : TypeId × Value → H} {w : World} {base : Nat} {spare : Nat → Bool} {held : Bool} {t : TypeId} (ht : Tryd.prog.underlying t = some (.slice 3)) (n : Nat) (cs : List Value) (y : DataW H × List MemPlace) (h : DataW.trod enc Tryd.prog w base spare held n t cs = some y) : ∃ v : List Int, (Kd.slice 3 (Kd.int .i64)).K w v cs ∧ (∀ x_ ∈ v, (Lit.int .i64 x_).wf = true) ∧ v.length ≤ Rows.uptoBulk y.1 := by
  have hsh : ∃ A len cap, cs = [.slice A len cap] := by
    rcases open_slice ht h with ⟨hcs, _⟩ | ⟨a, l, c, _, _, _, _, hcs, _⟩
    · exact ⟨_, _, _, hcs⟩
    · exact ⟨_, _, _, hcs⟩
  obtain ⟨A, len, cap, rfl⟩ := hsh
  obtain ⟨l, hl, hC, hc, hw, hb⟩ := open_rows_bulk (Kd.int .i64) (fun v => (Lit.int .i64 v).wf = true) (fun _ => 1) ht (by kernel_rfl) (fun n cs y h => by
    obtain ⟨v, h1, h2⟩ := he_i64 (t := 3) Tryd.underlying3 n cs y h
    exact ⟨v, h1, h2, bulk_one _⟩) h
  subst hl
  refine ⟨l, ⟨A, cap, rfl, hc, hC⟩, hw, Nat.le_trans (Nat.le_of_eq ?_) hb⟩
  clear hC hw hb hc h
  induction l with
  | nil => rfl
  | cons a l ih => simp only [List.length_cons, List.map_cons, List.sum_cons]; omega
instance : Inhabited S51 := ⟨z51⟩
set_option maxRecDepth 100000 in
theorem he_t51 {H : Type} {enc : TypeId × Value → H} {w : World} {base : Nat} {spare : Nat → Bool} {held : Bool} (n : Nat) (cs : List Value) (y : DataW H × List MemPlace) (h : DataW.trod enc Tryd.prog w base spare held n 51 cs = some y) : ∃ v : S51, k51.K w v cs ∧ True ∧ v.f2.size + v.f4.length ≤ Rows.uptoBulk y.1 := by
  obtain ⟨xs, n', _, hye, hl, hlen, hf⟩ := DataW.trod_struct Tryd.underlying51 h
  have ec : Tryd.prog.cellsOf 51 = 5 := by kernel_rfl
  rw [ec] at hl
  match xs, hlen with
  | [y0, y1, y2, y3, y4], _ =>
  match cs, hl with
  | [c0, c1, c2, c3, c4], _ =>
  have e0 : Tryd.prog.cellsOf 3 = 1 := by kernel_rfl
  have h0 : DataW.trod enc Tryd.prog w base spare held n' 3 (([c0, c1, c2, c3, c4].drop 0).take (Tryd.prog.cellsOf 3)) = some y0 := hf 0 _ rfl
  rw [e0] at h0
  obtain ⟨v0, k0, w0⟩ := he_i64 (t := 3) Tryd.underlying3 _ _ _ h0
  have e1 : Tryd.prog.cellsOf 9 = 1 := by kernel_rfl
  have h1 : DataW.trod enc Tryd.prog w base spare held n' 9 (([c0, c1, c2, c3, c4].drop 1).take (Tryd.prog.cellsOf 9)) = some y1 := hf 1 _ rfl
  rw [e1] at h1
  obtain ⟨v1, k1, w1, b1⟩ := he_s (t := 9) Tryd.underlying9 _ _ _ h1
  have e2 : Tryd.prog.cellsOf 9 = 1 := by kernel_rfl
  have h2 : DataW.trod enc Tryd.prog w base spare held n' 9 (([c0, c1, c2, c3, c4].drop 2).take (Tryd.prog.cellsOf 9)) = some y2 := hf 2 _ rfl
  rw [e2] at h2
  obtain ⟨v2, k2, w2, b2⟩ := he_s (t := 9) Tryd.underlying9 _ _ _ h2
  have e3 : Tryd.prog.cellsOf 3 = 1 := by kernel_rfl
  have h3 : DataW.trod enc Tryd.prog w base spare held n' 3 (([c0, c1, c2, c3, c4].drop 3).take (Tryd.prog.cellsOf 3)) = some y3 := hf 3 _ rfl
  rw [e3] at h3
  obtain ⟨v3, k3, w3⟩ := he_i64 (t := 3) Tryd.underlying3 _ _ _ h3
  have e4 : Tryd.prog.cellsOf 23 = 1 := by kernel_rfl
  have h4 : DataW.trod enc Tryd.prog w base spare held n' 23 (([c0, c1, c2, c3, c4].drop 4).take (Tryd.prog.cellsOf 23)) = some y4 := hf 4 _ rfl
  rw [e4] at h4
  obtain ⟨v4, k4, w4, b4⟩ := he_sl3 (t := 23) Tryd.underlying23 _ _ _ h4
  refine ⟨⟨v0, v1, v2, v3, v4⟩, ⟨_, _, rfl, k0, ⟨_, _, rfl, k1, ⟨_, _, rfl, k2, ⟨_, _, rfl, k3, k4⟩⟩⟩⟩, trivial, ?_⟩
  subst hye
  simp only [List.map_cons, List.map_nil, Rows.uptoBulk, Rows.uptoBulkAll]
  show v2.size + v4.length ≤ _
  omega
theorem sum_part : ∀ l : List S51, (l.map (fun x => x.f4.length)).sum ≤ (l.map (fun v => v.f2.size + v.f4.length)).sum
  | [] => Nat.le_refl _
  | a :: l => by
    have := sum_part l
    simp only [List.map_cons, List.sum_cons]
    omega
theorem laid_met (os : Os) : laidMet Tryd.prog Rows.blobPlaysUptoRow.laid ((World.laidAll Tryd.prog os Rows.blobPlaysUptoRow.laid).forCall (fun _ _ => 0) ⟨#[], #[.slice none 0 0], []⟩).memory :=
  laidMet_laidAll _ (by kernel_rfl) (by kernel_rfl)
set_option maxRecDepth 100000 in
theorem reads (os : Os) {H : Type} (enc : TypeId × Value → H) : ∃ places, DataW.whole enc Tryd.prog ((World.laidAll Tryd.prog os Rows.blobPlaysUptoRow.laid).forCall (fun _ _ => 0) ⟨#[], #[.slice none 0 0], []⟩).memory Tryd.f8.params.toList Rows.blobPlaysSpec.vars false (#[.slice none 0 0] : Array Value).toList 8 = some ([.nil], [], places) :=
  ⟨[], by kernel_rfl⟩
set_option maxRecDepth 100000 in
theorem lifted (os : Os) (started : os.Started) (H : Type) (enc : TypeId × Value → H) (F : Stop.Interp) :
    ReturnsInHanded {} Tryd.checked os 8 .any ((Rows.OpenSpec.upto Rows.blobPlaysSpec).preRow enc Tryd.prog Tryd.f8 Rows.blobPlaysUptoRow.domain false Rows.blobPlaysUptoRow.laid) (((Rows.OpenSpec.upto Rows.blobPlaysSpec).at F).post enc Tryd.prog Tryd.f8 false true false false) := by
  obtain ⟨places, hx⟩ := reads os enc
  refine returnsInHanded_of_row (C := Tryd.checked) (s := Rows.OpenSpec.upto Rows.blobPlaysSpec) own started (by kernel_rfl) Tryd.func8
    (witness_row_at (enc := enc) (C := Tryd.checked) false (World.laidAll Tryd.prog os Rows.blobPlaysUptoRow.laid) #[.slice none 0 0] (World.laidAll_os _ _ _) (by kernel_rfl) (by kernel_rfl) (by kernel_rfl)
      (OpenSpec.preRow_of_cond 8 hx (by kernel_rfl) (fun k hk => by cases hk; kernel_rfl) (by kernel_rfl) (laid_met os))) ?_
  intro W base args ds gs before hval0 hW hcnd hbk hsz0 _ _ _
  have hbulk : Rows.uptoBulkAll (ds ++ gs) ≤ 1048576 := of_decide_eq_true (hbk _ rfl)
  have hsz : (DataW.weightsEach Tryd.prog (Tryd.f8.params.toList ++ Rows.blobPlaysSpec.plain.varTypes Tryd.prog) (ds ++ gs)).all (· ≤ reachBytes) = true := hsz0
  have hval : ∀ (j : Nat) t v, Tryd.f8.params[j]? = some t → args[j]? = some v → Value.okWide Tryd.prog W .any base t v := hval0
  have hW' := hW
  obtain ⟨p, q, hA0, hV, rfl, hfz, hnd⟩ := hW
  have hA : DataW.TrodAll enc Tryd.prog W 0 (fun _ => true) true Tryd.f8.params.toList args.toList ds p := hA0
  rw [Tryd.params8] at hA hval hsz
  obtain ⟨v0, vs0, d0, ds0, p0, q0, hargs, rfl, rfl, h0, r0⟩ := trodAll_cons hA
  obtain ⟨rfl, rfl, rfl⟩ := trodAll_nil r0
  obtain rfl : args = #[v0] := by cases args; simp_all
  obtain ⟨rfl, rfl⟩ := trodVars_none hV
  obtain ⟨a0, len0, cap0, rfl⟩ := okWide_slice Tryd.underlying45 (hval 0 45 v0 rfl rfl)
  have k0 := h0
  have lt0 : ∀ x ∈ p0, x.block < W.heap.size := by obtain ⟨m, hm⟩ := k0; exact DataW.trod_lt m _ _ _ hm
  obtain ⟨fu0, hf0⟩ := h0
  obtain ⟨l0, rfl, hr0, hc0, -, hb0⟩ := open_rows_bulk k51 (fun _ => True) (fun v => v.f2.size + v.f4.length) Tryd.underlying45 (by kernel_rfl) (fun n cs y h => he_t51 n cs y h) (by simpa [Value.cells] using hf0)
  have hbl : (l0.map (fun v => v.f2.size + v.f4.length)).sum ≤ 1048576 := by
    simp only [List.cons_append, List.nil_append, List.append_nil, Rows.uptoBulkAll] at hbulk
    have hb1 : _ ≤ Rows.uptoBulk d0 := hb0
    omega
  have hstr : ∀ v ∈ l0, v.f2.size ≤ 2000000 := fun v hv => by
    have := sum_mem_le (List.mem_map.2 ⟨v, hv, rfl⟩ : v.f2.size + v.f4.length ∈ l0.map (fun v => v.f2.size + v.f4.length))
    omega
  have hsum : (l0.map (fun x => x.f4.length)).sum ≤ 2000000 := by
    exact Nat.le_trans (sum_part l0) (Nat.le_trans hbl (by decide))
  clear hA0 hval0 hsz0 hsz
  refine (cisternlaw02_BlobPlays.walk a0 cap0 l0 W hr0 hstr hsum).mono fun e W' ⟨he, bel⟩ => ?_
  subst he
  exact ⟨_, rfl, _, _, _, [], _, [], hW', trodAll_mk1 (shut_bool Tryd.underlying4 _), (trodAll_cons_mk (Below.trod laidOut (by kernel_rfl) (of_decide_eq_true (by kernel_rfl)) k0 bel lt0) trodAll_mk0), rfl, bel.frame _, fun h => by cases h⟩
theorem said : Rows.BlobPlaysUptoSaid :=
  OpenClaim.holds_of_cond 8 Tryd.f8 rfl rfl rfl rfl rfl rfl rfl ⟨rfl, rfl, rfl, rfl, rfl⟩ rfl rfl rfl rfl rfl (by kernel_rfl) Tryd.func8 (by kernel_rfl)
    (of_decide_eq_true (by kernel_rfl)) (by unfold Func.isWrapper; first | (rw [if_pos (by decide +kernel)]; kernel_rfl) | (rw [if_neg (by decide +kernel)]; exact ⟨rfl, rfl⟩))
    (fun os started H enc _ F => by rw [OpenClaim.pre_eq_preRow]; exact lifted os started H enc F)
theorem plain (f : FuncId) (fn : Func) (hf : Tryd.pinned.checked.prog.funcNamed "cistern/cisternlaw02.BlobPlays" = some f) (hfn : Tryd.pinned.checked.prog.funcs[f]? = some fn) :
    false = Tryd.pinned.checked.prog.looks [] ∧ ∀ (j : Nat) t, fn.params[j]? = some t → Tryd.pinned.checked.prog.wantsStandIn t = false := by
  obtain rfl : f = 8 := Option.some.inj ((show Tryd.prog.funcNamed "cistern/cisternlaw02.BlobPlays" = some 8 by kernel_rfl).symm.trans hf) |>.symm
  obtain rfl : fn = Tryd.f8 := (Option.some.inj (Tryd.func8.symm.trans hfn)).symm
  refine ⟨by kernel_rfl, fun j t ht => ?_⟩
  rw [Tryd.params8] at ht
  have hm := Array.mem_of_getElem? ht
  have hq : t = 45 := by simpa using hm
  rcases hq with rfl
  · exact (show Tryd.prog.wantsStandIn 45 = false by kernel_rfl)
theorem card : Rows.BlobPlaysUptoCardSaid :=
  Claim7.holds_tied_plain_at .later [] _ _ _ _ said (fun _ h => by cases h) (by kernel_rfl) (fun _ h => by cases h) blobPlaysUpto_row_tie rfl ⟨rfl, rfl⟩ (by kernel_rfl) rfl plain (by kernel_rfl)
end Go.Proofs.YtcallfgihohldaaDoor.blobPlays
namespace Go.Proofs.YtcallfgihohldaaDoor
theorem blobPlaysUpto_holds : Rows.BlobPlaysUptoCardSaid := blobPlays.card
#print axioms blobPlaysUpto_holds
end Go.Proofs.YtcallfgihohldaaDoor