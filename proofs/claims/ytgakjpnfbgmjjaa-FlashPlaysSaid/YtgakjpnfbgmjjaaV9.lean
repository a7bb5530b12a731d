import Derived.Test.YtgakjpnfbgmjjaaV2
import Derived.RangeFuncBox
import Derived.RangeFuncLeaves
import Derived.RangeFuncNested
import Derived.RangeFuncBound
import Derived.RangeFuncCalls
import Derived.Shelf.Abstract
import Derived.WalkKit
import Derived.OwnWalkIn
import Derived.TacticsInMore
import Derived.LoopNIn
import Derived.LoopIn
import Derived.BigQuiet
import Derived.Deep.Slices
import Derived.SizedLaws
import Derived.IntWalk
import Derived.ArgAppend
namespace Go.Proofs.Ytgakjpnfbgmjjaa.PA
open Go.RowKit Go.Proofs.YtgakjpnfbgmjjaaW.PrintWords Go.Proofs.YtgakjpnfbgmjjaaW.PrintLast Go.Proofs.YtgakjpnfbgmjjaaW.PrintMore
set_option linter.unusedVariables false
set_option linter.unusedSimpArgs false
/-! ### Rows within a struct within rows: what they weigh -/
section
open Go.ChangeShapes Go.WideShapes Go.Deep
variable {H : Type} {enc : TypeId × Value → H} {P : Program} {w : World} {base : Nat} {spare : Nat → Bool} {held : Bool}
theorem weights_mem_all {t : TypeId} : ∀ {ds : List (DataW H)} {d : DataW H}, d ∈ ds → ∀ n ∈ d.weights P t, n ∈ DataW.weightsAll P t ds
  | [], _, h => by cases h
  | x :: r, d, h => fun n hn => by
    rw [DataW.weightsAll, List.mem_append]
    rcases List.mem_cons.1 h with rfl | h
    · exact .inl hn
    · exact .inr (weights_mem_all h n hn)
theorem open_rows_fit {α : Type} [Inhabited α] (k : Kd α) (Wf : α → Prop) {t e : TypeId} {fuel : Nat} {A : Option Addr} {len cap : Nat} {x : DataW H × List MemPlace} (ht : P.underlying t = some (.slice e)) (hce : P.cellsOf e = k.sz)
    (He : ∀ n cs y, DataW.trod enc P w base spare held n e cs = some y → (∀ q ∈ y.1.weights P e, q ≤ reachBytes) → ∃ v, k.K w v cs ∧ Wf v)
    (h : DataW.trod enc P w base spare held fuel t [.slice A len cap] = some x) (hq : ∀ q ∈ x.1.weights P t, q ≤ reachBytes) :
    ∃ l : List α, l.length = len ∧ k.C w A len l ∧ len ≤ cap ∧ (∀ v ∈ l, Wf v) ∧ len * P.bytesOf e ≤ 140737488351232 := by
  rcases open_slice ht h with ⟨hcs, _⟩ | ⟨a, l, c, m, n, D, Pl, hcs, _, hl, hm, hmm, hxe, hx⟩
  · simp at hcs
    obtain ⟨rfl, rfl, rfl⟩ := hcs
    exact ⟨[], rfl, ⟨rfl, by omega, fun h0 => absurd h0 (by omega)⟩, Nat.le_refl _, by simp, by simp⟩
  · simp at hcs
    obtain ⟨rfl, rfl, rfl⟩ := hcs
    have hlm : len ≤ m := by rw [hmm]; split <;> omega
    subst hxe
    have hq' : ∀ q ∈ (((List.range len).map D).length + ((List.range (m - len)).map fun j => D (len + j)).length) * P.bytesOf e :: (DataW.weightsAll P e ((List.range len).map D) ++ DataW.weightsAll P e ((List.range (m - len)).map fun j => D (len + j))), q ≤ reachBytes := fun q hh => hq q (by simp only [DataW.weights, ht]; exact hh)
    obtain ⟨f, hf⟩ := choose_lt (α := α) (n := len) (p := fun i v => ∃ cs, w.cells? base (a.add (i * k.sz)) k.sz = some cs ∧ k.K w v cs ∧ Wf v) (fun i hi => by
      obtain ⟨cs', h1, h2⟩ := hx i (by omega)
      rw [hce] at h1
      obtain ⟨v, h3, h4⟩ := He _ _ _ h2 (fun q hh => hq' q (List.mem_cons_of_mem _ (List.mem_append_left _ (weights_mem_all (List.mem_map.2 ⟨i, List.mem_range.2 hi, rfl⟩) q hh))))
      exact ⟨v, cs', h1, h3, h4⟩)
    refine ⟨(List.range len).map f, by simp, ⟨by simp, by simp only [maxLen] at hm; omega, fun _ => ⟨a, rfl, fun j p hj => ?_⟩⟩, hl, fun v hv => ?_, ?_⟩
    · have hjl : j < len := by
        rcases Nat.lt_or_ge j len with h' | h'
        · exact h'
        · rw [List.getElem?_eq_none (by simpa using h')] at hj; cases hj
      simp [hjl] at hj
      subst hj
      obtain ⟨cs, h1, h2, _⟩ := hf j hjl
      obtain ⟨_, h3, h4⟩ := World.cells?_some h1
      refine ⟨cs, h3, h2, fun i u hu => ?_⟩
      have hi : i < k.sz := by rw [← h3]; exact (List.getElem?_eq_some_iff.1 hu).1
      rw [← ra_addr, h4 i hi, hu]
    · simp only [List.mem_map, List.mem_range] at hv
      obtain ⟨j, hj, rfl⟩ := hv
      exact (hf j hj).choose_spec.2.2
    · have z := hq' _ List.mem_cons_self
      simp only [List.length_map, List.length_range] at z
      have h3 : len ≤ len + (m - len) := by omega
      have h4 := Nat.mul_le_mul_right (P.bytesOf e) h3
      have h5 : reachBytes < 140737488355328 := by decide
      have h6 : reachBytes ≤ 140737488351232 := by decide
      omega
theorem part_fits {t ft : TypeId} {fs : Array Field} {f : Field} {i : Nat} {xs : List (DataW H × List MemPlace)} {y : DataW H × List MemPlace} (ht : P.underlying t = some (.struct fs)) (hf : fs[i]? = some f) (hft : f.type = ft) (hi : xs[i]? = some y)
    (hq : ∀ q ∈ (DataW.agg (xs.map (·.1)) : DataW H).weights P t, q ≤ reachBytes) : ∀ q ∈ y.1.weights P ft, q ≤ reachBytes := fun q hh => by
  subst hft
  refine hq q ?_
  simp only [DataW.weights, ht]
  refine DataW.weights_mem_each (j := i) (t := f.type) (d := y.1) ?_ ?_ _ hh
  · rw [List.getElem?_map, Array.getElem?_toList, hf]; rfl
  · rw [List.getElem?_map, hi]; rfl
end
/-! ### FlashErases -/
theorem noughts_conv_drew (w : World) : ∀ c, (convert 30 9 (.slice (some ⟨w.heap.size, 0, none⟩) 256 c)).run Try.prog (w.alloc (.cells (madeCells #[.int .u8 0] 256) 5)).drew = .ok (.string (strOfNums noughts)) (w.alloc (.cells (madeCells #[.int .u8 0] 256) 5)).drew := fun c => by
  obtain ⟨q, k, hq, -, -, -, hC⟩ := (noughts_blk (W := w) (F := fun _ => True) trivial).reads
  rw [Value.slice.injEq] at hq
  obtain ⟨h1, -, -⟩ := hq
  simp only [Option.some.injEq, Addr.mk.injEq, and_true] at h1
  subst h1
  have := Kd.C_string (P := Try.prog) (c := c) Try.underlying30 Try.underlying5 Try.underlying9 (Kd.C_drew hC)
  rw [noughts_len] at this
  exact this
theorem Two.new {w wb wc : World} {g r m : Nat} (hd : DevB wb w.heap.size g (.new m)) (hr : RDev wc (fun k => wb.heap.size ≤ k) r (.new m)) (hb : Below wb.heap.size wb wc) : Two wc (pB w.heap.size) g r (.new m) (.new m) :=
  ⟨(hd.below hb).dev, hr.mono (fun _ _ _ => rfl) (fun k hk _ => Nat.le_trans hd.b hk), fun k hk => Nat.le_trans (hd.below hb).b hk⟩
theorem Two.devB {W : World} {B g r m j : Nat} {S : FSt} (h : Two W (pB B) g r S S) (hf : Fit m j S) (hj : j ≤ 1000000) (hB : B ≤ W.heap.size) : DevB W B g S := ⟨h.d, hf.ok, Nat.le_trans hf.w hj, hB⟩
theorem devB_erase {W : World} {B g m : Nat} {S : FSt} (h : DevB W B g S) (hm : S.secs.length = m) :
    Calls Try.prog 23 #[.pointer (some ⟨g, 0, none⟩)] W fun e W' => e = .returned (.tuple #[]) ∧ DevB W' B g (.new m) ∧ Below B W W' := by
  subst hm
  exact (dev_erase h.dev h.ok.n h.fr).mono fun e W' ⟨he, hd, hc⟩ => ⟨he, ⟨hd, .new h.ok.n, by simp [FSt.new], Nat.le_trans h.b hc.size⟩, hc.below h.b (fun _ hk => hk)⟩
def Wf44 (v : S44) : Prop := ((Lit.int .i64 v.f0).wf = true) ∧ ((Lit.int .i64 v.f1).wf = true) ∧ ((Lit.int .i64 v.f2).wf = true) ∧ ((Lit.int .i64 v.f3).wf = true) ∧ ((∀ x_ ∈ v.f4, (Lit.int .i64 x_).wf = true) ∧ v.f4.length * 8 ≤ 140737488351232)
theorem op44 {w wr : World} {A : Option Addr} {l0 : List S44} (h : Kd.C k44 w A l0.length l0) (w0 : ∀ v ∈ l0, Wf44 v) (hb : Below w.heap.size w wr) (i : Nat) (hi : i < l0.length) :
    ∃ ad k a f n A4 c4, ∃ l : List Int, A = some ad ∧ wr.cell? (ad.add (i * 5)) = some (.int .i64 k) ∧ wr.cell? ⟨(ad.add (i * 5)).block, (ad.add (i * 5)).off + 1, none⟩ = some (.int .i64 a) ∧ wr.cell? ⟨(ad.add (i * 5)).block, (ad.add (i * 5)).off + 2, none⟩ = some (.int .i64 f) ∧ wr.cell? ⟨(ad.add (i * 5)).block, (ad.add (i * 5)).off + 3, none⟩ = some (.int .i64 n) ∧ wr.cell? ⟨(ad.add (i * 5)).block, (ad.add (i * 5)).off + 4, none⟩ = some (.slice A4 l.length c4) ∧
      Aside0 (n ≤ 9223372036854775807 ∧ l.length ≤ c4 ∧ l.length * 8 ≤ 140737488351232 ∧ ∀ w', Below w.heap.size w w' → Kd.C (Kd.int .i64) w' A4 l.length l) := by
  obtain ⟨ad, A4, c4, hA, k0, k1, k2, k3, k4, l4, g4⟩ := at_T44 h (i : Int) (Int.natCast_nonneg _) (Int.ofNat_lt.2 hi)
  rw [Int.toNat_natCast] at k0 k1 k2 k3 k4
  have hm : rd_T44 l0 (i : Int) ∈ l0 := by
    have e : rd_T44 l0 (i : Int) = l0[i] := by simp [rd_T44, hi]
    rw [e]; exact List.getElem_mem hi
  obtain ⟨-, -, -, h3, -, h4⟩ := w0 _ hm
  have h3' : (rd_T44 l0 (i : Int)).f3 ≤ 9223372036854775807 := by
    simp only [Lit.wf, Bool.and_eq_true, decide_eq_true_eq] at h3
    have := h3.2
    simpa [IntKind.max, IntKind.signed, IntKind.bits] using this
  exact ⟨ad, _, _, _, _, A4, c4, _, hA, below_cell hb k0, below_cell hb k1, below_cell hb k2, below_cell hb k3, below_cell hb k4, ⟨h3', l4, h4, fun w' hw' => Kd.C_below g4 hw'⟩⟩
set_option maxHeartbeats 8000000 in
set_option maxRecDepth 100000 in
theorem cisternlaw01_FlashErases.walk (A0 : Option Addr) (c0 : Nat) (l0 : List S44) (x1 : Int) (w : World) (hr0 : Kd.C k44 w A0 l0.length l0) (hc0 : l0.length ≤ c0) (y0 : l0.length * 56 ≤ 140737488351232) (w0 : ∀ v ∈ l0, Wf44 v) (w1 : (Lit.int .i64 x1).wf = true) :
    Calls Try.prog 9 #[.slice A0 l0.length c0, .int .i64 x1] w fun e w' => e = .returned (.bool true) ∧ Below w.heap.size w w' := by
  have R0 := Aside0.mk hr0
  have W0 := Aside0.mk w0
  have C0 := Aside0.mk hc0
  obtain ⟨m, hm1, hm2, hx⟩ : ∃ m : Nat, 1 ≤ m ∧ m ≤ 20 ∧ wrap64 (1 + wrap64 ((IntKind.u64.wrap x1).tmod 20)) = (m : Int) := by
    obtain ⟨k, hk1, hk2⟩ := modm x1 20 (by decide) (by decide)
    have hk2' : wrap64 ((IntKind.u64.wrap x1).tmod 20) = (k : Int) := hk2
    exact ⟨k + 1, by omega, by omega, by rw [hk2']; unfold wrap64; omega⟩
  have M2 := Aside0.mk hm2
  clear hr0 hc0 y0 w0 w1
  go_enter Try.func9, Try.ntmps9
  go_wp2_with fail
  refine (known_calls w).mono ?_
  rintro e wa ⟨rfl, hB⟩
  have BA := Aside0.mk hB
  clear hB
  go_wp2_with fail
  refine (devB_new m hm1 (by omega) wa (m : Int) rfl).mono ?_
  rintro e wb ⟨g, rfl, hD, hB⟩
  have DB := Aside0.mk hD
  have BB := Aside0.mk (BA.out.trans (hB.mono BA.out.size))
  have BS := Aside0.mk BA.out.size
  clear hD hB
  go_wp2_with fail
  refine (ref_new m hm1 (by omega) wb (m : Int) rfl).mono ?_
  rintro e wc ⟨r, rfl, hR, hB⟩
  have TT := Aside0.mk (Two.new DB.out hR hB)
  have BC := Aside0.mk (BB.out.trans (hB.mono BB.out.size))
  have BS2 := Aside0.mk (Nat.le_trans DB.out.b hB.size)
  clear hR hB
  go_wp2_with fail
  clear hx
  go_loopw [9] (fun v w' => ∃ i : Nat, i ≤ l0.length ∧ i ≤ 40 ∧ v = .int .i64 (i : Int) ∧ Aside0 (∃ S, Two w' (pB wa.heap.size) g r S S ∧ Fit m i S) ∧ Aside0 (Below w.heap.size w w' ∧ wa.heap.size ≤ w'.heap.size)) (fun v _ => ((40 : Int) - intOf v).toNat)
  case atStart => exact ⟨0, Nat.zero_le _, Nat.zero_le _, rfl, ⟨_, TT.out, .new (Nat.le_trans M2.out (by decide)) 0⟩, ⟨BC.out, BS2.out⟩⟩
  case round =>
    obtain ⟨i, hi, hi40, rfl, YT, YB⟩ := hrel
    clear DB BB TT BC BS2
    by_cases hlt : i < l0.length
    · have d1 : decide (i < l0.length) = true := decide_eq_true hlt
      by_cases hlt2 : i < 40
      · have d2 : decide ((i : Int) < 40) = true := decide_eq_true (by omega)
        have p1 : (0 : Int) ≤ (i : Int) := Int.natCast_nonneg _
        have p2 : (i : Int) < (l0.length : Int) := Int.ofNat_lt.2 hlt
        obtain ⟨ad, k, a, f, n, A4, c4, l, hA, k0, k1, k2, k3, k4, OP⟩ := op44 R0.out W0.out YB.out.1 i hlt
        subst hA
        have HM : Aside0 (((40 : Int) - intOf (.int .i64 ((i + 1 : Nat) : Int))).toNat < ((40 : Int) - intOf (.int .i64 (i : Int))).toNat) := ⟨by simp [intOf]; omega⟩
        have HW := Aside0.mk (wrap_suc i (by omega))
        obtain ⟨⟨S, hT, hF⟩⟩ := YT
        have YT := Aside0.mk hT
        have YF := Aside0.mk hF
        clear hT hF
        go_wp2_with fail
        refine (step_calls YT.out YF.out (by omega) k a f n OP.out.1 A4 c4 l (fun w' hw' => OP.out.2.2.2 w' (YB.out.1.trans (hw'.mono BS.out))) OP.out.2.1 OP.out.2.2.1).mono ?_
        rintro e w2 ⟨rfl, hS, hB⟩
        have YB2 := Aside0.mk (And.intro (YB.out.1.trans (hB.mono BS.out)) (Nat.le_trans YB.out.2 hB.size))
        have YT2 := Aside0.mk hS
        clear hS hB
        go_wp2_with fail
        exact ⟨⟨i + 1, hlt, hlt2, rfl, YT2, YB2⟩, HM.out⟩
      · have d2 : decide ((i : Int) < 40) = false := decide_eq_false (by omega)
        obtain ⟨⟨S, hT, hF⟩⟩ := YT
        have YD := Aside0.mk (hT.devB hF (by omega) YB.out.2)
        have YN := Aside0.mk hF.n
        clear hT hF
        go_wp2_with fail
        refine (devB_erase YD.out YN.out).mono ?_
        rintro e w2 ⟨rfl, hD, hB⟩
        have D2 := Aside0.mk hD
        have B2 := Aside0.mk (YB.out.1.trans (hB.mono BS.out))
        clear hD hB
        go_wp2_with fail
        refine (devB_size D2.out m (by simp [FSt.new])).mono ?_
        rintro e w3 ⟨rfl, rfl⟩
        go_wp2_with fail
        refine (devB_pending D2.out 0 (by simp [FSt.new])).mono ?_
        rintro e w4 ⟨rfl, rfl⟩
        go_wp2_with fail
        refine (devB_flush D2.out).mono ?_
        rintro e w5 ⟨rfl, hD, hB⟩
        rw [FSt.flush_on (FSt.On.new m).stops]
        have D5 := Aside0.mk hD
        have B5 := Aside0.mk (B2.out.trans (hB.mono BS.out))
        have RD := Aside0.mk (fun (j : Nat) (hj : j < m) => show (FSt.new m).flush.1.read (j : Int) = (noughts, 0) by
          rw [FSt.read_flush D2.out.ok (FSt.On.new m).stops, FSt.new_read, FSt.new_isIn, decide_eq_true (Int.natCast_nonneg j), decide_eq_true (Int.ofNat_lt.2 hj)]
          rfl)
        clear hD hB D2 B2
        obtain ⟨T, hT⟩ : ∃ T, T = (FSt.new m).flush.1 := ⟨_, rfl⟩
        rw [← hT] at D5 RD
        clear hT
        go_wp2_with fail
        go_loopw [10] (fun v w' => ∃ j : Nat, j ≤ m ∧ v = .int .i64 (j : Int) ∧ Aside0 (DevB w' wa.heap.size g T) ∧ Aside0 (Below w.heap.size w w')) (fun v _ => ((m : Int) - intOf v).toNat)
        case atStart => exact ⟨0, Nat.zero_le _, rfl, D5, B5⟩
        case round =>
          obtain ⟨j, hj, rfl, ZD, ZB⟩ := hrel
          clear D5 B5 YB YD
          by_cases hlt : j < m
          · have d2 : decide (j < m) = true := decide_eq_true hlt
            have HM : Aside0 (((m : Int) - intOf (.int .i64 ((j + 1 : Nat) : Int))).toNat < ((m : Int) - intOf (.int .i64 (j : Int))).toNat) := ⟨by simp [intOf]; omega⟩
            have HW := Aside0.mk (wrap_suc j (by omega))
            have RJ := Aside0.mk (RD.out j hlt)
            go_wp2_with fail
            refine (devB_read ZD.out (j : Int) _ RJ.out).mono ?_
            rintro e w8 ⟨A8, c8, rfl, hv, hD, hB⟩
            have V8 := Aside0.mk hv
            have D8 := Aside0.mk hD
            have B8 := Aside0.mk (ZB.out.trans (hB.mono ZB.out.size))
            clear hv hD hB
            rw [noughts_len] at V8 ⊢
            have mk := noughts_make
            have cvn := noughts_conv_drew
            have MK : Aside0 (∀ w1, Below w8.heap.size w8 w1 → Below w8.heap.size w8 w1 ∧ (∀ c, (convert 30 9 (.slice A8 256 c)).run Try.prog w1 = .ok (.string (strOfNums noughts)) w1)) := ⟨fun w1 hb => ⟨hb, V8.out w1 hb⟩⟩
            go_wp2_with fail
            go_region_held (fun w1 => Below w8.heap.size w8 w1 ∧ (∀ c, (convert 30 9 (.slice A8 256 c)).run Try.prog w1 = .ok (.string (strOfNums noughts)) w1))
              (first
                | exact MK.out _ (Below.drew (Below.refl _ _))
                | exact MK.out _ (pw_below_drewN (Below.refl _ _) _)
                | exact (by go_split_ands; assumption)
                | exact MK.out _ (Below.drew (below_alloc (Below.refl _ _) _))
                | (refine MK.out _ (below_alloc ?_ _); (first | assumption | exact (by go_split_ands; assumption)))
                | fail)
              (fail)
            have ZD2 := Aside0.mk (D8.out.below (below_alloc (Below.refl w8.heap.size w8) (.cells (madeCells #[.int .u8 0] 256) 5)).drew)
            have ZB2 := Aside0.mk (B8.out.trans ((below_alloc (Below.refl w8.heap.size w8) (.cells (madeCells #[.int .u8 0] 256) 5)).drew.mono B8.out.size))
            go_wp2_with fail
            exact ⟨⟨j + 1, hlt, rfl, ZD2, ZB2⟩, HM.out⟩
          · have d2 : decide (j < m) = false := decide_eq_false hlt
            go_wp2_with fail
            go_ret
            exact ⟨rfl, ZB.out⟩
    · have d1 : decide (i < l0.length) = false := decide_eq_false hlt
      obtain ⟨⟨S, hT, hF⟩⟩ := YT
      have YD := Aside0.mk (hT.devB hF (by omega) YB.out.2)
      have YN := Aside0.mk hF.n
      clear hT hF
      go_wp2_with fail
      refine (devB_erase YD.out YN.out).mono ?_
      rintro e w2 ⟨rfl, hD, hB⟩
      have D2 := Aside0.mk hD
      have B2 := Aside0.mk (YB.out.1.trans (hB.mono BS.out))
      clear hD hB
      go_wp2_with fail
      refine (devB_size D2.out m (by simp [FSt.new])).mono ?_
      rintro e w3 ⟨rfl, rfl⟩
      go_wp2_with fail
      refine (devB_pending D2.out 0 (by simp [FSt.new])).mono ?_
      rintro e w4 ⟨rfl, rfl⟩
      go_wp2_with fail
      refine (devB_flush D2.out).mono ?_
      rintro e w5 ⟨rfl, hD, hB⟩
      rw [FSt.flush_on (FSt.On.new m).stops]
      have D5 := Aside0.mk hD
      have B5 := Aside0.mk (B2.out.trans (hB.mono BS.out))
      have RD := Aside0.mk (fun (j : Nat) (hj : j < m) => show (FSt.new m).flush.1.read (j : Int) = (noughts, 0) by
        rw [FSt.read_flush D2.out.ok (FSt.On.new m).stops, FSt.new_read, FSt.new_isIn, decide_eq_true (Int.natCast_nonneg j), decide_eq_true (Int.ofNat_lt.2 hj)]
        rfl)
      clear hD hB D2 B2
      obtain ⟨T, hT⟩ : ∃ T, T = (FSt.new m).flush.1 := ⟨_, rfl⟩
      rw [← hT] at D5 RD
      clear hT
      go_wp2_with fail
      go_loopw [10] (fun v w' => ∃ j : Nat, j ≤ m ∧ v = .int .i64 (j : Int) ∧ Aside0 (DevB w' wa.heap.size g T) ∧ Aside0 (Below w.heap.size w w')) (fun v _ => ((m : Int) - intOf v).toNat)
      case atStart => exact ⟨0, Nat.zero_le _, rfl, D5, B5⟩
      case round =>
        obtain ⟨j, hj, rfl, ZD, ZB⟩ := hrel
        clear D5 B5 YB YD
        by_cases hlt : j < m
        · have d2 : decide (j < m) = true := decide_eq_true hlt
          have HM : Aside0 (((m : Int) - intOf (.int .i64 ((j + 1 : Nat) : Int))).toNat < ((m : Int) - intOf (.int .i64 (j : Int))).toNat) := ⟨by simp [intOf]; omega⟩
          have HW := Aside0.mk (wrap_suc j (by omega))
          have RJ := Aside0.mk (RD.out j hlt)
          go_wp2_with fail
          refine (devB_read ZD.out (j : Int) _ RJ.out).mono ?_
          rintro e w8 ⟨A8, c8, rfl, hv, hD, hB⟩
          have V8 := Aside0.mk hv
          have D8 := Aside0.mk hD
          have B8 := Aside0.mk (ZB.out.trans (hB.mono ZB.out.size))
          clear hv hD hB
          rw [noughts_len] at V8 ⊢
          have mk := noughts_make
          have cvn := noughts_conv_drew
          have MK : Aside0 (∀ w1, Below w8.heap.size w8 w1 → Below w8.heap.size w8 w1 ∧ (∀ c, (convert 30 9 (.slice A8 256 c)).run Try.prog w1 = .ok (.string (strOfNums noughts)) w1)) := ⟨fun w1 hb => ⟨hb, V8.out w1 hb⟩⟩
          go_wp2_with fail
          go_region_held (fun w1 => Below w8.heap.size w8 w1 ∧ (∀ c, (convert 30 9 (.slice A8 256 c)).run Try.prog w1 = .ok (.string (strOfNums noughts)) w1))
            (first
              | exact MK.out _ (Below.drew (Below.refl _ _))
              | exact MK.out _ (pw_below_drewN (Below.refl _ _) _)
              | exact (by go_split_ands; assumption)
              | exact MK.out _ (Below.drew (below_alloc (Below.refl _ _) _))
              | (refine MK.out _ (below_alloc ?_ _); (first | assumption | exact (by go_split_ands; assumption)))
              | fail)
            (fail)
          have ZD2 := Aside0.mk (D8.out.below (below_alloc (Below.refl w8.heap.size w8) (.cells (madeCells #[.int .u8 0] 256) 5)).drew)
          have ZB2 := Aside0.mk (B8.out.trans ((below_alloc (Below.refl w8.heap.size w8) (.cells (madeCells #[.int .u8 0] 256) 5)).drew.mono B8.out.size))
          go_wp2_with fail
          exact ⟨⟨j + 1, hlt, rfl, ZD2, ZB2⟩, HM.out⟩
        · have d2 : decide (j < m) = false := decide_eq_false hlt
          go_wp2_with fail
          go_ret
          exact ⟨rfl, ZB.out⟩
end Go.Proofs.Ytgakjpnfbgmjjaa.PA
