import Derived.Test.YtgakjpnfbgmjjaaL1
import Derived.Deep.RegionHeldLaw
import Derived.Deep.Slices
import Derived.SizedLaws
import Derived.IntWalk
import Derived.ArgAppend
namespace Go.Proofs.Ytgakjpnfbgmjjaa.PA
open Go.RowKit Go.Proofs.YtgakjpnfbgmjjaaW.PrintWords Go.Proofs.YtgakjpnfbgmjjaaW.PrintLast Go.Proofs.YtgakjpnfbgmjjaaW.PrintMore
set_option linter.unusedVariables false
set_option linter.unusedSimpArgs false
/-! ### A write is made to last -/
theorem msr_dn (n i : Nat) (h : i < n) : ((n : Int) - ((i + 1 : Nat) : Int)).toNat < ((n : Int) - (i : Int)).toNat := by omega
theorem wrap_suc (i : Nat) (h : i ≤ 9223372036854775806) : wrap64 ((i : Int) + 1) = ((i + 1 : Nat) : Int) := by unfold wrap64; omega
theorem DevAt.drew {W : World} {F : Nat → Prop} {g gs : Nat} {vw : Value} {S : FSt} (h : DevAt W F g gs vw S) : DevAt W.drew F g gs vw S := h.move (fun _ _ _ => rfl) (fun _ h _ => h)
theorem Chg.drew {F : Nat → Prop} {a b : World} (h : Chg F a b) : Chg F a b.drew := ⟨h.os, h.tape, h.output, h.size, h.block⟩
set_option maxHeartbeats 1000000 in
theorem dev_last {W : World} {F : Nat → Prop} {g gs : Nat} {vw : Value} {S : FSt} (h : DevAt W F g gs vw S) (i : Nat) (hi : i < S.secs.length) (hn : S.secs.length ≤ 4096) (v : Value) (b : List Int) (hv : ByteBlk W F v b) :
    Calls Try.prog 27 #[.pointer (some ⟨g, 0, none⟩), .agg #[.int .i64 (i : Int), v]] W fun e W' => e = .returned (.tuple #[]) ∧ DevAt W' F g gs vw (S.last ((i : Int), b)) ∧ Chg (fun k => k = gs) W W' := by
  have hb := below_alloc (Below.refl W.heap.size W) (.cells #[.int .i64 (i : Int), v] 65)
  have h1 := h.move (W' := W.alloc (.cells #[.int .i64 (i : Int), v] 65)) (fun k _ hl => hb.block k hl) (fun _ h _ => h)
  have hv1 := hv.move (W' := W.alloc (.cells #[.int .i64 (i : Int), v] 65)) (fun k _ _ hh => hb.block k (blk_lt hh)) (fun _ h _ => h)
  have X := Aside0.mk (h1.setSec i v (some b) false hv1)
  have C := Aside0.mk (((Chg.of (F := fun k => k = gs) hb).setCell (p := ⟨gs, i * 2, none⟩) rfl v).setCell (p := ⟨gs, i * 2 + 1, none⟩) rfl (.bool false))
  obtain ⟨c0, _, _, _, _, _⟩ := h1.cells
  obtain ⟨⟨u, d0, _⟩, d1, f0, f1⟩ := h1.secCells i hi
  have bx := heap_alloc_new W (.cells #[.int .i64 (i : Int), v] 65)
  have b0 := (blk_cell bx 0).trans rfl
  have b1 := (blk_cell bx 1).trans rfl
  obtain ⟨q, c, rfl, _⟩ := hv.reads
  obtain ⟨n, hnn⟩ : ∃ n, n = S.secs.length := ⟨_, rfl⟩
  rw [← hnn] at c0 hi hn
  have p1 : (0 : Int) ≤ (i : Int) := Int.natCast_nonneg _
  have p2 : (i : Int) < (n : Int) := Int.ofNat_lt.2 hi
  clear hb h1 hv1 h hv bx hnn
  go_enter Try.func27, Try.ntmps27
  go_wp2_with fail
  go_region
  go_wp2_with fail
  go_end0
  exact ⟨rfl, X.out.drew, C.out.drew⟩
theorem FSt.lasts_waits (S : FSt) (l : List (Int × List Int)) : (S.lasts l).waits = S.waits := by
  unfold FSt.lasts
  induction l generalizing S with
  | nil => rfl
  | cons p l ih => rw [List.foldl_cons, ih]; rfl
theorem FSt.lasts_len (S : FSt) (l : List (Int × List Int)) : (S.lasts l).secs.length = S.secs.length := by
  unfold FSt.lasts
  induction l generalizing S with
  | nil => rfl
  | cons p l ih => rw [List.foldl_cons, ih]; simp [FSt.last]
theorem FSt.lasts_succ (S : FSt) (l : List (Int × List Int)) (i : Nat) (hi : i < l.length) : S.lasts (l.take (i + 1)) = (S.lasts (l.take i)).last l[i] := by
  unfold FSt.lasts
  rw [List.take_succ_eq_append_getElem hi, List.foldl_append]
  rfl
theorem DevAt.waitAt {W : World} {F : Nat → Prop} {g gs : Nat} {vw : Value} {S : FSt} {l : List (Int × List Int)} (h : DevAt W F g gs vw S) (hl : S.waits = l) (i : Nat) (hi : i < l.length) :
    ∃ q c v, vw = .slice (some ⟨q, 0, none⟩) l.length c ∧ W.cell? ⟨q, i * 2, none⟩ = some (.int .i64 l[i].1) ∧ W.cell? ⟨q, i * 2 + 1, none⟩ = some v ∧ ByteBlk W F v l[i].2 := by
  subst hl
  exact h.waitCells i hi
theorem Chg.mono {F G : Nat → Prop} {a b : World} (h : Chg F a b) (hF : ∀ k, F k → G k) : Chg G a b := ⟨h.os, h.tape, h.output, h.size, fun k hk hg => h.block k hk (fun hf => hg (hF k hf))⟩
theorem chg_box {F : Nat → Prop} {W w : World} (hF : ∀ k, W.heap.size ≤ k → F k) (h : Chg F W w) (o : Obj) : Chg F W (w.alloc o) := h.trans (Chg.of (below_alloc (Below.refl _ _) o))
set_option maxHeartbeats 1000000 in
theorem dev_flush {W : World} {F : Nat → Prop} {g : Nat} {S : FSt} (h : Dev W F g S) (hk : S.Ok) (hwl : S.waits.length ≤ 1000000) (hF : ∀ k, W.heap.size ≤ k → F k) :
    Calls Try.prog 14 #[.pointer (some ⟨g, 0, none⟩)] W fun e W' => e = .returned (.int .i64 S.flush.2) ∧ Dev W' F g S.flush.1 ∧ Chg F W W' := by
  obtain ⟨gs, vw, h⟩ := h
  have X := Aside0.mk h
  have K := Aside0.mk hk
  have FF := Aside0.mk hF
  clear h hk hF
  go_enter Try.func14, Try.ntmps14
  go_wp2_with fail
  refine (dev_spend X.out).mono ?_
  rintro e wa ⟨rfl, hD, hO⟩
  have Y := Aside0.mk hD
  have C := Aside0.mk (hO.chg X.out.fg)
  obtain ⟨_, c1, _, _, _, hf⟩ := hD.cells
  have f1 := hf 1
  clear hD hO hf
  by_cases hs : S.stops = true
  · rw [hs]
    go_wp2_with fail
    go_ret
    unfold FSt.flush
    rw [if_pos hs]
    exact ⟨rfl, ⟨_, _, Y.out⟩, C.out⟩
  · have hs' : S.stops = false := by simpa using hs
    rw [hs']
    obtain ⟨A, c, rfl, _⟩ := Y.out.wslice
    obtain ⟨n, hnn⟩ : ∃ n, n = S.spent.waits.length := ⟨_, rfl⟩
    have N := Aside0.mk hnn
    have hn : n ≤ 1000000 := by rw [hnn]; exact hwl
    rw [← hnn] at c1 Y
    clear hnn hwl
    go_wp2_with fail
    go_loopw [17] (fun v w' => ∃ i : Nat, i ≤ n ∧ v = .int .i64 (i : Int) ∧ Aside0 (DevAt w' F g gs (.slice A n c) (S.spent.lasts (S.waits.take i))) ∧ Aside0 (Chg F W w')) (fun v _ => ((n : Int) - intOf v).toNat)
    case atStart => exact ⟨0, Nat.zero_le _, rfl, ⟨Y.out⟩, C⟩
    case round =>
      obtain ⟨i, hi, rfl, YD, YC⟩ := hrel
      clear c1 f1
      by_cases hlt : i < n
      · have hlt' : i < S.waits.length := by rw [← FSt.spent_waits, ← N.out]; exact hlt
        obtain ⟨q, c', v, hv, e0, e1, hb⟩ := YD.out.waitAt (FSt.lasts_waits _ _) i (by rw [FSt.spent_waits]; exact hlt')
        obtain ⟨h0, h1, h2⟩ := K.out.w _ (List.getElem_mem hlt')
        rw [Value.slice.injEq] at hv
        obtain ⟨rfl, hx1, hx2⟩ := hv
        clear hx1 hx2
        simp only [FSt.spent_waits] at e0 hb
        obtain ⟨k, hk⟩ : ∃ k : Nat, S.waits[i].1 = (k : Int) := ⟨S.waits[i].1.toNat, by omega⟩
        rw [hk] at e0 h1
        have hkk : k < S.secs.length := by omega
        obtain ⟨b, hbb⟩ : ∃ b, b = S.waits[i].2 := ⟨_, rfl⟩
        rw [← hbb] at hb
        have HB := Aside0.mk hb
        have HP : Aside0 (S.waits[i] = ((k : Int), b)) := ⟨Prod.ext hk hbb.symm⟩
        have d1 : decide (i < n) = true := decide_eq_true hlt
        have p1 : (0 : Int) ≤ (i : Int) := Int.natCast_nonneg _
        have p2 : (i : Int) < (n : Int) := Int.ofNat_lt.2 hlt
        obtain ⟨bq, bc, rfl, _⟩ := hb.reads
        have BX := Aside0.mk (below_alloc (Below.refl wr.heap.size wr) (.cells #[.int .i64 (k : Int), .slice (some ⟨bq, 0, none⟩) b.length bc] 65))
        have HK : Aside0 (k < (S.spent.lasts (S.waits.take i)).secs.length ∧ (S.spent.lasts (S.waits.take i)).secs.length ≤ 4096) := ⟨by rw [FSt.lasts_len, FSt.spent_secs]; exact ⟨hkk, K.out.n⟩⟩
        have HM := Aside0.mk (msr_dn n i hlt)
        have HW := Aside0.mk (wrap_suc i (by omega))
        clear hkk hi
        clear hk h0 h1 h2 hbb hb
        go_wp2_with fail
        refine (dev_last (YD.out.move (fun k _ hl => BX.out.block k hl) (fun _ h _ => h)) k HK.out.1 HK.out.2 _ b (HB.out.move (fun k _ _ hh => BX.out.block k (blk_lt hh)) (fun _ h _ => h))).mono ?_
        rintro e w3 ⟨rfl, hD, hC⟩
        have YD3 : Aside0 (DevAt w3 F g gs (.slice (some ⟨q, 0, none⟩) n c) (S.spent.lasts (S.waits.take (i + 1)))) := ⟨by rw [FSt.lasts_succ _ _ i (by rw [← FSt.spent_waits, ← N.out]; exact hlt), HP.out]; exact hD⟩
        have YC3 := Aside0.mk ((chg_box FF.out YC.out (.cells #[.int .i64 (k : Int), .slice (some ⟨bq, 0, none⟩) b.length bc] 65)).trans (hC.mono (fun j hj => by rw [hj]; exact YD.out.fs)))
        clear hD hC
        go_wp2_with fail
        exact ⟨⟨i + 1, hlt, rfl, YD3, YC3⟩, HM.out⟩
      · obtain rfl : i = n := by omega
        have hw : S.waits.take i = S.waits := List.take_of_length_le (by rw [N.out, FSt.spent_waits]; exact Nat.le_refl _)
        rw [hw] at YD
        have Z := Aside0.mk YD.out.set1
        obtain ⟨_, e1, _, _, _, hf⟩ := YD.out.cells
        have f1 := hf 1
        have d1 : decide (i < i) = false := decide_eq_false (by omega)
        have ZC := Aside0.mk (YC.out.setCell (p := ⟨g, 1, none⟩) YD.out.fg (.slice none 0 0))
        clear hf hw hlt hi
        go_wp2_with fail
        go_ret
        unfold FSt.flush
        rw [if_neg hs]
        exact ⟨rfl, ⟨_, _, Z.out⟩, ZC.out⟩
/-- A list of whole numbers in a block. -/
def IntBlk (W : World) (v : Value) (l : List Int) : Prop :=
  ∃ A c, v = .slice A l.length c ∧ l.length ≤ 9223372036854775807 ∧ (0 < l.length → ∃ (q o : Nat) (cs : Array Value), A = some ⟨q, o, none⟩ ∧ W.heap[q]? = some (.cells cs 3 (0, 0)) ∧ ∀ j (h : j < l.length), cs[o + j]? = some (.int .i64 l[j]))
theorem IntBlk.nil (W : World) : IntBlk W (.slice none 0 0) [] := ⟨_, _, rfl, by simp, fun h => by simp at h⟩
theorem IntBlk.move {W W' : World} {v : Value} {l : List Int} (h : IntBlk W v l) (hm : ∀ (k : Nat) (cs : Array Value), W.heap[k]? = some (.cells cs 3 (0, 0)) → W'.heap[k]? = W.heap[k]?) : IntBlk W' v l := by
  obtain ⟨A, c, h1, h2, h3⟩ := h
  refine ⟨A, c, h1, h2, fun h0 => ?_⟩
  obtain ⟨q, o, cs, a, b, d⟩ := h3 h0
  exact ⟨q, o, cs, a, (hm q cs b).trans b, d⟩
theorem IntBlk.at_ {W : World} {A : Option Addr} {n c : Nat} {l : List Int} (h : IntBlk W (.slice A n c) l) (i : Nat) (hi : i < l.length) : ∃ q o, A = some ⟨q, o, none⟩ ∧ W.cell? ⟨q, o + i, none⟩ = some (.int .i64 l[i]) := by
  obtain ⟨A', c', h1, h2, h3⟩ := h
  rw [Value.slice.injEq] at h1
  obtain ⟨rfl, _, _⟩ := h1
  obtain ⟨q, o, cs, rfl, b, d⟩ := h3 (by omega)
  exact ⟨q, o, rfl, (blk_cell b _).trans (d i hi)⟩
theorem FSt.picks_waits (S : FSt) (ks : List Int) : ∀ i, (S.picks ks i).waits = S.waits
  | 0 => rfl
  | i + 1 => by
    rw [FSt.picks]
    unfold FSt.picked
    split
    · exact FSt.picks_waits S ks i
    · split
      · exact FSt.picks_waits S ks i
      · exact FSt.picks_waits S ks i
theorem FSt.picks_len (S : FSt) (ks : List Int) : ∀ i, (S.picks ks i).secs.length = S.secs.length
  | 0 => rfl
  | i + 1 => by
    rw [FSt.picks]
    unfold FSt.picked
    split
    · simp [FSt.last, FSt.picks_len S ks i]
    · split
      · simp [FSt.picks_len S ks i]
      · exact FSt.picks_len S ks i
set_option maxHeartbeats 1000000 in
theorem dev_crash {W : World} {F : Nat → Prop} {g : Nat} {S : FSt} (h : Dev W F g S) (hk : S.Ok) (hwl : S.waits.length ≤ 1000000) (hF : ∀ k, W.heap.size ≤ k → F k) (v : Value) (ks : List Int) (hp : IntBlk W v ks) :
    Calls Try.prog 18 #[.pointer (some ⟨g, 0, none⟩), v] W fun e W' => e = .returned (.tuple #[]) ∧ Dev W' F g (S.crash ks) ∧ Chg F W W' := by
  obtain ⟨gs, vw, h⟩ := h
  have X := Aside0.mk h
  have K := Aside0.mk hk
  have FF := Aside0.mk hF
  have P := Aside0.mk hp
  obtain ⟨A2, c2, rfl, hm, _⟩ := hp
  obtain ⟨m, hmm⟩ : ∃ m, m = ks.length := ⟨_, rfl⟩
  have M := Aside0.mk hmm
  obtain ⟨A, c, rfl, _⟩ := h.wslice
  obtain ⟨n, hnn⟩ : ∃ n, n = S.waits.length := ⟨_, rfl⟩
  have N := Aside0.mk hnn
  have hn : n ≤ 1000000 := by rw [hnn]; exact hwl
  rw [← hmm] at hm P
  have PG : Aside0 (∀ w', Chg (fun k => k = gs) W w' → IntBlk w' (.slice A2 m c2) ks) := ⟨fun w' hc => P.out.move (fun k cs hk => hc.block k (blk_lt hk) (by
    obtain ⟨cs', hs, _⟩ := h.hs
    exact blk_ne hk hs (by decide)))⟩
  rw [← hnn] at X
  obtain ⟨-, c1, -, -, -, -⟩ := X.out.cells
  rw [← hmm]
  clear hmm hnn hwl h hk hF
  go_enter Try.func18, Try.ntmps18
  go_wp2_with fail
  go_loopw [13] (fun v w' => ∃ i : Nat, i ≤ n ∧ v = .int .i64 (i : Int) ∧ i ≤ m ∧ Aside0 (DevAt w' F g gs (.slice A n c) (S.picks ks i)) ∧ Aside0 (Chg F W w') ∧ Aside0 (Chg (fun k => k = gs) W w')) (fun v _ => ((n : Int) - intOf v).toNat)
  case atStart => exact ⟨0, Nat.zero_le _, rfl, Nat.zero_le _, X, ⟨Chg.refl _ _⟩, ⟨Chg.refl _ _⟩⟩
  case round =>
    obtain ⟨i, hi, rfl, him, YD, YC, YG⟩ := hrel
    clear c1
    by_cases hlt : i < n
    · have hlt' : i < S.waits.length := by rw [← N.out]; exact hlt
      obtain ⟨q, c', v, hv, e0, e1, hb⟩ := YD.out.waitAt (FSt.picks_waits _ _ _) i hlt'
      obtain ⟨h0, h1, h2⟩ := K.out.w _ (List.getElem_mem hlt')
      rw [Value.slice.injEq] at hv
      obtain ⟨rfl, hx1, hx2⟩ := hv
      clear hx1 hx2
      obtain ⟨k, hk⟩ : ∃ k : Nat, S.waits[i].1 = (k : Int) := ⟨S.waits[i].1.toNat, by omega⟩
      rw [hk] at e0 h1
      have hkk : k < S.secs.length := by omega
      obtain ⟨b, hbb⟩ : ∃ b, b = S.waits[i].2 := ⟨_, rfl⟩
      rw [← hbb] at hb
      have HB := Aside0.mk hb
      have HP : Aside0 (S.waits[i]?.getD (0, []) = ((k : Int), b)) := ⟨by rw [List.getElem?_eq_getElem hlt']; exact Prod.ext hk hbb.symm⟩
      have d1 : decide (i < n) = true := decide_eq_true hlt
      have p1 : (0 : Int) ≤ (i : Int) := Int.natCast_nonneg _
      have p2 : (i : Int) < (n : Int) := Int.ofNat_lt.2 hlt
      obtain ⟨bq, bc, rfl, _⟩ := hb.reads
      have BX := Aside0.mk (below_alloc (Below.refl wr.heap.size wr) (.cells #[.int .i64 (k : Int), .slice (some ⟨bq, 0, none⟩) b.length bc] 65))
      have HK : Aside0 (k < (S.picks ks i).secs.length ∧ (S.picks ks i).secs.length ≤ 4096) := ⟨by rw [FSt.picks_len]; exact ⟨hkk, K.out.n⟩⟩
      have HM := Aside0.mk (msr_dn n i hlt)
      have HW := Aside0.mk (wrap_suc i (by omega))
      clear hkk hi hk h0 h1 h2 hbb hb
      by_cases hm2 : i < m
      · have d2 : decide (m ≤ i) = false := decide_eq_false (by omega)
        have hm3 : i < ks.length := by rw [← M.out]; exact hm2
        obtain ⟨q2, o2, rfl, e2⟩ := (PG.out _ (YG.out.trans (Chg.of BX.out))).at_ i hm3
        obtain ⟨x, hx⟩ : ∃ x, x = ks[i] := ⟨_, rfl⟩
        have HX : Aside0 (ks[i]?.getD 0 = x) := ⟨by rw [List.getElem?_eq_getElem hm3, hx]; rfl⟩
        rw [← hx] at e2
        have p3 : (i : Int) < (m : Int) := Int.ofNat_lt.2 hm2
        have HS : Aside0 (S.picks ks (i + 1) = (S.picks ks i).picked ((k : Int), b) (pickI x)) := ⟨by rw [FSt.picks, HP.out, HX.out]⟩
        have YD1 := Aside0.mk (YD.out.move (W' := wr.alloc (.cells #[.int .i64 (k : Int), .slice (some ⟨bq, 0, none⟩) b.length bc] 65)) (fun k _ hl => BX.out.block k hl) (fun _ h _ => h))
        have YC1 := Aside0.mk (chg_box FF.out YC.out (.cells #[.int .i64 (k : Int), .slice (some ⟨bq, 0, none⟩) b.length bc] 65))
        have YG1 := Aside0.mk (YG.out.trans (Chg.of BX.out))
        clear hx hlt' hm3
        by_cases j1 : pickI x = 1
        · have f1 : ((wrap64 (x.tmod 3 + 3)).tmod 3 == 1) = true := beq_iff_eq.2 j1
          rw [j1] at HS
          clear j1
          go_wp2_with fail
          refine (dev_last YD1.out k HK.out.1 HK.out.2 _ b (HB.out.move (fun k _ _ hh => BX.out.block k (blk_lt hh)) (fun _ h _ => h))).mono ?_
          rintro e w3 ⟨rfl, hD, hC⟩
          have YD3 : Aside0 (DevAt w3 F g gs (.slice (some ⟨q, 0, none⟩) n c) (S.picks ks (i + 1))) := ⟨by rw [HS.out]; exact hD⟩
          have YC3 := Aside0.mk (YC1.out.trans (hC.mono (fun j hj => by rw [hj]; exact YD.out.fs)))
          have YG3 := Aside0.mk (YG1.out.trans hC)
          clear hD hC
          go_wp2_with fail
          exact ⟨⟨i + 1, hlt, rfl, hm2, YD3, YC3, YG3⟩, HM.out⟩
        · have f1 : ((wrap64 (x.tmod 3 + 3)).tmod 3 == 1) = false := beq_eq_false_iff_ne.2 j1
          by_cases j2 : pickI x = 2
          · have f2 : ((wrap64 (x.tmod 3 + 3)).tmod 3 == 2) = true := beq_iff_eq.2 j2
            rw [j2] at HS
            have bx := heap_alloc_new wr (.cells #[.int .i64 (k : Int), .slice (some ⟨bq, 0, none⟩) b.length bc] 65)
            have b0 := (blk_cell bx 0).trans rfl
            obtain ⟨c0, -, -, -, -, -⟩ := YD1.out.cells
            obtain ⟨-, s1, -, g1⟩ := YD1.out.secCells k HK.out.1
            have YD3 : Aside0 (DevAt ((wr.alloc (.cells #[.int .i64 (k : Int), .slice (some ⟨bq, 0, none⟩) b.length bc] 65)).setCell ⟨gs, k * 2 + 1, none⟩ (.bool true)).drew F g gs (.slice (some ⟨q, 0, none⟩) n c) (S.picks ks (i + 1))) := ⟨by rw [HS.out]; exact (YD1.out.setTorn k true).drew⟩
            have YC3 := Aside0.mk ((YC1.out.setCell (p := ⟨gs, k * 2 + 1, none⟩) YD.out.fs (.bool true)).drew)
            have YG3 := Aside0.mk ((YG1.out.setCell (p := ⟨gs, k * 2 + 1, none⟩) rfl (.bool true)).drew)
            obtain ⟨z, hz⟩ : ∃ z, z = (S.picks ks i).secs.length := ⟨_, rfl⟩
            have p4 : (0 : Int) ≤ (k : Int) := Int.natCast_nonneg _
            have p5 : (k : Int) < (z : Int) := by have := HK.out.1; omega
            rw [← hz] at c0
            clear j1 j2 bx hz
            go_wp2_with fail
            go_region
            go_wp2_with fail
            exact ⟨⟨i + 1, hlt, rfl, hm2, YD3, YC3, YG3⟩, HM.out⟩
          · have f2 : ((wrap64 (x.tmod 3 + 3)).tmod 3 == 2) = false := beq_eq_false_iff_ne.2 j2
            have YD3 : Aside0 (DevAt (wr.alloc (.cells #[.int .i64 (k : Int), .slice (some ⟨bq, 0, none⟩) b.length bc] 65)) F g gs (.slice (some ⟨q, 0, none⟩) n c) (S.picks ks (i + 1))) := ⟨by
              rw [HS.out]
              unfold FSt.picked
              rw [if_neg j1, if_neg j2]
              exact YD1.out⟩
            clear j1 j2
            go_wp2_with fail
            exact ⟨⟨i + 1, hlt, rfl, hm2, YD3, YC1, YG1⟩, HM.out⟩
      · have d2 : decide (m ≤ i) = true := decide_eq_true (by omega)
        have e3 : i = min S.waits.length ks.length := by rw [← N.out, ← M.out]; omega
        have YD1 := Aside0.mk (YD.out.move (W' := wr.alloc (.cells #[.int .i64 (k : Int), .slice (some ⟨bq, 0, none⟩) b.length bc] 65)) (fun k _ hl => BX.out.block k hl) (fun _ h _ => h))
        have YC1 := Aside0.mk (chg_box FF.out YC.out (.cells #[.int .i64 (k : Int), .slice (some ⟨bq, 0, none⟩) b.length bc] 65))
        rw [show S.picks ks i = S.picks ks (min S.waits.length ks.length) by rw [← e3]] at YD1
        obtain ⟨-, t1, t2, t3, -, hf⟩ := YD1.out.cells
        have f1 := hf 1
        have f2 := hf 2
        have f3 := hf 3
        have Z := Aside0.mk (((YD1.out.set1).set2 false).set3 false)
        have ZC := Aside0.mk (((YC1.out.setCell (p := ⟨g, 1, none⟩) YD.out.fg (.slice none 0 0)).setCell (p := ⟨g, 2, none⟩) YD.out.fg (.bool false)).setCell (p := ⟨g, 3, none⟩) YD.out.fg (.bool false))
        clear hf e3 hm2 hlt'
        go_wp2_with fail
        go_end0
        exact ⟨rfl, ⟨_, _, Z.out⟩, ZC.out⟩
    · obtain rfl : i = n := by omega
      have d1 : decide (i < i) = false := decide_eq_false (by omega)
      have e3 : i = min S.waits.length ks.length := by rw [← N.out, ← M.out]; omega
      have YD1 : Aside0 (DevAt wr F g gs (.slice A i c) (S.picks ks (min S.waits.length ks.length))) := ⟨by rw [← e3]; exact YD.out⟩
      obtain ⟨-, t1, t2, t3, -, hf⟩ := YD1.out.cells
      have f1 := hf 1
      have f2 := hf 2
      have f3 := hf 3
      have Z := Aside0.mk (((YD1.out.set1).set2 false).set3 false)
      have ZC := Aside0.mk (((YC.out.setCell (p := ⟨g, 1, none⟩) YD.out.fg (.slice none 0 0)).setCell (p := ⟨g, 2, none⟩) YD.out.fg (.bool false)).setCell (p := ⟨g, 3, none⟩) YD.out.fg (.bool false))
      clear hf e3 hi him hlt
      go_wp2_with fail
      go_end0
      exact ⟨rfl, ⟨_, _, Z.out⟩, ZC.out⟩
end Go.Proofs.Ytgakjpnfbgmjjaa.PA
