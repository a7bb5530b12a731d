/- Texts of this claim: contracts of the functions that the statement reaches, and plain laws of what they compute. -/
import Derived.Test.YtcallfgihohldaaDoorQQPlays1
set_option linter.unusedVariables false
set_option linter.unusedSimpArgs false
namespace Go.Proofs.YtcallfgihohldaaDoor.PA
section

open Go.RowKit Go.Proofs.YtcallfgihohldaaDoorW.PrintWords Go.Proofs.YtcallfgihohldaaDoorW.PrintLast Go.Proofs.YtcallfgihohldaaDoorW.PrintMore
attribute [local go_sem] max2_int min2_int max_two min_two max_three min_three max_four min_four
set_option linter.unusedVariables false
set_option linter.unusedSimpArgs false
theorem conv_scrib (W : World) (s : ByteArray) (hs : s.size ≤ 9223372036854775807) : ∃ c Wb, (convert 9 30 (.string s)).run Tryd.prog W = .ok (.slice (some ⟨W.heap.size, 0, none⟩) s.size c) Wb ∧ (Kd.int .u8).C Wb (some ⟨W.heap.size, 0, none⟩) (bytesOf s).length (bytesOf s) ∧ Below W.heap.size W Wb ∧ (∃ cs fr, Wb.heap[W.heap.size]? = some (.cells cs 5 fr) ∧ s.size ≤ cs.size ∧ ∀ V : World, ∀ ds, V.heap[W.heap.size]? = some (.cells ds 5 fr) → ∀ i, i < s.size → V.frozen? ⟨W.heap.size, i, none⟩ = false) := by
  refine ⟨_, _, print_bytes (P := Tryd.prog) 9 30 5 Tryd.underlying9 Tryd.underlying30 Tryd.underlying5 s W, ?_, bytes_below (Below.refl _ _) (Nat.le_refl _) 5 s, ⟨_, _, Lib.bytesWorld_at_new W 5 s, ?_, fun V ds hV i hi => ?_⟩⟩
  · rw [bytesOf_length]
    exact Kd.C_of_reads (enc := Value.int .u8) (d := (0 : Int)) (h1 := fun _ => rfl) (bytes_reads W 5 s hs)
  · have : s.data.size = s.size := rfl
    simp [Lib.bytesCells, this]
  · have h1 : s.size ≤ (Lib.bytesCells W 5 s).size := by
      have : s.data.size = s.size := rfl
      simp [Lib.bytesCells, this]
    unfold World.frozen?
    rw [hV]
    simp
    omega
theorem C_low {k : IntKind} {W V : World} {B : Nat} {A : Option Addr} {n : Nat} {l : List Int} (h : (Kd.int k).C W A n l) (hA : 0 < n → ∀ ad, A = some ad → ad.block < B) (hb : Below B W V) : (Kd.int k).C V A n l :=
  C_chg2 (F := fun k => B ≤ k) ⟨hb.os, hb.tape, hb.output, hb.size, fun k _ hF => hb.block k (by omega)⟩ (fun h0 ad e hF => by have := hA h0 ad e; omega) h
structure StepPre (W : World) (B : Nat) (F G : Nat → Prop) (g n : Nat) (S : BSt) (r : Nat) (R : RSt) : Prop where
  pair : Pair W B F G g n S r R
  sim : Sim S R n
  n : n ≤ 500000
def StepPost (W W' : World) (B g n r : Nat) (S : BSt) (L : List Int) : Prop :=
  ∃ F' G' S' R', Pair W' B F' G' g (n + 1) S' r R' ∧ Sim S' R' (n + 1) ∧ Below B W W' ∧ S'.outs.length ≤ S.outs.length + L.length
theorem put_shrinks (S : BSt) (nm : ByteArray) (b : List Int) : (S.put nm b).1.outs.length ≤ S.outs.length := by
  unfold BSt.put
  split
  · split
    · exact Nat.le_refl _
    · split
      · simp [BSt.next]
      · simp [BSt.next, BSt.set]
  · exact Nat.le_refl _
theorem get_shrinks (S : BSt) (nm : ByteArray) : (S.get nm).1.outs.length ≤ S.outs.length := by
  unfold BSt.get
  split
  · split
    · simp [BSt.next]
    · split <;> simp [BSt.next]
  · exact Nat.le_refl _
theorem del_shrinks (S : BSt) (nm : ByteArray) : (S.del nm).1.outs.length ≤ S.outs.length := by
  unfold BSt.del
  split
  · split
    · simp [BSt.next]
    · simp [BSt.next, BSt.set]
  · exact Nat.le_refl _
theorem swap_shrinks (S : BSt) (v : Int) (nm : ByteArray) : (S.swap v nm).1.outs.length ≤ S.outs.length := by
  unfold BSt.swap
  split
  · split <;> simp [BSt.next]
  · exact Nat.le_refl _
theorem next_shrinks (S : BSt) : S.next.outs.length ≤ S.outs.length := by simp [BSt.next]
theorem Pair.mono {W : World} {B : Nat} {F G : Nat → Prop} {g n m r : Nat} {S : BSt} {R : RSt} (P : Pair W B F G g n S r R) (h : n ≤ m) : Pair W B F G g m S r R :=
  ⟨⟨P.st.at_.mono h, P.st.ge, P.st.lt, P.st.hB⟩, P.rt, P.ge, P.lt, P.dis⟩
/-- What the writing over of a row of the caller's leaves. -/
theorem Pair.scrib {W W' : World} {B : Nat} {F G : Nat → Prop} {g n r : Nat} {S : BSt} {R : RSt} {A : Option Addr} {k t : Nat} (P : Pair W B F G g n S r R) (h : Scrib W W' A k t) (hA : 0 < k → ∀ ad, A = some ad → ¬ F ad.block ∧ ¬ G ad.block ∧ B ≤ ad.block) : Pair W' B F G g n S r R ∧ Below B W W' := by
  refine ⟨P.chg h.chg (fun q hq hH => ?_) (fun q hq hH => ?_), ⟨h.chg.os, h.chg.tape, h.chg.output, h.chg.size, fun q hq => h.chg.block q (Nat.lt_of_lt_of_le hq P.st.hB) (fun hH => ?_)⟩⟩
  · obtain ⟨h0, ad, e, rfl⟩ := hH
    exact (hA h0 ad e).1 hq
  · obtain ⟨h0, ad, e, rfl⟩ := hH
    exact (hA h0 ad e).2.1 hq
  · obtain ⟨h0, ad, e, rfl⟩ := hH
    have := (hA h0 ad e).2.2
    omega
theorem Mine.scrib {W W' : World} {F G : Nat → Prop} {q : Nat} {c : Obj} {A : Option Addr} {k t : Nat} (h : Mine W F G q c) (hs : Scrib W W' A k t) (hA : 0 < k → ∀ ad, A = some ad → ad.block ≠ q) : Mine W' F G q c :=
  h.chg hs.chg (fun hH => by
    obtain ⟨h0, ad, e, e2⟩ := hH
    exact hA h0 ad e e2.symm)
set_option maxHeartbeats 8000000 in
set_option maxRecDepth 100000 in
theorem step_k1 {W : World} {B : Nat} {F G : Nat → Prop} {g n r : Nat} {S : BSt} {R : RSt} (P : StepPre W B F G g n S r R) (nm dd : ByteArray) (N : Int) (A5 : Option Addr) (c5 : Nat) (L : List Int) (hd : dd.size ≤ 2000000) :
    Calls Tryd.prog 22 #[.pointer (some ⟨g, 0, none⟩), .pointer (some ⟨r, 0, none⟩), .agg #[.int .i64 1, .string nm, .string dd, .int .i64 N, .slice A5 L.length c5]] W fun e W' => e = .returned (.bool true) ∧ StepPost W W' B g n r S L := by
  obtain ⟨OB, hOB⟩ : ∃ o : Obj, o = .cells #[.int .i64 1, .string nm, .string dd, .int .i64 N, .slice A5 L.length c5] 51 := ⟨_, rfl⟩
  have P1 := P.pair.below (below_alloc (Below.refl _ _) OB)
  have M1 := P.pair.fresh (Nat.le_refl _) (heap_alloc_new W OB)
  have B1 : Below B W (W.alloc OB) := P.pair.st.bal (Below.refl _ _) OB
  obtain ⟨cc, wc, hcv, hC, hB, hrow⟩ := conv_scrib (W.alloc OB) dd (by omega)
  have hsz : (W.alloc OB).heap.size = W.heap.size + 1 := by simp
  obtain ⟨q5, hq5⟩ : ∃ q, q = W.heap.size := ⟨_, rfl⟩
  obtain ⟨qb, hqb⟩ : ∃ q, q = (W.alloc OB).heap.size := ⟨_, rfl⟩
  have P2 := Aside0.mk (P1.below hB)
  have M2 := Aside0.mk (M1.below hB)
  have B2 := Aside0.mk (P1.st.more B1 hB)
  obtain ⟨cs, fr, hr1, hr2, hr3⟩ := hrow
  have MB := Aside0.mk (P1.fresh (Nat.le_refl _) hr1)
  have HC := Aside0.mk hC
  have HR := Aside0.mk (And.intro hr2 hr3)
  have FC := Aside0.mk (P1.st.fresh)
  have XS := Aside0.mk P.sim
  have XN := Aside0.mk P.n
  have XQ := Aside0.mk (show B ≤ W.heap.size from P.pair.st.hB)
  rw [hsz] at MB HC HR FC hcv
  rw [hOB] at hcv M2
  have c1 : wc.cell? ⟨W.heap.size, 1, none⟩ = some (.string nm) := blk_cell M2.out.at_ 1
  have hd7 : dd.size ≤ 9223372036854775000 := by omega
  obtain ⟨S1, f, hp⟩ : ∃ S1 f, S.put nm (bytesOf dd) = (S1, f) := ⟨_, _, rfl⟩
  have HP := Aside0.mk hp
  clear P1 M1 B1 hB hr1 hr2 hr3 hC P hd hp hq5 hqb hOB hsz
  go_enter Tryd.func22, Tryd.ntmps22
  go_wp2_with fail
  refine (sat_put P2.out.st (by have := XN.out; omega) _ _ _ _ (bytesOf dd) (bytesOf_length dd).symm FC.out HC.out _ HP.out).mono ?_
  rintro e wd ⟨rfl, F2, hS, hW⟩
  have P3 := Aside0.mk (P2.out.store hW hS)
  have M3 := Aside0.mk (M2.out.store hW)
  have MB3 := Aside0.mk (MB.out.store hW)
  have B3 := Aside0.mk (P2.out.st.then B2.out hW)
  clear hS hW P2 M2 B2 MB c1 hcv
  go_wp2_with fail
  go_loopw [9] (fun v9 w' => ∃ j : Nat, j ≤ dd.size ∧ v9 = .int .i64 (j : Int) ∧ Aside0 (Scrib wd w' (some ⟨W.heap.size + 1, 0, none⟩) dd.size 5)) (fun v9 _ => ((dd.size : Int) - intOf v9).toNat)
  case atStart => exact ⟨0, Nat.zero_le _, rfl, ⟨Scrib.start fun _ => ⟨_, cs, fr, rfl, MB3.out.at_, HR.out.1, fun i hi => HR.out.2 wd cs MB3.out.at_ i hi⟩⟩⟩
  case round =>
    obtain ⟨j, hj, rfl, YS⟩ := hrel
    by_cases hlt : j < dd.size
    · have d1 : decide ((j : Int) < (dd.size : Int)) = true := decide_eq_true (by omega)
      have p1 : (0 : Int) ≤ (j : Int) := Int.natCast_nonneg _
      have p2 : (j : Int) < (dd.size : Int) := Int.ofNat_lt.2 hlt
      obtain ⟨q, u, e, hu, hf⟩ := YS.out.at_ hlt
      have e' : q = W.heap.size + 1 := by injection e with e; injection e with e; exact e.symm
      subst e'
      have HM : Aside0 (((dd.size : Int) - intOf (.int .i64 ((j + 1 : Nat) : Int))).toNat < ((dd.size : Int) - intOf (.int .i64 (j : Int))).toNat) := ⟨by simp [intOf]; omega⟩
      have YN := Aside0.mk (YS.out.set hlt (.int .u8 85) rfl)
      clear e
      go_wp2_with fail
      exact ⟨⟨j + 1, hlt, rfl, YN⟩, HM.out⟩
    · have d1 : decide ((j : Int) < (dd.size : Int)) = false := decide_eq_false (by omega)
      obtain ⟨hP4, hB4⟩ := P3.out.scrib YS.out (fun _ ad e => by { have e' := Option.some.inj e; subst e'; exact ⟨MB3.out.nf, MB3.out.ng, by have := XQ.out; show B ≤ W.heap.size + 1; omega⟩ })
      have hM4 := M3.out.scrib YS.out (fun _ ad e => by { have e' := Option.some.inj e; subst e'; show W.heap.size + 1 ≠ W.heap.size; omega })
      have c1 : wr.cell? ⟨W.heap.size, 1, none⟩ = some (.string nm) := blk_cell hM4.at_ 1
      have c2 : wr.cell? ⟨W.heap.size, 2, none⟩ = some (.string dd) := blk_cell hM4.at_ 2
      have P4 := Aside0.mk hP4
      have B4 := Aside0.mk (B3.out.trans hB4)
      clear hP4 hB4 hM4
      go_wp2_with fail
      refine (rput_calls P4.out.rt (by have := XS.out.len; have := XN.out; omega) nm dd).mono ?_
      rintro e we ⟨R', G', f', rfl, hR, hW, hcase⟩
      obtain ⟨h1, h2⟩ := XS.out.put hcase
      rw [HP.out] at h1 h2
      have P5 := Aside0.mk (P4.out.ref hW hR)
      have B5 := Aside0.mk (B4.out.trans (hW.under P4.out.ge P4.out.st.hB))
      have X2 := Aside0.mk h2
      obtain rfl : f = f' := h1
      clear hR hW hcase h2
      go_wp2_with fail
      go_ret
      refine ⟨by simp, F2, G', S1, R', P5.out, X2.out, B5.out, ?_⟩
      have := put_shrinks S nm (bytesOf dd)
      rw [HP.out] at this
      exact Nat.le_trans this (Nat.le_add_right _ _)
end
end Go.Proofs.YtcallfgihohldaaDoor.PA
namespace Go.Proofs.YtcallfgihohldaaDoor.PA
section

open Go.RowKit Go.Proofs.YtcallfgihohldaaDoorW.PrintWords Go.Proofs.YtcallfgihohldaaDoorW.PrintLast Go.Proofs.YtcallfgihohldaaDoorW.PrintMore
attribute [local go_sem] max2_int min2_int max_two min_two max_three min_three max_four min_four
set_option linter.unusedVariables false
set_option linter.unusedSimpArgs false
set_option maxHeartbeats 8000000 in
set_option maxRecDepth 100000 in
theorem step_k0 {W : World} {B : Nat} {F G : Nat → Prop} {g n r : Nat} {S : BSt} {R : RSt} (P : StepPre W B F G g n S r R) {k : Int} (hk : ∀ j ∈ [1, 2, 3, 4, 5, 6, 7], (k == (j : Int)) = false) (nm dd : ByteArray) (N : Int) (A5 : Option Addr) (c5 : Nat) (L : List Int) :
    Calls Tryd.prog 22 #[.pointer (some ⟨g, 0, none⟩), .pointer (some ⟨r, 0, none⟩), .agg #[.int .i64 k, .string nm, .string dd, .int .i64 N, .slice A5 L.length c5]] W fun e W' => e = .returned (.bool true) ∧ StepPost W W' B g n r S L := by
  obtain ⟨OB, hOB⟩ : ∃ o : Obj, o = .cells #[.int .i64 k, .string nm, .string dd, .int .i64 N, .slice A5 L.length c5] 51 := ⟨_, rfl⟩
  have P1 := Aside0.mk (P.pair.below (below_alloc (Below.refl _ _) OB))
  have M1 := Aside0.mk (P.pair.fresh (Nat.le_refl _) (heap_alloc_new W OB))
  have B1 : Aside0 (Below B W (W.alloc OB)) := ⟨P.pair.st.bal (Below.refl _ _) OB⟩
  have XS := Aside0.mk P.sim
  have XN := Aside0.mk P.n
  have XQ := Aside0.mk (show B ≤ W.heap.size from P.pair.st.hB)
  rw [hOB] at P1 M1 B1
  have P1d := Aside0.mk (P1.out.below (Below.drew (Below.refl _ _)))
  have M1d := Aside0.mk (M1.out.below (Below.drew (Below.refl _ _)))
  have B1d := Aside0.mk (B1.out.trans ((Below.drew (Below.refl _ _)).mono P1.out.st.hB))
  have e1 := hk 1 (by simp)
  have e2 := hk 2 (by simp)
  have e3 := hk 3 (by simp)
  have e4 := hk 4 (by simp)
  have e5 := hk 5 (by simp)
  have e6 := hk 6 (by simp)
  have e7 := hk 7 (by simp)
  obtain ⟨v0, v1, vo, hb, _⟩ := P1d.out.rt
  have c5' : (W.alloc (.cells #[.int .i64 k, .string nm, .string dd, .int .i64 N, .slice A5 L.length c5] 51)).drew.cell? ⟨r, 5, none⟩ = some (.int .i64 R.calls) := blk_cell hb 5
  have J5 := Aside0.mk c5'
  clear P hOB hk hb c5'
  go_enter Tryd.func22, Tryd.ntmps22
  go_upto_region 45 with fail
  refine wp_region_held_drew (S := (fun V : World => V.cell? ⟨r, 5, none⟩ = some (Value.int .i64 R.calls))) (by kernel_rfl) J5.out (fun hHeld => ?_)
  refine nd_take 0 hHeld ?_
  refine nd_take 2 hHeld ?_
  refine nd_take 3 hHeld ?_
  refine nd_take 4 hHeld ?_
  refine nd_take 5 hHeld ?_
  refine wpAnyH_ready (rs := [1]) (by kernel_rfl) (by simp) ?_
  refine (AllReadyH.cons rfl (fun K hK => ?_) AllReadyH.nil)
  go_simp
  refine (sat_calls P1d.out.st R.calls XS.out.calls).mono ?_
  rintro e w1 ⟨rfl, rfl⟩
  clear hHeld
  go_simp
  refine hK.out _ _ J5.out (fun hNew => ?_)
  clear hK K hNew
  have hHeld := J5.out
  refine nd_take 6 hHeld ?_
  refine nd_take 7 hHeld ?_
  refine wpAnyH_done (by kernel_rfl) ?_ _
  go_wp2_with fail
  go_ret
  exact ⟨by first | rfl | simp, F, G, S, R, P1d.out.mono (Nat.le_succ _), XS.out.mono (Nat.le_succ _), B1d.out, Nat.le_add_right _ _⟩
end
end Go.Proofs.YtcallfgihohldaaDoor.PA
namespace Go.Proofs.YtcallfgihohldaaDoor.PA
section

open Go.RowKit Go.Proofs.YtcallfgihohldaaDoorW.PrintWords Go.Proofs.YtcallfgihohldaaDoorW.PrintLast Go.Proofs.YtcallfgihohldaaDoorW.PrintMore
attribute [local go_sem] max2_int min2_int max_two min_two max_three min_three max_four min_four
set_option linter.unusedVariables false
set_option linter.unusedSimpArgs false
theorem bytes_own {W W' : World} {v : Value} {b : List Int} (h : BytesAt W' (fun k => W.heap.size ≤ k ∧ k < W'.heap.size) v b) : ∃ A c, v = .slice A b.length c ∧ (Kd.int .u8).C W' A b.length b ∧ b.length ≤ 60000 ∧ (0 < b.length → ∃ q cs, A = some ⟨q, 0, none⟩ ∧ W.heap.size ≤ q ∧ W'.heap[q]? = some (.cells cs 5 (0, 0)) ∧ b.length ≤ cs.size) := by
  obtain ⟨A, c, e, hC, hl⟩ := h.reads
  refine ⟨A, c, e, hC, hl, fun h0 => ?_⟩
  rcases h with ⟨A', _, h2⟩ | ⟨q, c', cs, h1, h2, h3, h4, h5⟩
  · rw [h2] at h0
    cases h0
  · rw [e] at h1
    injection h1 with h1 _ _
    refine ⟨q, cs, h1, h3.1, h4, ?_⟩
    rcases Nat.lt_or_ge cs.size b.length with h6 | h6
    · have := h5 cs.size h6
      rw [Array.getElem?_eq_none (Nat.le_refl _)] at this
      cases this
    · exact h6
set_option maxHeartbeats 8000000 in
set_option maxRecDepth 100000 in
theorem step_k2 {W : World} {B : Nat} {F G : Nat → Prop} {g n r : Nat} {S : BSt} {R : RSt} (P : StepPre W B F G g n S r R) (nm dd : ByteArray) (N : Int) (A5 : Option Addr) (c5 : Nat) (L : List Int) :
    Calls Tryd.prog 22 #[.pointer (some ⟨g, 0, none⟩), .pointer (some ⟨r, 0, none⟩), .agg #[.int .i64 2, .string nm, .string dd, .int .i64 N, .slice A5 L.length c5]] W fun e W' => e = .returned (.bool true) ∧ StepPost W W' B g n r S L := by
  obtain ⟨OB, hOB⟩ : ∃ o : Obj, o = .cells #[.int .i64 2, .string nm, .string dd, .int .i64 N, .slice A5 L.length c5] 51 := ⟨_, rfl⟩
  have P1 := Aside0.mk (P.pair.below (below_alloc (Below.refl _ _) OB))
  have M1 := Aside0.mk (P.pair.fresh (Nat.le_refl _) (heap_alloc_new W OB))
  have B1 : Aside0 (Below B W (W.alloc OB)) := ⟨P.pair.st.bal (Below.refl _ _) OB⟩
  have XS := Aside0.mk P.sim
  have XN := Aside0.mk P.n
  have XQ := Aside0.mk (show B ≤ W.heap.size from P.pair.st.hB)
  rw [hOB] at P1 M1 B1
  obtain ⟨S1, bb, f, hp⟩ : ∃ S1 bb f, S.get nm = (S1, bb, f) := ⟨_, _, _, rfl⟩
  have HP := Aside0.mk hp
  have hsz : (W.alloc (.cells #[.int .i64 2, .string nm, .string dd, .int .i64 N, .slice A5 L.length c5] 51)).heap.size = W.heap.size + 1 := by simp
  have HSZ := Aside0.mk hsz
  clear P hOB hp hsz
  go_enter Tryd.func22, Tryd.ntmps22
  go_wp2_with fail
  refine (sat_get P1.out.st nm _ HP.out).mono ?_
  rintro e wd ⟨v, rfl, hv, hS, hW⟩
  obtain ⟨A, c, rfl, hC, hl6, hrow⟩ := bytes_own (b := bb) hv
  have XB0 : Aside0 (0 < bb.length → ∃ q cs, A = some ⟨q, 0, none⟩ ∧ Mine wd F G q (.cells cs 5 (0, 0)) ∧ bb.length ≤ cs.size ∧ B ≤ q) := ⟨fun h0 => by
    obtain ⟨q, cs, h1, h2, h3, h4⟩ := hrow h0
    refine ⟨q, cs, h1, P1.out.fresh h2 h3, h4, ?_⟩
    have := HSZ.out
    have := XQ.out
    omega⟩
  have P2 := Aside0.mk (P1.out.store hW hS)
  have M2 := Aside0.mk (M1.out.store hW)
  have B2 := Aside0.mk (P1.out.st.then B1.out hW)
  have HC := Aside0.mk hC
  obtain ⟨nb, hnb⟩ : ∃ nb, nb = bb.length := ⟨_, rfl⟩
  have hnb6 : nb ≤ 60000 := by rw [hnb]; exact hl6
  rw [← hnb] at XB0 HC ⊢
  have c1 : wd.cell? ⟨W.heap.size, 1, none⟩ = some (.string nm) := blk_cell M2.out.at_ 1
  have XNB := Aside0.mk hnb
  clear hv hC hrow hS hW hnb hl6
  go_wp2_with fail
  refine (rget_calls P2.out.rt (by have := XS.out.len; have := XN.out; omega) nm).mono ?_
  rintro e we ⟨R', s, f', rfl, hR, hW, hcase⟩
  obtain ⟨h1, h2, h3⟩ := XS.out.get hcase
  rw [HP.out] at h1 h2 h3
  have P3 := Aside0.mk (P2.out.ref hW hR)
  have B3 := Aside0.mk (B2.out.trans (hW.under P2.out.ge P2.out.st.hB))
  have XB : Aside0 (0 < nb → ∃ q cs, A = some ⟨q, 0, none⟩ ∧ Mine we F G q (.cells cs 5 (0, 0)) ∧ nb ≤ cs.size ∧ B ≤ q) := ⟨fun h0 => by
    obtain ⟨q, cs, h1, h2, h3, h4⟩ := XB0.out h0
    exact ⟨q, cs, h1, h2.ref hW, h3, h4⟩⟩
  have hcv : ∀ c, (convert 30 9 (.slice A nb c)).run Tryd.prog we = .ok (.string s) we := fun c => by
    have hC3 := C_chg2 hW.chg (fun h0 ad e => by { obtain ⟨q, cs, h1, h2, _⟩ := XB0.out h0; rw [h1] at e; have e' := Option.some.inj e; subst e'; exact h2.ng }) HC.out
    rw [← h2]
    exact Kd.C_string (c := c) (P := Tryd.prog) (src := 30) (dst := 9) Tryd.underlying30 Tryd.underlying5 Tryd.underlying9 hC3
  have X2 := Aside0.mk h3
  obtain rfl : f = f' := h1
  have hss : (s.toList == s.toList) = true := by simp
  clear hR hW hcase h2 h3 XB0 HC
  go_wp2_with fail
  go_loopw [15] (fun vi w' => ∃ j : Nat, j ≤ nb ∧ vi = .int .i64 (j : Int) ∧ Aside0 (Scrib we w' A nb 5)) (fun vi _ => ((nb : Int) - intOf vi).toNat)
  case atStart => exact ⟨0, Nat.zero_le _, rfl, ⟨Scrib.start fun h0 => by { obtain ⟨q, cs, h1, h2, h3, _⟩ := XB.out h0; exact ⟨q, cs, _, h1, h2.at_, h3, fun i _ => blk_frozen h2.at_ i⟩ }⟩⟩
  case round =>
    obtain ⟨j, hj, rfl, YS⟩ := hrel
    by_cases hlt : j < nb
    · have d1 : decide ((j : Int) < (nb : Int)) = true := decide_eq_true (by omega)
      have p1 : (0 : Int) ≤ (j : Int) := Int.natCast_nonneg _
      have p2 : (j : Int) < (nb : Int) := Int.ofNat_lt.2 hlt
      obtain ⟨q, u, rfl, hu, hf⟩ := YS.out.at_ hlt
      have HM : Aside0 (((nb : Int) - intOf (.int .i64 ((j + 1 : Nat) : Int))).toNat < ((nb : Int) - intOf (.int .i64 (j : Int))).toNat) := ⟨by simp [intOf]; omega⟩
      have YN := Aside0.mk (YS.out.set hlt (.int .u8 170) rfl)
      go_wp2_with fail
      exact ⟨⟨j + 1, hlt, rfl, YN⟩, HM.out⟩
    · have d1 : decide ((j : Int) < (nb : Int)) = false := decide_eq_false (by omega)
      obtain ⟨hP4, hB4⟩ := P3.out.scrib YS.out (fun h0 ad e => by { obtain ⟨q, cs, h1, h2, _, h4⟩ := XB.out h0; rw [h1] at e; have e' := Option.some.inj e; subst e'; exact ⟨h2.nf, h2.ng, h4⟩ })
      have P4 := Aside0.mk hP4
      have B4 := Aside0.mk (B3.out.trans hB4)
      clear hP4 hB4
      go_wp2_with fail
      go_ret
      refine ⟨by first | rfl | simp, F, G, S1, R', P4.out.mono (Nat.le_succ _), X2.out.mono (Nat.le_succ _), B4.out, ?_⟩
      have hsh := get_shrinks S nm
      rw [HP.out] at hsh
      exact Nat.le_trans hsh (Nat.le_add_right _ _)
end
end Go.Proofs.YtcallfgihohldaaDoor.PA
namespace Go.Proofs.YtcallfgihohldaaDoor.PA
section

open Go.RowKit Go.Proofs.YtcallfgihohldaaDoorW.PrintWords Go.Proofs.YtcallfgihohldaaDoorW.PrintLast Go.Proofs.YtcallfgihohldaaDoorW.PrintMore
attribute [local go_sem] max2_int min2_int max_two min_two max_three min_three max_four min_four
set_option linter.unusedVariables false
set_option linter.unusedSimpArgs false
set_option maxHeartbeats 8000000 in
set_option maxRecDepth 100000 in
theorem step_k3 {W : World} {B : Nat} {F G : Nat → Prop} {g n r : Nat} {S : BSt} {R : RSt} (P : StepPre W B F G g n S r R) (nm dd : ByteArray) (N : Int) (A5 : Option Addr) (c5 : Nat) (L : List Int) :
    Calls Tryd.prog 22 #[.pointer (some ⟨g, 0, none⟩), .pointer (some ⟨r, 0, none⟩), .agg #[.int .i64 3, .string nm, .string dd, .int .i64 N, .slice A5 L.length c5]] W fun e W' => e = .returned (.bool true) ∧ StepPost W W' B g n r S L := by
  obtain ⟨OB, hOB⟩ : ∃ o : Obj, o = .cells #[.int .i64 3, .string nm, .string dd, .int .i64 N, .slice A5 L.length c5] 51 := ⟨_, rfl⟩
  have P1 := Aside0.mk (P.pair.below (below_alloc (Below.refl _ _) OB))
  have M1 := Aside0.mk (P.pair.fresh (Nat.le_refl _) (heap_alloc_new W OB))
  have B1 : Aside0 (Below B W (W.alloc OB)) := ⟨P.pair.st.bal (Below.refl _ _) OB⟩
  have XS := Aside0.mk P.sim
  have XN := Aside0.mk P.n
  have XQ := Aside0.mk (show B ≤ W.heap.size from P.pair.st.hB)
  rw [hOB] at P1 M1 B1
  obtain ⟨S1, f, hp⟩ : ∃ S1 f, S.del nm = (S1, f) := ⟨_, _, rfl⟩
  have HP := Aside0.mk hp
  have P1d := Aside0.mk (P1.out.below (Below.drew (Below.refl _ _)))
  have M1d := Aside0.mk (M1.out.below (Below.drew (Below.refl _ _)))
  have B1d := Aside0.mk (B1.out.trans ((Below.drew (Below.refl _ _)).mono P1.out.st.hB))
  clear P hOB hp
  go_enter Tryd.func22, Tryd.ntmps22
  go_wp2_with fail
  go_region_with (first | (go_at_call 20; refine (sat_del P1d.out.st nm _ HP.out).mono ?_; rintro e wd ⟨rfl, hS, hW⟩; have P2 := Aside0.mk (P1d.out.store hW hS); have M2 := Aside0.mk (M1d.out.store hW); have B2 := Aside0.mk (P1d.out.st.then B1d.out hW); have c1 : wd.cell? ⟨W.heap.size, 1, none⟩ = some (.string nm) := blk_cell M2.out.at_ 1; clear hS hW) | (go_at_call 32; refine (rdel_calls P2.out.rt (by have := XS.out.len; have := XN.out; omega) nm).mono ?_; rintro e we ⟨R', G', f', rfl, hR, hW, hcase⟩; obtain ⟨h1, h2⟩ := XS.out.del hcase; rw [HP.out] at h1 h2; have P3 := Aside0.mk (P2.out.ref hW hR); have B3 := Aside0.mk (B2.out.trans (hW.under P2.out.ge P2.out.st.hB)); have X2 := Aside0.mk h2; obtain rfl : f = f' := h1; clear hR hW hcase h2) | fail)
  all_goals
    go_wp2_with fail
    go_ret
    refine ⟨by first | rfl | simp, F, G', S1, R', P3.out.mono (Nat.le_succ _), X2.out.mono (Nat.le_succ _), B3.out, ?_⟩
    have hsh := del_shrinks S nm
    rw [HP.out] at hsh
    exact Nat.le_trans hsh (Nat.le_add_right _ _)
end
end Go.Proofs.YtcallfgihohldaaDoor.PA
namespace Go.Proofs.YtcallfgihohldaaDoor.PA
section

open Go.RowKit Go.Proofs.YtcallfgihohldaaDoorW.PrintWords Go.Proofs.YtcallfgihohldaaDoorW.PrintLast Go.Proofs.YtcallfgihohldaaDoorW.PrintMore
attribute [local go_sem] pr_leq pr_geq pr_gtr max2_int min2_int max_two min_two max_three min_three max_four min_four
set_option linter.unusedVariables false
set_option linter.unusedSimpArgs false
def cisternlaw02_sameTexts.l0 : Nat → List ByteArray → List ByteArray → Int → Option (Bool)
  | 0, _, _, _ => none
  | k + 1, x0, x1, x5 => if x5 < (x0.length : Int) then (if 0 ≤ x5 then (if x5 < (x1.length : Int) then (if (rdOf ByteArray.empty x0 x5).toList = (rdOf ByteArray.empty x1 x5).toList then (cisternlaw02_sameTexts.l0 k x0 x1 (wrap64 (x5 + 1))) else (some false)) else (none)) else (none)) else (some true)
def cisternlaw02_sameTexts.f (k : Nat) (l0 : List ByteArray) (l1 : List ByteArray) : Option (Bool) := if (l0.length : Int) = (l1.length : Int) then (cisternlaw02_sameTexts.l0 k l0 l1 0) else (some false)
set_option maxHeartbeats 8000000 in
set_option maxRecDepth 100000 in
theorem cisternlaw02_sameTexts.calls (k : Nat) (A0 : Option Addr) (c0 : Nat) (l0 : List ByteArray) (A1 : Option Addr) (c1 : Nat) (l1 : List ByteArray) (r : Bool) (w : World) (hr0 : Kd.C Kd.string w A0 l0.length l0) (hc0 : l0.length ≤ c0) (hr1 : Kd.C Kd.string w A1 l1.length l1) (hc1 : l1.length ≤ c1) (h : cisternlaw02_sameTexts.f k l0 l1 = some r) :
    Calls Tryd.prog 34 #[.slice A0 l0.length c0, .slice A1 l1.length c1] w fun e w' => e = .returned (.bool r) ∧ Drawn0 w w' := by
  have HR0 := Aside0.mk hr0
  have HC0 := Aside0.mk hc0
  clear hr0 hc0
  have HR1 := Aside0.mk hr1
  have HC1 := Aside0.mk hc1
  clear hr1 hc1
  have H : (if (l0.length : Int) = (l1.length : Int) then (cisternlaw02_sameTexts.l0 k l0 l1 0) else (some false)) = some r := h
  clear h
  by_cases c3 : (l0.length : Int) = (l1.length : Int)
  · rw [if_pos c3] at H
    have c3b0 : ((l0.length : Int) == (l1.length : Int)) = true := beq_iff_eq.mpr c3
    have c3b1 : ((l0.length : Int) != (l1.length : Int)) = false := bne_eq_false_iff_eq.mpr c3
    have c3b2 : (l0.length == l1.length) = true := by first | simpa using c3 | (simp at c3 ⊢; omega)
    clear c3
    have H' := Aside0.mk H
    clear H
    go_enter Tryd.func34, Tryd.ntmps34
    go_wp2
    repeat (go_quiet (fail); try go_wp2)
    go_loopg [5] k (fun kq v5 w' => ∃ (x5_1 : Int), v5 = .int .i64 x5_1 ∧ Aside0 (cisternlaw02_sameTexts.l0 kq l0 l1 x5_1 = some r) ∧ Aside0 (kq ≤ k) ∧ Drawn0 w w')
    case atStart => exact ⟨(0), (by first | rfl | (simp; done) | (simp [*]; done)), H', ⟨Nat.le_refl _⟩, by repeat (first | exact Drawn0.refl _ | apply Drawn0.step)⟩
    case round =>
      clear H'
      try clear c1
      try clear p2
      try clear c3
      try clear c3b0
      try clear c3b1
      try clear c3b2
      obtain ⟨x5_1, rfl, HA, HK1, ⟨m1, rfl⟩⟩ := hrel
      cases gk with
      | zero => exact absurd HA.out (by simp [cisternlaw02_sameTexts.l0])
      | succ k1 =>
        have H := HA.out
        clear HA
        simp only [cisternlaw02_sameTexts.l0] at H
        by_cases c4 : x5_1 < (l0.length : Int)
        · rw [if_pos c4] at H
          have c4b0 : decide (x5_1 < (l0.length : Int)) = true := decide_eq_true c4
          clear c4
          by_cases c5 : 0 ≤ x5_1
          · rw [if_pos c5] at H
            have c5b0 : decide (0 ≤ x5_1) = true := decide_eq_true c5
            clear c5
            by_cases c6 : x5_1 < (l1.length : Int)
            · rw [if_pos c6] at H
              have c6b0 : decide (x5_1 < (l1.length : Int)) = true := decide_eq_true c6
              clear c6
              by_cases c7 : (rdOf ByteArray.empty l0 x5_1).toList = (rdOf ByteArray.empty l1 x5_1).toList
              · rw [if_pos c7] at H
                have c7b0 : ((rdOf ByteArray.empty l0 x5_1).toList == (rdOf ByteArray.empty l1 x5_1).toList) = true := beq_iff_eq.mpr c7
                have c7b1 : ((rdOf ByteArray.empty l0 x5_1).toList != (rdOf ByteArray.empty l1 x5_1).toList) = false := bne_eq_false_iff_eq.mpr c7
                clear c7
                have H' := Aside0.mk H
                clear H
                have p230 : 0 ≤ (x5_1 : Int) := of_decide_eq_true (by first | (with_reducible assumption) | assumption)
                have q230 : x5_1 < (l0.length : Int) := of_decide_eq_true (by first | (with_reducible assumption) | assumption)
                obtain ⟨ad230, e230, hx230_0⟩ := Kd.at_string HR0.out x5_1 p230 q230
                cases e230
                replace p230 := eq_true p230
                replace q230 := eq_true q230
                have p231 : 0 ≤ (x5_1 : Int) := of_decide_eq_true (by first | (with_reducible assumption) | assumption)
                have q231 : x5_1 < (l1.length : Int) := of_decide_eq_true (by first | (with_reducible assumption) | assumption)
                obtain ⟨ad231, e231, hx231_0⟩ := Kd.at_string HR1.out x5_1 p231 q231
                cases e231
                replace p231 := eq_true p231
                replace q231 := eq_true q231
                go_wp2
                repeat (go_quiet (fail); try go_wp2)
                go_roundg k1
                case measure => have := HK1.out; omega
                case rel => exact ⟨(wrap64 (x5_1 + 1)), (by first | rfl | (simp; done) | (simp [*]; done)), H', ⟨by have := HK1.out; omega⟩, by repeat (first | exact Drawn0.refl _ | apply Drawn0.step)⟩
              · rw [if_neg c7] at H
                have c7b0 : ((rdOf ByteArray.empty l0 x5_1).toList == (rdOf ByteArray.empty l1 x5_1).toList) = false := beq_eq_false_iff_ne.mpr c7
                have c7b1 : ((rdOf ByteArray.empty l0 x5_1).toList != (rdOf ByteArray.empty l1 x5_1).toList) = true := bne_iff_ne.mpr c7
                obtain rfl := Option.some.inj H
                have p230 : 0 ≤ (x5_1 : Int) := of_decide_eq_true (by first | (with_reducible assumption) | assumption)
                have q230 : x5_1 < (l0.length : Int) := of_decide_eq_true (by first | (with_reducible assumption) | assumption)
                obtain ⟨ad230, e230, hx230_0⟩ := Kd.at_string HR0.out x5_1 p230 q230
                cases e230
                replace p230 := eq_true p230
                replace q230 := eq_true q230
                have p231 : 0 ≤ (x5_1 : Int) := of_decide_eq_true (by first | (with_reducible assumption) | assumption)
                have q231 : x5_1 < (l1.length : Int) := of_decide_eq_true (by first | (with_reducible assumption) | assumption)
                obtain ⟨ad231, e231, hx231_0⟩ := Kd.at_string HR1.out x5_1 p231 q231
                cases e231
                replace p231 := eq_true p231
                replace q231 := eq_true q231
                go_wp2
                repeat (go_quiet (fail); try go_wp2)
                go_ret
                exact ⟨by first | rfl | (simp; done) | (simp [*]; done), by repeat (first | exact Drawn0.refl _ | apply Drawn0.step)⟩
            · rw [if_neg c6] at H
              exact absurd H (by simp)
          · rw [if_neg c5] at H
            exact absurd H (by simp)
        · rw [if_neg c4] at H
          have c4b0 : decide (x5_1 < (l0.length : Int)) = false := decide_eq_false c4
          clear c4
          obtain rfl := Option.some.inj H
          go_wp2
          repeat (go_quiet (fail); try go_wp2)
          go_ret
          exact ⟨by first | rfl | (simp; done) | (simp [*]; done), by repeat (first | exact Drawn0.refl _ | apply Drawn0.step)⟩
  · rw [if_neg c3] at H
    have c3b0 : ((l0.length : Int) == (l1.length : Int)) = false := beq_eq_false_iff_ne.mpr c3
    have c3b1 : ((l0.length : Int) != (l1.length : Int)) = true := bne_iff_ne.mpr c3
    have c3b2 : (l0.length == l1.length) = false := by first | simpa using c3 | (simp at c3 ⊢; omega)
    obtain rfl := Option.some.inj H
    go_enter Tryd.func34, Tryd.ntmps34
    go_wp2
    repeat (go_quiet (fail); try go_wp2)
    go_ret
    exact ⟨by first | rfl | (simp; done) | (simp [*]; done), by repeat (first | exact Drawn0.refl _ | apply Drawn0.step)⟩

-- NOT PRINTED: function 35 (cisternref02_Store_Root)

-- NOT PRINTED: function 36 (cisternref02_Store_Swap)

-- NOT PRINTED: function 22 (cisternlaw02_step)

-- NOT PRINTED: function 8 (cisternlaw02_BlobPlays)
end
end Go.Proofs.YtcallfgihohldaaDoor.PA
namespace Go.Proofs.YtcallfgihohldaaDoor.PA
section

open Go.RowKit Go.Proofs.YtcallfgihohldaaDoorW.PrintWords Go.Proofs.YtcallfgihohldaaDoorW.PrintLast Go.Proofs.YtcallfgihohldaaDoorW.PrintMore
attribute [local go_sem] max2_int min2_int max_two min_two max_three min_three max_four min_four
set_option linter.unusedVariables false
set_option linter.unusedSimpArgs false
theorem Cs_chg2 {W W' : World} {F : Nat → Prop} {A : Option Addr} {n : Nat} {l : List ByteArray} (hc : Chg F W W') (hA : 0 < n → ∀ ad, A = some ad → ¬ F ad.block) (h : Kd.C Kd.string W A n l) : Kd.C Kd.string W' A n l :=
  ⟨h.1, h.2.1, fun h0 => by
    obtain ⟨ad, e, hh⟩ := h.2.2 h0
    refine ⟨ad, e, fun j p hj => ?_⟩
    obtain ⟨cs, h1, h2, h3⟩ := hh j p hj
    refine ⟨cs, h1, h2, fun q u hu => ?_⟩
    have h4 := h3 q u hu
    have h5 := cell_blk_lt h4
    exact (cell_of_blk (hc.block _ h5 (by rw [add_block]; exact hA h0 ad e))).trans h4⟩
theorem sat_list2 {W : World} {B : Nat} {F : Nat → Prop} {g n : Nat} {S : BSt} (h : SAt W B F g n S) (hn : n ≤ 1000000) (o : Int) (ho : S.o = o) :
    Calls Tryd.prog 21 #[.pointer (some ⟨g, 0, none⟩)] W fun e W' => ∃ (A : Option Addr) (c : Nat) (L : List ByteArray), e = .returned (.tuple #[.slice A L.length c, .int .i64 (if o = 0 then 0 else 15)]) ∧ L.length ≤ c ∧ Kd.C Kd.string W' A L.length L ∧ (o = 0 → KeysOf S.m L) ∧ (o ≠ 0 → L = []) ∧
      (0 < L.length → ∃ q cs, A = some ⟨q, 0, none⟩ ∧ W.heap.size ≤ q ∧ W'.heap[q]? = some (.cells cs 9 (0, 0)) ∧ L.length ≤ cs.size) ∧ SAt W' B F g n S.next ∧ Went F F W W' := by
  subst ho
  refine (list_calls h.at_ hn).mono ?_
  rintro e W' ⟨v, L, rfl, hR, hK, h0, hb, hW⟩
  obtain ⟨A, c, e, hc, hC⟩ := (StrAt.of_own (W0 := W) (G := fun _ => False) hR).1.form
  subst e
  refine ⟨A, c, L, rfl, hc, hC, hK, h0, fun hp => ?_, h.went hW hb, hW⟩
  rcases hR.2 with ⟨_, h1⟩ | ⟨q, cap, cur, e, hbg, hgb, hnc, hcm, hcs, htake⟩
  · omega
  · injection e with e _ _
    exact ⟨q, cur, e, hbg, hgb, by omega⟩
theorem same_l0 (L : List ByteArray) (hl : L.length ≤ 1000000) : ∀ (k i : Nat), i ≤ L.length → L.length - i < k → cisternlaw02_sameTexts.l0 k L L (i : Int) = some true
  | 0, _, _, h => absurd h (Nat.not_lt_zero _)
  | k + 1, i, hi, hk => by
    unfold cisternlaw02_sameTexts.l0
    by_cases h : i < L.length
    · have ih := same_l0 L hl k (i + 1) h (by omega)
      have hw : wrap64 ((i : Int) + 1) = ((i + 1 : Nat) : Int) := by unfold wrap64; omega
      rw [if_pos (by omega), if_pos (by omega), if_pos (by omega), if_pos rfl, hw, ih]
    · rw [if_neg (by omega)]
theorem same_val (L : List ByteArray) (hl : L.length ≤ 1000000) : cisternlaw02_sameTexts.f (L.length + 1) L L = some true := by
  unfold cisternlaw02_sameTexts.f
  rw [if_pos rfl]
  exact same_l0 L hl (L.length + 1) 0 (Nat.zero_le _) (by omega)
set_option maxHeartbeats 8000000 in
set_option maxRecDepth 100000 in
theorem step_k4 {W : World} {B : Nat} {F G : Nat → Prop} {g n r : Nat} {S : BSt} {R : RSt} (P : StepPre W B F G g n S r R) (nm dd : ByteArray) (N : Int) (A5 : Option Addr) (c5 : Nat) (L : List Int) :
    Calls Tryd.prog 22 #[.pointer (some ⟨g, 0, none⟩), .pointer (some ⟨r, 0, none⟩), .agg #[.int .i64 4, .string nm, .string dd, .int .i64 N, .slice A5 L.length c5]] W fun e W' => e = .returned (.bool true) ∧ StepPost W W' B g n r S L := by
  obtain ⟨OB, hOB⟩ : ∃ o : Obj, o = .cells #[.int .i64 4, .string nm, .string dd, .int .i64 N, .slice A5 L.length c5] 51 := ⟨_, rfl⟩
  have P1 := Aside0.mk (P.pair.below (below_alloc (Below.refl _ _) OB))
  have M1 := Aside0.mk (P.pair.fresh (Nat.le_refl _) (heap_alloc_new W OB))
  have B1 : Aside0 (Below B W (W.alloc OB)) := ⟨P.pair.st.bal (Below.refl _ _) OB⟩
  have XS := Aside0.mk P.sim
  have XN := Aside0.mk P.n
  have XQ := Aside0.mk (show B ≤ W.heap.size from P.pair.st.hB)
  rw [hOB] at P1 M1 B1
  have ho := XS.out.o
  have HO := Aside0.mk ho
  have hsz : (W.alloc (.cells #[.int .i64 4, .string nm, .string dd, .int .i64 N, .slice A5 L.length c5] 51)).heap.size = W.heap.size + 1 := by simp
  have HSZ := Aside0.mk hsz
  obtain ⟨S1, hS1⟩ : ∃ S1, S1 = S.next := ⟨_, rfl⟩
  obtain ⟨R', hR'⟩ : ∃ R', R' = R.next := ⟨_, rfl⟩
  have HS1 := Aside0.mk hS1
  have HR' := Aside0.mk hR'
  obtain ⟨ef, hef⟩ : ∃ ef : Int, ef = if R.o = 0 then 0 else 15 := ⟨_, rfl⟩
  have HEF := Aside0.mk hef
  clear P hOB ho hsz hS1 hR' hef
  go_enter Tryd.func22, Tryd.ntmps22
  go_wp2_with fail
  refine (sat_list2 P1.out.st (by have := XN.out; omega) R.o HO.out).mono ?_
  rintro e wd ⟨A, c, L4, rfl, hc, hC, hK, hE, hrow, hS, hW⟩
  have hl6 : L4.length ≤ 1000000 := by
    by_cases h0 : R.o = 0
    · rw [(hK h0).eq XS.out.keys, List.length_map]
      have := XS.out.len
      have := XN.out
      omega
    · rw [hE h0]
      simp
  rw [← HEF.out]
  have XB0 : Aside0 (0 < L4.length → ∃ q cs, A = some ⟨q, 0, none⟩ ∧ Mine wd F G q (.cells cs 9 (0, 0)) ∧ L4.length ≤ cs.size ∧ B ≤ q) := ⟨fun h0 => by
    obtain ⟨q, cs, h1, h2, h3, h4⟩ := hrow h0
    refine ⟨q, cs, h1, P1.out.fresh h2 h3, h4, ?_⟩
    have := HSZ.out
    have := XQ.out
    omega⟩
  have P2 := Aside0.mk (P1.out.store hW hS)
  have B2 := Aside0.mk (P1.out.st.then B1.out hW)
  have HC := Aside0.mk (And.intro hc hC)
  have HKE := Aside0.mk (And.intro hK hE)
  obtain ⟨nb, hnb⟩ : ∃ nb, nb = L4.length := ⟨_, rfl⟩
  have hnb6 : nb ≤ 1000000 := by rw [hnb]; exact hl6
  rw [← hnb] at XB0 ⊢
  have XNB := Aside0.mk hnb
  clear hc hC hK hE hrow hS hW hnb hl6
  go_wp2_with fail
  refine (rlist_calls P2.out.rt (by have := XS.out.len; have := XN.out; omega)).mono ?_
  rintro e wx ⟨A2, c2, L2, rfl, hc2, hC2, _, hl0, hl1, hR, hW⟩
  rw [← HEF.out]
  have hLL : L4 = L2 := by
    by_cases h0 : R.o = 0
    · rw [hl0 h0]
      exact (HKE.out.1 h0).eq XS.out.keys
    · rw [hl1 h0, HKE.out.2 h0]
  subst hLL
  have P3x := Aside0.mk (P2.out.ref hW hR)
  have B3x := Aside0.mk (B2.out.trans (hW.under P2.out.ge P2.out.st.hB))
  have XB1 : Aside0 (0 < nb → ∃ q cs, A = some ⟨q, 0, none⟩ ∧ Mine wx F G q (.cells cs 9 (0, 0)) ∧ nb ≤ cs.size ∧ B ≤ q) := ⟨fun h0 => by
    obtain ⟨q, cs, h1, h2, h3, h4⟩ := XB0.out h0
    exact ⟨q, cs, h1, h2.ref hW, h3, h4⟩⟩
  have hC1 : Kd.C Kd.string wx A L4.length L4 := Cs_chg2 hW.chg (fun h0 ad e => by { obtain ⟨q, cs, h1, h2, _⟩ := XB0.out (by rw [XNB.out]; exact h0); rw [h1] at e; have e' := Option.some.inj e; subst e'; exact h2.ng }) HC.out.2
  have hcall := cisternlaw02_sameTexts.calls (L4.length + 1) A c L4 A2 c2 L4 true wx hC1 HC.out.1 hC2 hc2 (same_val L4 (by rw [← XNB.out]; exact hnb6))
  rw [← XNB.out] at hcall ⊢
  have HCALL := Aside0.mk hcall
  clear hC1 hcall hc2 hC2 hl0 hl1 hR hW XB0 HC
  go_wp2_with fail
  refine HCALL.out.mono ?_
  rintro e we ⟨rfl, ⟨m, rfl⟩⟩
  obtain ⟨we, hwe⟩ : ∃ w, w = wx.drewN m := ⟨_, rfl⟩
  have hBd : Below wx.heap.size wx we := by rw [hwe]; exact pw_below_drewN (Below.refl _ _) _
  rw [← hwe]
  have P3 := Aside0.mk (P3x.out.below hBd)
  have B3 := Aside0.mk (B3x.out.trans (hBd.mono P3x.out.st.hB))
  have XB : Aside0 (0 < nb → ∃ q cs, A = some ⟨q, 0, none⟩ ∧ Mine we F G q (.cells cs 9 (0, 0)) ∧ nb ≤ cs.size ∧ B ≤ q) := ⟨fun h0 => by
    obtain ⟨q, cs, h1, h2, h3, h4⟩ := XB1.out h0
    exact ⟨q, cs, h1, h2.below hBd, h3, h4⟩⟩
  rw [← HS1.out, ← HR'.out] at P3
  have X2 : Aside0 (Sim S1 R' n) := ⟨by rw [HS1.out, HR'.out]; exact XS.out.next⟩
  clear hBd hwe P3x B3x XB1 HCALL
  go_wp2_with fail
  go_loopw [21] (fun vi w' => ∃ j : Nat, j ≤ nb ∧ vi = .int .i64 (j : Int) ∧ Aside0 (Scrib we w' A nb 9)) (fun vi _ => ((nb : Int) - intOf vi).toNat)
  case atStart => exact ⟨0, Nat.zero_le _, rfl, ⟨Scrib.start fun h0 => by { obtain ⟨q, cs, h1, h2, h3, _⟩ := XB.out h0; exact ⟨q, cs, _, h1, h2.at_, h3, fun i _ => blk_frozen h2.at_ i⟩ }⟩⟩
  case round =>
    obtain ⟨j, hj, rfl, YS⟩ := hrel
    by_cases hlt : j < nb
    · have d1 : decide ((j : Int) < (nb : Int)) = true := decide_eq_true (by omega)
      have p1 : (0 : Int) ≤ (j : Int) := Int.natCast_nonneg _
      have p2 : (j : Int) < (nb : Int) := Int.ofNat_lt.2 hlt
      obtain ⟨q, u, rfl, hu, hf⟩ := YS.out.at_ hlt
      have HM : Aside0 (((nb : Int) - intOf (.int .i64 ((j + 1 : Nat) : Int))).toNat < ((nb : Int) - intOf (.int .i64 (j : Int))).toNat) := ⟨by simp [intOf]; omega⟩
      have YN := Aside0.mk (YS.out.set hlt (.string ⟨#[33]⟩) rfl)
      go_wp2_with fail
      exact ⟨⟨j + 1, hlt, rfl, YN⟩, HM.out⟩
    · have d1 : decide ((j : Int) < (nb : Int)) = false := decide_eq_false (by omega)
      obtain ⟨hP4, hB4⟩ := P3.out.scrib YS.out (fun h0 ad e => by { obtain ⟨q, cs, h1, h2, _, h4⟩ := XB.out h0; rw [h1] at e; have e' := Option.some.inj e; subst e'; exact ⟨h2.nf, h2.ng, h4⟩ })
      have P4 := Aside0.mk hP4
      have B4 := Aside0.mk (B3.out.trans hB4)
      clear hP4 hB4
      go_wp2_with fail
      go_ret
      refine ⟨by first | rfl | simp, F, G, S1, R', P4.out.mono (Nat.le_succ _), X2.out.mono (Nat.le_succ _), B4.out, ?_⟩
      rw [HS1.out]
      exact Nat.le_trans (next_shrinks S) (Nat.le_add_right _ _)
end
end Go.Proofs.YtcallfgihohldaaDoor.PA
namespace Go.Proofs.YtcallfgihohldaaDoor.PA
section

open Go.RowKit Go.Proofs.YtcallfgihohldaaDoorW.PrintWords Go.Proofs.YtcallfgihohldaaDoorW.PrintLast Go.Proofs.YtcallfgihohldaaDoorW.PrintMore
attribute [local go_sem] max2_int min2_int max_two min_two max_three min_three max_four min_four
set_option linter.unusedVariables false
set_option linter.unusedSimpArgs false
set_option maxHeartbeats 8000000 in
set_option maxRecDepth 100000 in
theorem step_k5 {W : World} {B : Nat} {F G : Nat → Prop} {g n r : Nat} {S : BSt} {R : RSt} (P : StepPre W B F G g n S r R) (nm dd : ByteArray) (N : Int) (A5 : Option Addr) (c5 : Nat) (L : List Int) :
    Calls Tryd.prog 22 #[.pointer (some ⟨g, 0, none⟩), .pointer (some ⟨r, 0, none⟩), .agg #[.int .i64 5, .string nm, .string dd, .int .i64 N, .slice A5 L.length c5]] W fun e W' => e = .returned (.bool true) ∧ StepPost W W' B g n r S L := by
  obtain ⟨OB, hOB⟩ : ∃ o : Obj, o = .cells #[.int .i64 5, .string nm, .string dd, .int .i64 N, .slice A5 L.length c5] 51 := ⟨_, rfl⟩
  have P1 := Aside0.mk (P.pair.below (below_alloc (Below.refl _ _) OB))
  have M1 := Aside0.mk (P.pair.fresh (Nat.le_refl _) (heap_alloc_new W OB))
  have B1 : Aside0 (Below B W (W.alloc OB)) := ⟨P.pair.st.bal (Below.refl _ _) OB⟩
  have XS := Aside0.mk P.sim
  have XN := Aside0.mk P.n
  have XQ := Aside0.mk (show B ≤ W.heap.size from P.pair.st.hB)
  rw [hOB] at P1 M1 B1
  clear P hOB
  have ho := XS.out.o
  have hv := XS.out.ver
  have hr := XS.out.root
  have HR : Aside0 (S.rootOf = if R.o = 0 then (S.next, R.ver, R.root, 0) else (S.next, 0, ⟨#[]⟩, 15)) := ⟨by unfold BSt.rootOf; rw [ho, hv, hr]; by_cases h : R.o = 0 <;> simp [h]⟩
  clear ho hv hr
  by_cases h0 : R.o = 0
  · rw [if_pos h0] at HR
    have X0 := Aside0.mk h0
    clear h0
    go_enter Tryd.func22, Tryd.ntmps22
    go_wp2_with fail
    refine (sat_root P1.out.st _ HR.out).mono ?_
    rintro e wd ⟨rfl, hS, hW⟩
    have P2 := Aside0.mk (P1.out.store hW hS)
    have B2 := Aside0.mk (P1.out.st.then B1.out hW)
    clear hS hW
    go_wp2_with fail
    refine (rroot_calls P2.out.rt).mono ?_
    rintro e we ⟨rfl, hR, hW⟩
    rw [if_pos X0.out]
    have P3 := Aside0.mk (P2.out.ref hW hR)
    have B3 := Aside0.mk (B2.out.trans (hW.under P2.out.ge P2.out.st.hB))
    clear hR hW
    go_wp2_with fail
    go_ret
    exact ⟨by simp, F, G, S.next, R.next, P3.out.mono (Nat.le_succ _), XS.out.next.mono (Nat.le_succ _), B3.out, Nat.le_trans (next_shrinks S) (Nat.le_add_right _ _)⟩
  · rw [if_neg h0] at HR
    have X0 := Aside0.mk h0
    clear h0
    go_enter Tryd.func22, Tryd.ntmps22
    go_wp2_with fail
    refine (sat_root P1.out.st _ HR.out).mono ?_
    rintro e wd ⟨rfl, hS, hW⟩
    have P2 := Aside0.mk (P1.out.store hW hS)
    have B2 := Aside0.mk (P1.out.st.then B1.out hW)
    clear hS hW
    go_wp2_with fail
    refine (rroot_calls P2.out.rt).mono ?_
    rintro e we ⟨rfl, hR, hW⟩
    rw [if_neg X0.out]
    have P3 := Aside0.mk (P2.out.ref hW hR)
    have B3 := Aside0.mk (B2.out.trans (hW.under P2.out.ge P2.out.st.hB))
    clear hR hW
    go_wp2_with fail
    go_ret
    exact ⟨by simp, F, G, S.next, R.next, P3.out.mono (Nat.le_succ _), XS.out.next.mono (Nat.le_succ _), B3.out, Nat.le_trans (next_shrinks S) (Nat.le_add_right _ _)⟩
end
end Go.Proofs.YtcallfgihohldaaDoor.PA
namespace Go.Proofs.YtcallfgihohldaaDoor.PA
section

open Go.RowKit Go.Proofs.YtcallfgihohldaaDoorW.PrintWords Go.Proofs.YtcallfgihohldaaDoorW.PrintLast Go.Proofs.YtcallfgihohldaaDoorW.PrintMore
attribute [local go_sem] max2_int min2_int max_two min_two max_three min_three max_four min_four
set_option linter.unusedVariables false
set_option linter.unusedSimpArgs false
theorem Sim.swap {S : BSt} {R : RSt} {n : Nat} (h : Sim S R n) (v : Int) (nm : ByteArray) : (S.swap v nm).2 = (R.swap v nm).2 ∧ Sim (S.swap v nm).1 (R.swap v nm).1 n := by
  have hx := h.next
  unfold BSt.swap RSt.swap
  rw [h.o, h.ver]
  cases hB : nameB nm
  · exact ⟨rfl, h⟩
  · rw [if_pos rfl, if_pos rfl]
    refine ⟨rfl, ?_⟩
    by_cases hc : R.o ≠ 1 ∧ v = R.ver
    · rw [if_pos hc, if_pos hc]
      exact ⟨rfl, rfl, hx.outs, hx.calls, hx.look, hx.srt, hx.size, hx.len⟩
    · rw [if_neg hc, if_neg hc]
      exact hx
set_option maxHeartbeats 8000000 in
set_option maxRecDepth 100000 in
theorem step_k6 {W : World} {B : Nat} {F G : Nat → Prop} {g n r : Nat} {S : BSt} {R : RSt} (P : StepPre W B F G g n S r R) (nm dd : ByteArray) (N : Int) (A5 : Option Addr) (c5 : Nat) (L : List Int) :
    Calls Tryd.prog 22 #[.pointer (some ⟨g, 0, none⟩), .pointer (some ⟨r, 0, none⟩), .agg #[.int .i64 6, .string nm, .string dd, .int .i64 N, .slice A5 L.length c5]] W fun e W' => e = .returned (.bool true) ∧ StepPost W W' B g n r S L := by
  obtain ⟨OB, hOB⟩ : ∃ o : Obj, o = .cells #[.int .i64 6, .string nm, .string dd, .int .i64 N, .slice A5 L.length c5] 51 := ⟨_, rfl⟩
  have P1 := Aside0.mk (P.pair.below (below_alloc (Below.refl _ _) OB))
  have M1 := Aside0.mk (P.pair.fresh (Nat.le_refl _) (heap_alloc_new W OB))
  have B1 : Aside0 (Below B W (W.alloc OB)) := ⟨P.pair.st.bal (Below.refl _ _) OB⟩
  have XS := Aside0.mk P.sim
  have XN := Aside0.mk P.n
  have XQ := Aside0.mk (show B ≤ W.heap.size from P.pair.st.hB)
  rw [hOB] at P1 M1 B1
  obtain ⟨S1, f, hp⟩ : ∃ S1 f, S.swap N nm = (S1, f) := ⟨_, _, rfl⟩
  have HP := Aside0.mk hp
  have P1d := Aside0.mk (P1.out.below (Below.drew (Below.refl _ _)))
  have M1d := Aside0.mk (M1.out.below (Below.drew (Below.refl _ _)))
  have B1d := Aside0.mk (B1.out.trans ((Below.drew (Below.refl _ _)).mono P1.out.st.hB))
  have j1 : (W.alloc (.cells #[.int .i64 6, .string nm, .string dd, .int .i64 N, .slice A5 L.length c5] 51)).drew.cell? ⟨W.heap.size, 1, none⟩ = some (.string nm) := blk_cell M1d.out.at_ 1
  have j3 : (W.alloc (.cells #[.int .i64 6, .string nm, .string dd, .int .i64 N, .slice A5 L.length c5] 51)).drew.cell? ⟨W.heap.size, 3, none⟩ = some (.int .i64 N) := blk_cell M1d.out.at_ 3
  have hj := And.intro j1 j3
  have HJ := Aside0.mk hj
  clear P hOB hp hj j1 j3
  go_enter Tryd.func22, Tryd.ntmps22
  go_upto_region 35 with fail
  refine wp_region_held_drew (S := (fun V : World => V.cell? ⟨W.heap.size, 1, none⟩ = some (Value.string nm) ∧ V.cell? ⟨W.heap.size, 3, none⟩ = some (Value.int .i64 N))) (by kernel_rfl) HJ.out (fun hHeld => ?_)
  refine nd_take 0 hHeld ?_
  refine nd_take 1 hHeld ?_
  refine nd_take 2 hHeld ?_
  refine nd_take 3 hHeld ?_
  refine nd_take 4 hHeld ?_
  refine nd_take 6 hHeld ?_
  refine nd_take 7 hHeld ?_
  refine nd_take 8 hHeld ?_
  refine nd_take 9 hHeld ?_
  refine nd_take 10 hHeld ?_
  refine wpAnyH_ready (rs := [5]) (by kernel_rfl) (by simp) ?_
  refine (AllReadyH.cons rfl (fun K hK => ?_) AllReadyH.nil)
  go_simp
  refine (sat_swap P1d.out.st N nm _ HP.out).mono ?_
  rintro e wd ⟨rfl, hS, hW⟩
  have P2 := Aside0.mk (P1d.out.store hW hS)
  have M2 := Aside0.mk (M1d.out.store hW)
  have B2 := Aside0.mk (P1d.out.st.then B1d.out hW)
  have J2 : Aside0 ((fun V : World => V.cell? ⟨W.heap.size, 1, none⟩ = some (Value.string nm) ∧ V.cell? ⟨W.heap.size, 3, none⟩ = some (Value.int .i64 N)) wd) := ⟨⟨blk_cell M2.out.at_ 1, blk_cell M2.out.at_ 3⟩⟩
  clear hS hW hHeld
  go_simp
  refine hK.out _ _ J2.out (fun hNew => ?_)
  clear hK K hNew
  have hHeld := J2.out
  refine wpAnyH_ready (rs := [11]) (by kernel_rfl) (by simp) ?_
  refine (AllReadyH.cons rfl (fun K hK => ?_) AllReadyH.nil)
  go_simp
  refine (rswap_calls P2.out.rt N nm).mono ?_
  rintro e we ⟨rfl, hR, hW⟩
  obtain ⟨h1, h2⟩ := XS.out.swap N nm
  rw [HP.out] at h1 h2
  have P3 := Aside0.mk (P2.out.ref hW hR)
  have B3 := Aside0.mk (B2.out.trans (hW.under P2.out.ge P2.out.st.hB))
  have X2 := Aside0.mk h2
  have M3 := Aside0.mk (M2.out.ref hW)
  have J3 : Aside0 ((fun V : World => V.cell? ⟨W.heap.size, 1, none⟩ = some (Value.string nm) ∧ V.cell? ⟨W.heap.size, 3, none⟩ = some (Value.int .i64 N)) we) := ⟨⟨blk_cell M3.out.at_ 1, blk_cell M3.out.at_ 3⟩⟩
  obtain ⟨f', hf'⟩ : ∃ f', f' = (R.swap N nm).2 := ⟨_, rfl⟩
  rw [← hf'] at h1 ⊢
  obtain rfl : f = f' := h1
  clear hR hW hf' h2 hHeld
  go_simp
  refine hK.out _ _ J3.out (fun hNew => ?_)
  clear hK K hNew
  have hHeld := J3.out
  refine nd_take 12 hHeld ?_
  refine nd_take 13 hHeld ?_
  refine wpAnyH_done (by kernel_rfl) ?_ _
  go_wp2_with fail
  go_ret
  refine ⟨by first | rfl | simp, F, G, S1, _, P3.out.mono (Nat.le_succ _), X2.out.mono (Nat.le_succ _), B3.out, ?_⟩
  have hsh := swap_shrinks S N nm
  rw [HP.out] at hsh
  exact Nat.le_trans hsh (Nat.le_add_right _ _)
end
end Go.Proofs.YtcallfgihohldaaDoor.PA
namespace Go.Proofs.YtcallfgihohldaaDoor.PA
section

open Go.RowKit Go.Proofs.YtcallfgihohldaaDoorW.PrintWords Go.Proofs.YtcallfgihohldaaDoorW.PrintLast Go.Proofs.YtcallfgihohldaaDoorW.PrintMore
attribute [local go_sem] max2_int min2_int max_two min_two max_three min_three max_four min_four
set_option linter.unusedVariables false
set_option linter.unusedSimpArgs false
theorem OutAt.reads {W : World} {F : Nat → Prop} {v : Value} {l : List Int} (h : OutAt W F v l) (hl : l.length ≤ 10000000) : ∃ A c, v = .slice A l.length c ∧ (Kd.int .i64).C W A l.length l := by
  rcases h with ⟨A, rfl, rfl⟩ | ⟨g, off, c, cs, rfl, h2, h3, h4, h5, h6, h7, h8⟩
  · exact ⟨A, 0, rfl, ⟨rfl, by simp, fun h => absurd h (by simp)⟩⟩
  · refine ⟨_, c, rfl, ⟨rfl, by omega, fun _ => ⟨_, rfl, fun j p hj => ⟨[.int .i64 p], rfl, rfl, fun r u hu => ?_⟩⟩⟩⟩
    obtain ⟨hjl, rfl⟩ := List.getElem?_eq_some_iff.1 hj
    cases r with
    | zero =>
      simp only [List.getElem?_cons_zero, Option.some.injEq] at hu
      subst hu
      rw [show j * (Kd.int .i64).sz + 0 = j from Nat.mul_one j]
      exact (congrArg W.cell? (Addr.add_lit g off j)).trans ((blk_cell h5 _).trans (h8 j hjl))
    | succ r => simp at hu
/-- 'append(append([]int{}, outs...), l...)'. -/
theorem outs_two {W : World} {A : Option Addr} {c : Nat} {l : List Int} (hC : (Kd.int .i64).C W A l.length l) {A5 : Option Addr} {c5 : Nat} {L : List Int} (hL : ∀ V, Below W.heap.size W V → (Kd.int .i64).C V A5 L.length L) (hn : l.length + L.length ≤ 10000000) :
    ∃ (A1 : Option Addr) (c1 : Nat) (W1 : World) (A2 : Option Addr) (c2 : Nat) (W2 : World), (Builtin.append_ #[23, 23] 23 #[.slice (some ⟨W.heap.size, 0, none⟩) 0 0, .slice A l.length c]).run Tryd.prog (W.alloc (.cells #[] 3)) = .ok (.slice A1 l.length c1) W1 ∧
      (Builtin.append_ #[23, 23] 23 #[.slice A1 l.length c1, .slice A5 L.length c5]).run Tryd.prog W1 = .ok (.slice A2 (l ++ L).length c2) W2 ∧ Aside0 (Below W.heap.size W W1) ∧ Aside0 (OutAt W2 (fun k => W.heap.size ≤ k ∧ k < W2.heap.size) (.slice A2 (l ++ L).length c2) (l ++ L)) ∧ Aside0 (Below W.heap.size W W2) := by
  have ht : Tryd.prog.underlying 23 = some (.slice 3) := by kernel_rfl
  obtain ⟨i, hi, hzz⟩ := Option.map_eq_some_iff.1 info3'
  simp only [Prod.mk.injEq] at hzz
  obtain ⟨hz, hs, hby⟩ := hzz
  have hb1 : Below W.heap.size W (W.alloc (.cells #[] 3)) := below_alloc (Below.refl _ _) _
  have first : ∃ (A1 : Option Addr) (c1 : Nat) (W1 : World), (Builtin.append_ #[23, 23] 23 #[.slice (some ⟨W.heap.size, 0, none⟩) 0 0, .slice A l.length c]).run Tryd.prog (W.alloc (.cells #[] 3)) = .ok (.slice A1 l.length c1) W1 ∧ Below W.heap.size W W1 ∧ OutAt W1 (fun k => W.heap.size ≤ k ∧ k < W1.heap.size) (.slice A1 l.length c1) l := by
    rcases Nat.eq_zero_or_pos l.length with h0 | h0
    · have e2 : l = [] := List.eq_nil_of_length_eq_zero h0
      subst e2
      refine ⟨some ⟨W.heap.size, 0, none⟩, 0, W.alloc (.cells #[] 3), ?_, hb1, .inl ⟨_, rfl, rfl⟩⟩
      cases A <;> simp [Builtin.append_, run_underlying ht, sizeOf, typeInfo, hi, Builtin.lenOf, Builtin.firstCells, loadCells, loadCellsFrom, storeCells, Result.andThen]
    · obtain ⟨ad, rfl, _⟩ := hC.2.2 h0
      have hnews := C_i64 (Kd.C_below hC hb1)
      obtain ⟨v', w', hrun, ho, hg, _⟩ := run_append_own (P := Tryd.prog) (W.alloc (.cells #[] 3)) W.heap.size 23 23 3 i _ 1 8 ht hi hz hs hby rfl (by omega) _ 0 [] (World.ownsRow_made W #[] 0 (Nat.le_refl _) (Nat.zero_le _) (by simp)) ad l.length c (l.map (fun x => Value.int .i64 x)) (by simp) hnews (by simp [Value.oneCell']) (by simp only [maxLen]; omega) (by omega) hb1.size
      rw [Nat.zero_add, List.nil_append] at ho
      have hB : Below W.heap.size W w' := hb1.grown hg hb1.size (by simp [Value.ownBlock])
      have hO := (OutAt.of_own (W := W) (F := fun _ => False) ho).move (W' := w') (F' := fun k => W.heap.size ≤ k ∧ k < w'.heap.size) (fun _ _ _ _ => rfl) (fun k h _ => by rcases h with h | h; exact h.elim; exact h)
      obtain ⟨A1, c1, e, _⟩ := hO.form
      subst e
      exact ⟨A1, c1, w', hrun, hB, hO⟩
  obtain ⟨A1, c1, W1, r1, hB1, hO1⟩ := first
  obtain ⟨v2, W2, r2, hO2, hst, hsz, hbl⟩ := out_append hO1 A5 c5 L (hL W1 hB1) hn 23
  have hO3 := hO2.move (W' := W2) (F' := fun k => W.heap.size ≤ k ∧ k < W2.heap.size) (fun _ _ _ _ => rfl) (fun k h hk => by
    have := hB1.size
    rcases h with h | h
    · exact ⟨h.1, hk⟩
    · exact ⟨by omega, hk⟩)
  obtain ⟨A2, c2, e, _⟩ := hO3.form
  subst e
  refine ⟨A1, c1, W1, A2, c2, W2, r1, r2, ⟨hB1⟩, ⟨hO3⟩, ⟨⟨hst.1.trans hB1.os, hst.2.1.trans hB1.tape, hst.2.2.trans hB1.output, Nat.le_trans hB1.size hsz, fun k hk => ?_⟩⟩⟩
  exact (hbl k (Nat.lt_of_lt_of_le hk hB1.size) (fun h => absurd h.1 (by omega))).trans (hB1.block k hk)
theorem rouTs_end {wx W2 : World} {G : Nat → Prop} {r : Nat} {R : RSt} {v : Value} {o : List Int} (h : RAt wx G r R) (hB : Below wx.heap.size wx W2) (hO : OutAt W2 (fun k => wx.heap.size ≤ k ∧ k < W2.heap.size) v o) :
    Aside0 (∃ G', RAt (W2.setCell ⟨r, 4, none⟩ v) G' r { R with outs := o } ∧ Went G G' wx (W2.setCell ⟨r, 4, none⟩ v)) := by
  obtain ⟨v0, v1, vo, hb, hG, h0, h1, hO0, hne⟩ := h
  have hb3 := (hB.block r (blk_lt hb)).trans hb
  have hg := grown_one W2 r 4 v
  have hk : ∀ k, k < W2.heap.size → k ≠ r → (W2.setCell ⟨r, 4, none⟩ v).heap[k]? = W2.heap[k]? := fun k hl hn => hg.block k hl (fun e => hn (Option.some.inj e))
  have hup : ∀ k, G k → k < wx.heap.size → (fun k => G k ∨ (wx.heap.size ≤ k ∧ k < W2.heap.size)) k := fun k h _ => .inl h
  refine ⟨_, ⟨v0, v1, v, heap_setCell_same W2 r 4 _ 48 v hb3, .inl hG, (h0.move (fun k cs _ h => hB.block k (blk_lt h)) hup).keep hb3 (by decide) hk, (h1.move (fun k cs _ h => hB.block k (blk_lt h)) hup).keep hb3 (by decide) hk, (hO.move (fun _ _ _ _ => rfl) (fun k h _ => .inr h)).keep hb3 (by decide) hk, hne⟩, ⟨⟨hg.os.trans hB.os, hg.tape.trans hB.tape, hg.output.trans hB.output, Nat.le_trans hB.size hg.size, fun k hk' hF => (hk k (Nat.lt_of_lt_of_le hk' hB.size) (fun e => hF (e ▸ hG))).trans (hB.block k hk')⟩, fun k hk' => ?_⟩⟩
  rcases hk' with h | h
  · exact .inl h
  · exact .inr ⟨h.1, Nat.lt_of_lt_of_le h.2 hg.size⟩
theorem C_fits {W : World} {q n : Nat} {l : List Int} {cs : Array Value} (h : (Kd.int .i64).C W (some ⟨q, 0, none⟩) n l) (hq : W.heap[q]? = some (.cells cs 3 (0, 0))) : n ≤ cs.size := by
  rcases Nat.lt_or_ge cs.size n with h1 | h1
  · obtain ⟨ad, e, hh⟩ := h.2.2 (by omega)
    have e' := Option.some.inj e
    subst e'
    have hl : cs.size < l.length := by rw [h.1]; exact h1
    obtain ⟨ds, _, h2, h3⟩ := hh cs.size l[cs.size] (List.getElem?_eq_getElem hl)
    have h2' : ds = [.int .i64 l[cs.size]] := h2
    have h4 := h3 0 _ (by rw [h2']; rfl)
    rw [add_plain, blk_cell hq, show cs.size * (Kd.int .i64).sz + 0 = cs.size from Nat.mul_one _, Array.getElem?_eq_none (Nat.le_refl _)] at h4
    cases h4
  · exact h1
theorem Sim.script {S : BSt} {R : RSt} {n : Nat} (h : Sim S R n) (L : List Int) : Sim (S.script L) { R with outs := R.outs ++ L } n :=
  ⟨h.ver, h.root, by simp [BSt.script, h.outs], h.calls, h.look, h.srt, h.size, h.len⟩
set_option maxHeartbeats 8000000 in
set_option maxRecDepth 100000 in
theorem step_k7 {W : World} {B : Nat} {F G : Nat → Prop} {g n r : Nat} {S : BSt} {R : RSt} (P : StepPre W B F G g n S r R) (nm dd : ByteArray) (N : Int) (A5 : Option Addr) (c5 : Nat) (L : List Int) (hL : (Kd.int .i64).C W A5 L.length L) (hA5 : 0 < L.length → ∀ ad, A5 = some ad → ad.block < B) (hlen : S.outs.length + L.length ≤ 5000000) :
    Calls Tryd.prog 22 #[.pointer (some ⟨g, 0, none⟩), .pointer (some ⟨r, 0, none⟩), .agg #[.int .i64 7, .string nm, .string dd, .int .i64 N, .slice A5 L.length c5]] W fun e W' => e = .returned (.bool true) ∧ StepPost W W' B g n r S L := by
  obtain ⟨OB, hOB⟩ : ∃ o : Obj, o = .cells #[.int .i64 7, .string nm, .string dd, .int .i64 N, .slice A5 L.length c5] 51 := ⟨_, rfl⟩
  have P1 := Aside0.mk (P.pair.below (below_alloc (Below.refl _ _) OB))
  have M1 := Aside0.mk (P.pair.fresh (Nat.le_refl _) (heap_alloc_new W OB))
  have B1 : Aside0 (Below B W (W.alloc OB)) := ⟨P.pair.st.bal (Below.refl _ _) OB⟩
  have XS := Aside0.mk P.sim
  have XN := Aside0.mk P.n
  have XQ := Aside0.mk (show B ≤ W.heap.size from P.pair.st.hB)
  rw [hOB] at P1 M1 B1
  have hsz : (W.alloc (.cells #[.int .i64 7, .string nm, .string dd, .int .i64 N, .slice A5 L.length c5] 51)).heap.size = W.heap.size + 1 := by simp
  have HLOW : Aside0 (∀ V, Below B W V → (Kd.int .i64).C V A5 L.length L) := ⟨fun V hV => C_low hL hA5 hV⟩
  have hL10 : L.length ≤ 5000000 := by omega
  obtain ⟨Al, cl, wb, hap, hCl, hBl, hfr⟩ := copy_i64 (W.alloc (.cells #[.int .i64 7, .string nm, .string dd, .int .i64 N, .slice A5 L.length c5] 51)) A5 c5 L (HLOW.out _ B1.out) (by omega)
  have HSZ := Aside0.mk hsz
  have P2 := Aside0.mk (P1.out.below hBl)
  have M2 := Aside0.mk (M1.out.below hBl)
  have B2 := Aside0.mk (B1.out.trans (hBl.mono P1.out.st.hB))
  have HCl := Aside0.mk hCl
  have XB0 : Aside0 (0 < L.length → ∃ q cs, Al = some ⟨q, 0, none⟩ ∧ Mine wb F G q (.cells cs 3 (0, 0)) ∧ L.length ≤ cs.size ∧ B ≤ q) := ⟨fun h0 => by
    obtain ⟨ad, e, _⟩ := hCl.2.2 h0
    obtain ⟨q, cs, rfl, h1, h2⟩ := hfr ad e
    subst e
    refine ⟨q, cs, rfl, P1.out.fresh h1 h2, C_fits hCl h2, ?_⟩
    have := XQ.out
    omega⟩
  rw [hsz] at hap
  have XA := Aside0.mk hap
  have HLEN := Aside0.mk hlen
  obtain ⟨S1, hS1⟩ : ∃ S1, S1 = S.script L := ⟨_, rfl⟩
  have HS1 := Aside0.mk hS1
  obtain ⟨nL, hnL⟩ : ∃ nL, nL = L.length := ⟨_, rfl⟩
  have XNL := Aside0.mk hnL
  rw [← hnL] at XA hL10
  rw [← hnL] at M2
  have hc4 : (W.alloc (.cells #[.int .i64 7, .string nm, .string dd, .int .i64 N, .slice A5 nL c5] 51)).cell? ⟨W.heap.size, 4, none⟩ = some (.slice A5 nL c5) := blk_cell (heap_alloc_new W _) 4
  rw [← hnL] at P1 M1 B1
  rw [← hnL] at XB0
  show Calls Tryd.prog 22 #[.pointer (some ⟨g, 0, none⟩), .pointer (some ⟨r, 0, none⟩), .agg #[.int .i64 7, .string nm, .string dd, .int .i64 N, .slice A5 L.length c5]] W _
  rw [← hnL]
  clear P hOB hsz hap hCl hBl hfr hlen hS1 hnL hL hA5 hc4
  go_enter Tryd.func22, Tryd.ntmps22
  go_wp2_with (first | (at_builtin; refine wpList_append_ran rfl (.tmp 179) (.tmp 181) 23 rfl _ _ _ rfl rfl XA.out ?_) | fail)
  refine (sat_script P2.out.st Al nL cl L XNL.out HCl.out (by have := HLEN.out; omega)).mono ?_
  rintro e we ⟨rfl, F2, hS, hW⟩
  have P3 := Aside0.mk (P2.out.store hW (show SAt we B F2 g n S1 by rw [HS1.out]; exact hS))
  have M3 := Aside0.mk (M2.out.store hW)
  have B3 := Aside0.mk (P2.out.st.then B2.out hW)
  have XB : Aside0 (0 < nL → ∃ q cs, Al = some ⟨q, 0, none⟩ ∧ Mine we F2 G q (.cells cs 3 (0, 0)) ∧ nL ≤ cs.size ∧ B ≤ q) := ⟨fun h0 => by
    obtain ⟨q, cs, h1, h2, h3, h4⟩ := XB0.out h0
    exact ⟨q, cs, h1, h2.store hW, h3, h4⟩⟩
  clear hS hW P2 M2 B2 XB0 P1 M1 B1
  go_wp2_with fail
  go_loopw [29] (fun vi w' => ∃ j : Nat, j ≤ nL ∧ vi = .int .i64 (j : Int) ∧ Aside0 (Scrib we w' Al nL 3)) (fun vi _ => ((nL : Int) - intOf vi).toNat)
  case atStart => exact ⟨0, Nat.zero_le _, rfl, ⟨Scrib.start fun h0 => by { obtain ⟨q, cs, h1, h2, h3, _⟩ := XB.out h0; exact ⟨q, cs, _, h1, h2.at_, h3, fun i _ => blk_frozen h2.at_ i⟩ }⟩⟩
  case round =>
    obtain ⟨j, hj, rfl, YS⟩ := hrel
    by_cases hlt : j < nL
    · have d1 : decide ((j : Int) < (nL : Int)) = true := decide_eq_true (by omega)
      have p1 : (0 : Int) ≤ (j : Int) := Int.natCast_nonneg _
      have p2 : (j : Int) < (nL : Int) := Int.ofNat_lt.2 hlt
      obtain ⟨q, u, rfl, hu, hf⟩ := YS.out.at_ hlt
      have HM : Aside0 (((nL : Int) - intOf (.int .i64 ((j + 1 : Nat) : Int))).toNat < ((nL : Int) - intOf (.int .i64 (j : Int))).toNat) := ⟨by simp [intOf]; omega⟩
      have YN := Aside0.mk (YS.out.set hlt (.int .i64 1) rfl)
      go_wp2_with fail
      exact ⟨⟨j + 1, hlt, rfl, YN⟩, HM.out⟩
    · have d1 : decide ((j : Int) < (nL : Int)) = false := decide_eq_false (by omega)
      obtain ⟨hP4, hB4⟩ := P3.out.scrib YS.out (fun h0 ad e => by { obtain ⟨q, cs, h1, h2, _, h4⟩ := XB.out h0; rw [h1] at e; have e' := Option.some.inj e; subst e'; exact ⟨h2.nf, h2.ng, h4⟩ })
      have P4 := Aside0.mk hP4
      have B4 := Aside0.mk (B3.out.trans hB4)
      have M4 := Aside0.mk (M3.out.scrib YS.out (fun h0 ad e => by
        obtain ⟨q, cs, h1, h2, _, _⟩ := XB.out h0
        rw [h1] at e
        have e' := Option.some.inj e
        subst e'
        intro e2
        have e3 : q = W.heap.size := e2
        have h5 := h2.at_
        rw [e3, M3.out.at_] at h5
        injection h5 with h5; injection h5 with _ h6
        cases h6))
      obtain ⟨wz, hz⟩ : ∃ wz, wz = wr.drew := ⟨_, rfl⟩
      have hBz : Below wr.heap.size wr wz := by rw [hz]; exact Below.drew (Below.refl _ _)
      have hsz : wz.heap.size = wr.heap.size := by rw [hz]; rfl
      have P5 := Aside0.mk (P4.out.below hBz)
      have M5 := Aside0.mk (M4.out.below hBz)
      have B5 := Aside0.mk (B4.out.trans (hBz.mono P4.out.st.hB))
      obtain ⟨v0, v1, vo, hb, hG, h0, h1, hO, hne⟩ := P5.out.rt
      have hRl : R.outs.length + nL ≤ 5000000 := by have h := HLEN.out; rw [XS.out.outs] at h; rw [XNL.out]; exact h
      obtain ⟨Ao, co, rfl, hCo⟩ := hO.reads (by omega)
      obtain ⟨A1, c1, W1, A2, c2, W2, r1, r2, b1, hO2, b2⟩ := outs_two (c := co) hCo (A5 := A5) (c5 := c5) (L := L) (fun V hV => HLOW.out V (B5.out.trans (hV.mono P5.out.st.hB))) (by rw [← XNL.out]; omega)
      have hE := rouTs_end P5.out.rt b2.out hO2.out
      obtain ⟨no, hno⟩ : ∃ no, no = R.outs.length := ⟨_, rfl⟩
      obtain ⟨k3, hk3⟩ : ∃ k, k = (R.outs ++ L).length := ⟨_, rfl⟩
      have cellS : ∀ V, Below wz.heap.size wz V → (fun V : World => V.cell? ⟨r, 4, none⟩ = some (Value.slice Ao no co) ∧ V.cell? ⟨W.heap.size, 4, none⟩ = some (Value.slice A5 nL c5)) V := fun V hV => by
        have hr := (hV.block r (blk_lt hb)).trans hb
        have hq := (hV.block _ (blk_lt M5.out.at_)).trans M5.out.at_
        rw [← hno] at hr
        exact ⟨blk_cell hr 4, blk_cell hq 4⟩
      have frz : ∀ V, Below wz.heap.size wz V → V.frozen? ⟨r, 4, none⟩ = false := fun V hV => blk_frozen ((hV.block r (blk_lt hb)).trans hb) 4
      have jz := Aside0.mk (cellS _ (Below.refl _ _))
      have j0 := Aside0.mk (cellS _ (below_alloc (Below.refl _ _) (.cells #[] 3)))
      have j1 := Aside0.mk (cellS _ b1.out)
      have j2 := Aside0.mk (cellS _ b2.out)
      have hq2 := Aside0.mk (And.intro (cellS _ b2.out).1 (frz _ b2.out))
      rw [hsz] at r1
      rw [← hno] at r1 r2
      rw [← XNL.out, ← hk3] at r2
      rw [← hk3] at hE
      have XR1 := Aside0.mk r1
      have XR2 := Aside0.mk r2
      have XE := Aside0.mk hE
      clear hP4 hB4 hb hG h0 h1 hO hne hCo r1 r2 hE hno hk3 cellS frz hsz hBz b1 b2 hRl
      subst hz
      go_upto_region 43 with fail
      refine wp_region_last_drew (S := (fun V : World => V.cell? ⟨r, 4, none⟩ = some (Value.slice Ao no co) ∧ V.cell? ⟨W.heap.size, 4, none⟩ = some (Value.slice A5 nL c5))) (ds := [12]) (by kernel_rfl) jz.out (fun hHeld => ?_)
      refine ndl_take 0 hHeld ?_
      refine ndl_take 2 hHeld ?_
      refine ndl_take 3 hHeld ?_
      refine ndl_take 4 hHeld ?_
      refine ndl_take 5 hHeld ?_
      refine ndl_take 7 hHeld ?_
      refine ndl_take 8 hHeld ?_
      refine wpAnyLast_ready (rs := [1]) (by kernel_rfl) (by simp) ?_
      refine (AllReadyL.cons rfl (by decide) (fun K hK => ?_) AllReadyL.nil)
      go_simp
      refine hK.out _ _ j0.out (fun hNew => ?_)
      clear hK K hNew
      have hHeld : (fun V : World => V.cell? ⟨r, 4, none⟩ = some (Value.slice Ao no co) ∧ V.cell? ⟨W.heap.size, 4, none⟩ = some (Value.slice A5 nL c5)) _ := j0.out
      refine wpAnyLast_ready (rs := [6]) (by kernel_rfl) (by simp) ?_
      refine (AllReadyL.cons rfl (by decide) (fun K hK => ?_) AllReadyL.nil)
      refine append_ran_step (by rfl) (.tmp 196) (.tmp 200) 23 rfl _ _ _ rfl rfl XR1.out ?_
      refine hK.out _ _ j1.out (fun hNew => ?_)
      clear hK K hNew
      have hHeld : (fun V : World => V.cell? ⟨r, 4, none⟩ = some (Value.slice Ao no co) ∧ V.cell? ⟨W.heap.size, 4, none⟩ = some (Value.slice A5 nL c5)) _ := j1.out
      refine wpAnyLast_ready (rs := [9]) (by kernel_rfl) (by simp) ?_
      refine (AllReadyL.cons rfl (by decide) (fun K hK => ?_) AllReadyL.nil)
      refine append_ran_step (by rfl) (.tmp 201) (.tmp 203) 23 rfl _ _ _ rfl rfl XR2.out ?_
      refine hK.out _ _ j2.out (fun hNew => ?_)
      clear hK K hNew
      have hHeld : (fun V : World => V.cell? ⟨r, 4, none⟩ = some (Value.slice Ao no co) ∧ V.cell? ⟨W.heap.size, 4, none⟩ = some (Value.slice A5 nL c5)) _ := j2.out
      refine ndl_take 10 hHeld ?_
      refine ndl_take 11 hHeld ?_
      refine wpAnyLast_ready (rs := [12]) (by kernel_rfl) (by simp) ?_
      refine (AllReadyL.cons_last rfl (by decide) (fun K hK => ?_) AllReadyL.nil)
      have q_ := hq2.out.1
      have z_ := hq2.out.2
      go_simp
      refine hK.out _ _ ?_
      clear hK K q_ z_ hHeld
      refine wpAnyLast_done (by kernel_rfl) ?_ _
      go_wp2_with fail
      go_ret
      obtain ⟨G3, hR3, hW3⟩ := XE.out
      refine ⟨by first | rfl | simp, F2, G3, S1, { R with outs := R.outs ++ L }, (P5.out.ref hW3 hR3).mono (Nat.le_succ _), ?_, B5.out.trans (hW3.under P5.out.ge P5.out.st.hB), ?_⟩
      · rw [HS1.out]
        exact (XS.out.script L).mono (Nat.le_succ _)
      · rw [HS1.out]
        simp [BSt.script]
end
end Go.Proofs.YtcallfgihohldaaDoor.PA
namespace Go.Proofs.YtcallfgihohldaaDoor.PA
section

open Go.RowKit Go.Proofs.YtcallfgihohldaaDoorW.PrintWords Go.Proofs.YtcallfgihohldaaDoorW.PrintLast Go.Proofs.YtcallfgihohldaaDoorW.PrintMore
attribute [local go_sem] max2_int min2_int max_two min_two max_three min_three max_four min_four
set_option linter.unusedVariables false
set_option linter.unusedSimpArgs false
theorem step_calls {W : World} {B : Nat} {F G : Nat → Prop} {g n r : Nat} {S : BSt} {R : RSt} (P : StepPre W B F G g n S r R) (k : Int) (nm dd : ByteArray) (N : Int) (A5 : Option Addr) (c5 : Nat) (L : List Int) (hd : dd.size ≤ 2000000)
    (hL : (Kd.int .i64).C W A5 L.length L) (hA5 : 0 < L.length → ∀ ad, A5 = some ad → ad.block < B) (hlen : S.outs.length + L.length ≤ 5000000) :
    Calls Tryd.prog 22 #[.pointer (some ⟨g, 0, none⟩), .pointer (some ⟨r, 0, none⟩), .agg #[.int .i64 k, .string nm, .string dd, .int .i64 N, .slice A5 L.length c5]] W fun e W' => e = .returned (.bool true) ∧ StepPost W W' B g n r S L := by
  by_cases h1 : k = 1
  · subst h1; exact step_k1 P nm dd N A5 c5 L hd
  by_cases h2 : k = 2
  · subst h2; exact step_k2 P nm dd N A5 c5 L
  by_cases h3 : k = 3
  · subst h3; exact step_k3 P nm dd N A5 c5 L
  by_cases h4 : k = 4
  · subst h4; exact step_k4 P nm dd N A5 c5 L
  by_cases h5 : k = 5
  · subst h5; exact step_k5 P nm dd N A5 c5 L
  by_cases h6 : k = 6
  · subst h6; exact step_k6 P nm dd N A5 c5 L
  by_cases h7 : k = 7
  · subst h7; exact step_k7 P nm dd N A5 c5 L hL hA5 hlen
  refine step_k0 P (fun j hj => ?_) nm dd N A5 c5 L
  rw [beq_eq_false_iff_ne]
  simp only [List.mem_cons, List.mem_nil_iff, or_false] at hj
  rcases hj with rfl | rfl | rfl | rfl | rfl | rfl | rfl <;> assumption
structure S51 where
  f0 : Int
  f1 : ByteArray
  f2 : ByteArray
  f3 : Int
  f4 : (List Int)
def z51 : S51 := ⟨(0 : Int), ByteArray.empty, ByteArray.empty, (0 : Int), ([] : List Int)⟩
def k51 : Kd S51 := Kd.iso (Kd.pair (Kd.int .i64) (Kd.pair Kd.string (Kd.pair Kd.string (Kd.pair (Kd.int .i64) (Kd.slice 3 (Kd.int .i64)))))) (fun x : S51 => (x.f0, x.f1, x.f2, x.f3, x.f4))
theorem k51_open {w : World} {x : S51} {cs : List Value} (h : k51.K w x cs) : ∃ A4 c4, cs = [.int .i64 x.f0, .string x.f1, .string x.f2, .int .i64 x.f3, .slice A4 x.f4.length c4] ∧ x.f4.length ≤ c4 ∧ (Kd.int .i64).C w A4 x.f4.length x.f4 := by
  obtain ⟨_, _, rfl, rfl, ⟨_, _, rfl, rfl, ⟨_, _, rfl, rfl, ⟨_, _, rfl, rfl, ⟨A4, c4, rfl, l4, g4⟩⟩⟩⟩⟩ := h
  exact ⟨A4, c4, rfl, l4, g4⟩
def rd_T51 (xs : List S51) (i : Int) : S51 := xs.getD i.toNat z51
theorem at_T51 {w : World} {A : Option Addr} {n : Nat} {xs : List S51} (h : Kd.C k51 w A n xs) (i : Int) (h0 : 0 ≤ i) (h1 : i < n) : ∃ ad A4 c4, A = some ad ∧ w.cell? (ad.add (i.toNat * 5)) = some (.int .i64 (rd_T51 xs i).f0) ∧ w.cell? ⟨(ad.add (i.toNat * 5)).block, (ad.add (i.toNat * 5)).off + 1, none⟩ = some (.string (rd_T51 xs i).f1) ∧ w.cell? ⟨(ad.add (i.toNat * 5)).block, (ad.add (i.toNat * 5)).off + 2, none⟩ = some (.string (rd_T51 xs i).f2) ∧ w.cell? ⟨(ad.add (i.toNat * 5)).block, (ad.add (i.toNat * 5)).off + 3, none⟩ = some (.int .i64 (rd_T51 xs i).f3) ∧ w.cell? ⟨(ad.add (i.toNat * 5)).block, (ad.add (i.toNat * 5)).off + 4, none⟩ = some (.slice A4 (rd_T51 xs i).f4.length c4) ∧ (rd_T51 xs i).f4.length ≤ c4 ∧ (Kd.int .i64).C w A4 (rd_T51 xs i).f4.length (rd_T51 xs i).f4 := by
  obtain ⟨ad, c, e, _, hK, hc0⟩ := Kd.C_get h z51 i h0 h1
  have hc : ∀ j u, c[j]? = some u → w.cell? (ad.add (i.toNat * 5 + j)) = some u := hc0
  obtain ⟨A4, c4, rfl, l4, g4⟩ := k51_open hK
  exact ⟨ad, A4, c4, e, hc 0 _ rfl, by rw [← add_field _ _ 1 (by omega)]; exact hc 1 _ rfl, by rw [← add_field _ _ 2 (by omega)]; exact hc 2 _ rfl, by rw [← add_field _ _ 3 (by omega)]; exact hc 3 _ rfl, by rw [← add_field _ _ 4 (by omega)]; exact hc 4 _ rfl, l4, g4⟩
theorem row_low {w : World} {A : Option Addr} {k : IntKind} {L : List Int} (h : (Kd.int k).C w A L.length L) (h0 : 0 < L.length) (ad : Addr) (e : A = some ad) : ad.block < w.heap.size := by
  obtain ⟨_, _, h2⟩ := h
  obtain ⟨a', e', hc⟩ := h2 h0
  rw [e] at e'
  injection e' with e'
  subst e'
  obtain ⟨cs, _, hK, hcs⟩ := hc 0 _ (List.getElem?_eq_getElem h0)
  have hK' : cs = [.int k L[0]] := hK
  have := hcs 0 _ (by rw [hK']; rfl)
  exact cell_blk_lt this
def sumTo (l : List S51) (i : Nat) : Nat := ((l.take i).map (fun x => x.f4.length)).sum
theorem sumTo_succ (l : List S51) (i : Nat) (h : i < l.length) : sumTo l (i + 1) = sumTo l i + l[i].f4.length := by
  unfold sumTo
  rw [List.take_succ_eq_append_getElem h, List.map_append, List.sum_append]
  simp
theorem sumTo_le (l : List S51) (i : Nat) : sumTo l i ≤ (l.map (fun x => x.f4.length)).sum := by
  have h := congrArg (fun q : List S51 => (q.map (fun x => x.f4.length)).sum) (List.take_append_drop i l)
  simp only [List.map_append, List.sum_append] at h
  unfold sumTo
  omega
theorem op51 {w wr : World} {A : Option Addr} {l0 : List S51} (h : Kd.C k51 w A l0.length l0) (w0 : ∀ v ∈ l0, v.f2.size ≤ 2000000) (hb : Below w.heap.size w wr) (i : Nat) (hi : i < l0.length) :
    ∃ ad k nm dd N A4 c4, ∃ L : List Int, A = some ad ∧ wr.cell? (ad.add (i * 5)) = some (.int .i64 k) ∧ wr.cell? ⟨(ad.add (i * 5)).block, (ad.add (i * 5)).off + 1, none⟩ = some (.string nm) ∧ wr.cell? ⟨(ad.add (i * 5)).block, (ad.add (i * 5)).off + 2, none⟩ = some (.string dd) ∧
      wr.cell? ⟨(ad.add (i * 5)).block, (ad.add (i * 5)).off + 3, none⟩ = some (.int .i64 N) ∧ wr.cell? ⟨(ad.add (i * 5)).block, (ad.add (i * 5)).off + 4, none⟩ = some (.slice A4 L.length c4) ∧
      Aside0 (sumTo l0 (i + 1) = sumTo l0 i + L.length ∧ dd.size ≤ 2000000 ∧ (∀ w', Below w.heap.size w w' → Kd.C (Kd.int .i64) w' A4 L.length L) ∧ (0 < L.length → ∀ ad, A4 = some ad → ad.block < w.heap.size)) := by
  obtain ⟨ad, A4, c4, hA, k0, k1, k2, k3, k4, l4, g4⟩ := at_T51 h (i : Int) (Int.natCast_nonneg _) (Int.ofNat_lt.2 hi)
  rw [Int.toNat_natCast] at k0 k1 k2 k3 k4
  have e : rd_T51 l0 (i : Int) = l0[i] := by simp [rd_T51, hi]
  have hm : rd_T51 l0 (i : Int) ∈ l0 := by rw [e]; exact List.getElem_mem hi
  exact ⟨ad, _, _, _, _, A4, c4, _, hA, below_cell hb k0, below_cell hb k1, below_cell hb k2, below_cell hb k3, below_cell hb k4, ⟨by rw [sumTo_succ _ _ hi, e], w0 _ hm, fun w' hw' => Kd.C_below g4 hw', fun h0 ad' e' => row_low g4 h0 ad' e'⟩⟩
end
end Go.Proofs.YtcallfgihohldaaDoor.PA
namespace Go.Proofs.YtcallfgihohldaaDoor.PA
section

open Go.RowKit Go.Proofs.YtcallfgihohldaaDoorW.PrintWords Go.Proofs.YtcallfgihohldaaDoorW.PrintLast Go.Proofs.YtcallfgihohldaaDoorW.PrintMore
attribute [local go_sem] max2_int min2_int max_two min_two max_three min_three max_four min_four
set_option linter.unusedVariables false
set_option linter.unusedSimpArgs false
theorem emp_le : (⟨#[]⟩ : ByteArray).size ≤ 2000000 := Nat.zero_le _
theorem nil_row (W : World) : (Kd.int .i64).C W none ([] : List Int).length [] := ⟨rfl, by simp, fun h => absurd h (by simp)⟩
theorem nil_low {B : Nat} : 0 < ([] : List Int).length → ∀ ad : Addr, (none : Option Addr) = some ad → ad.block < B := fun h => absurd h (by simp)
theorem rat_new (W : World) : RAt (W.alloc (.cells #[.slice none 0 0, .slice none 0 0, .int .i64 0, .string ⟨#[]⟩, .slice none 0 0, .int .i64 0] 48)) (fun k => k = W.heap.size) W.heap.size ⟨[], 0, ⟨#[]⟩, [], 0⟩ :=
  ⟨_, _, _, heap_alloc_new W _, rfl, .inl ⟨rfl, rfl⟩, .inl ⟨rfl, rfl⟩, .inl ⟨none, rfl, rfl⟩, fun k h => by simp [Value.ownBlock] at h⟩
theorem sim_new : Sim BSt.new ⟨[], 0, ⟨#[]⟩, [], 0⟩ 0 := ⟨rfl, rfl, rfl, rfl, fun _ => rfl, List.Pairwise.nil, (fun _ h => by cases h), Nat.le_refl _⟩
theorem pair_new {W : World} {B g n : Nat} {F : Nat → Prop} {S : BSt} (h : SAt W B F g n S) : Pair (W.alloc (.cells #[.slice none 0 0, .slice none 0 0, .int .i64 0, .string ⟨#[]⟩, .slice none 0 0, .int .i64 0] 48)) B F (fun k => k = W.heap.size) g n S W.heap.size ⟨[], 0, ⟨#[]⟩, [], 0⟩ :=
  ⟨h.alloc _, rat_new W, fun k hk => by subst hk; exact h.hB, fun k hk => by subst hk; simp, fun k hf hk => by have := h.lt k hf; omega⟩
set_option maxHeartbeats 16000000 in
set_option maxRecDepth 100000 in
theorem cisternlaw02_BlobPlays.walk (A0 : Option Addr) (c0 : Nat) (l0 : List S51) (w : World) (hr0 : Kd.C k51 w A0 l0.length l0) (hstr : ∀ v ∈ l0, v.f2.size ≤ 2000000) (hsum : (l0.map (fun x => x.f4.length)).sum ≤ 2000000) :
    Calls Tryd.prog 8 #[.slice A0 l0.length c0] w fun e w' => e = .returned (.bool true) ∧ Below w.heap.size w w' := by
  have R0 := Aside0.mk hr0
  have W0 := Aside0.mk hstr
  have HS := Aside0.mk hsum
  clear hr0 hstr hsum
  go_enter Tryd.func8, Tryd.ntmps8
  go_wp2_with fail
  refine (known_calls w).mono ?_
  rintro e wk ⟨rfl, hB⟩
  have BK := Aside0.mk hB
  clear hB
  go_wp2_with fail
  refine (sat_new wk).mono ?_
  rintro e wa ⟨g, F, rfl, hS, hB⟩
  have SA := Aside0.mk (pair_new hS)
  have BA := Aside0.mk (BK.out.trans ((hS.bal hB (.cells #[.slice none 0 0, .slice none 0 0, .int .i64 0, .string ⟨#[]⟩, .slice none 0 0, .int .i64 0] 48)).mono BK.out.size))
  have XK := Aside0.mk BK.out.size
  obtain ⟨r, hr⟩ : ∃ r, r = wa.heap.size := ⟨_, rfl⟩
  clear hS hB
  go_wp2_with fail
  rw [← hr] at SA ⊢
  clear hr
  go_loopw [5] (fun v w' => ∃ i : Nat, i ≤ l0.length ∧ i ≤ 200 ∧ v = .int .i64 (i : Int) ∧ Aside0 (∃ F G S R, Pair w' wk.heap.size F G g i S r R ∧ Sim S R i ∧ S.outs.length ≤ sumTo l0 i) ∧ Aside0 (Below w.heap.size w w')) (fun v _ => ((200 : Int) - intOf v).toNat)
  case atStart => exact ⟨0, Nat.zero_le _, Nat.zero_le _, rfl, ⟨_, _, _, _, SA.out, sim_new, Nat.zero_le _⟩, BA⟩
  case round =>
    obtain ⟨i, hi, hi200, rfl, YY, YB⟩ := hrel
    clear SA BA
    obtain ⟨⟨F, G, S, R, hP, hS, hO⟩⟩ := YY
    have YP := Aside0.mk hP
    have YS := Aside0.mk hS
    have YO := Aside0.mk hO
    clear hP hS hO
    by_cases hlt : i < l0.length
    · have d1 : decide (i < l0.length) = true := decide_eq_true hlt
      by_cases hlt2 : i < 200
      · have d2 : decide ((i : Int) < 200) = true := decide_eq_true (by omega)
        have p1 : (0 : Int) ≤ (i : Int) := Int.natCast_nonneg _
        have p2 : (i : Int) < (l0.length : Int) := Int.ofNat_lt.2 hlt
        obtain ⟨ad, k, nm, dd, N, A4, c4, L, hA, k0, k1, k2, k3, k4, OP⟩ := op51 R0.out W0.out YB.out i hlt
        subst hA
        have HM : Aside0 (((200 : Int) - intOf (.int .i64 ((i + 1 : Nat) : Int))).toNat < ((200 : Int) - intOf (.int .i64 (i : Int))).toNat) := ⟨by simp [intOf]; omega⟩
        have PT := Aside0.mk (YP.out.below (Below.drew (Below.refl _ _)))
        have BW := Aside0.mk (YB.out.trans ((Below.drew (Below.refl wr.heap.size wr)).mono YB.out.size))
        have XS := YS
        have XO := YO
        clear YP YS YO YB
        go_wp2_with fail
        refine wp_region_held_drew (S := fun _ => True) (by kernel_rfl) trivial (fun hHeld => ?_)
        refine nd_take 0 hHeld ?_
        refine nd_take 1 hHeld ?_
        refine nd_take 2 hHeld ?_
        refine nd_take 3 hHeld ?_
        refine nd_take 4 hHeld ?_
        refine wpAnyH_ready (rs := [5]) (by kernel_rfl) (by simp) ?_
        refine (AllReadyH.cons rfl (fun K hK => ?_) AllReadyH.nil)
        go_simp
        refine hK.out _ _ trivial (fun hNew => ?_)
        clear hK K hNew
        refine wpAnyH_ready (rs := [6]) (by kernel_rfl) (by simp) ?_
        refine (AllReadyH.cons rfl (fun K hK => ?_) AllReadyH.nil)
        go_simp
        refine (step_calls ⟨PT.out, XS.out, by omega⟩ k nm dd N A4 c4 L OP.out.2.1 (OP.out.2.2.1 _ BW.out) (fun h0 ad e => Nat.lt_of_lt_of_le (OP.out.2.2.2 h0 ad e) XK.out) (by
          have h1 := OP.out.1
          have h2 := XO.out
          have h3 := sumTo_le l0 (i + 1)
          have h4 := HS.out
          omega)).mono ?_
        rintro e w2 ⟨rfl, F2, G2, S2, R2, hP, hS, hB, hO⟩
        have PT2 := Aside0.mk hP
        have XS2 := Aside0.mk hS
        have BW2 := Aside0.mk (BW.out.trans (hB.mono XK.out))
        have XO2 : Aside0 (S2.outs.length ≤ sumTo l0 (i + 1)) := ⟨by
          have h1 := OP.out.1
          have h2 := XO.out
          omega⟩
        obtain ⟨v0, v1, vo, hb, -⟩ := hP.rt
        obtain ⟨cc, hcc⟩ : ∃ c, c = R2.calls := ⟨_, rfl⟩
        rw [← hcc] at hb
        have r5 : w2.cell? ⟨r, 5, none⟩ = some (.int .i64 cc) := blk_cell hb 5
        have HC : Aside0 (S2.calls = cc) := ⟨hS.calls.trans hcc.symm⟩
        clear hP hS hB hO hb hcc
        go_simp
        refine hK.out _ _ trivial (fun hNew => ?_)
        clear hK K hNew
        refine nd_take 7 hHeld ?_
        refine nd_take 8 hHeld ?_
        refine nd_take 9 hHeld ?_
        refine nd_take 11 hHeld ?_
        refine nd_take 12 hHeld ?_
        refine nd_take 13 hHeld ?_
        refine wpAnyH_ready (rs := [10, 14]) (by kernel_rfl) (by simp) ?_
        refine (AllReadyH.cons rfl (fun K hK => ?_) (AllReadyH.cons rfl (fun K hK => ?_) AllReadyH.nil))
        · go_simp
          refine (sat_calls PT2.out.st cc HC.out).mono ?_
          rintro e w3 ⟨rfl, rfl⟩
          go_simp
          refine hK.out _ _ trivial (fun hNew => ?_)
          clear hK K hNew
          refine wpAnyH_ready (rs := [14]) (by kernel_rfl) (by simp) ?_
          refine (AllReadyH.cons rfl (fun K hK => ?_) AllReadyH.nil)
          go_simp
          refine hK.out _ _ trivial (fun hNew => ?_)
          clear hK K hNew
          refine nd_take 15 hHeld ?_
          refine nd_take 16 hHeld ?_
          refine wpAnyH_done (by kernel_rfl) ?_ _
          go_wp2_with fail
          exact ⟨⟨i + 1, hlt, hlt2, rfl, ⟨F2, G2, S2, R2, PT2.out, XS2.out, XO2.out⟩, BW2⟩, HM.out⟩
        · go_simp
          refine hK.out _ _ trivial (fun hNew => ?_)
          clear hK K hNew
          refine wpAnyH_ready (rs := [10]) (by kernel_rfl) (by simp) ?_
          refine (AllReadyH.cons rfl (fun K hK => ?_) AllReadyH.nil)
          go_simp
          refine (sat_calls PT2.out.st cc HC.out).mono ?_
          rintro e w3 ⟨rfl, rfl⟩
          go_simp
          refine hK.out _ _ trivial (fun hNew => ?_)
          clear hK K hNew
          refine nd_take 15 hHeld ?_
          refine nd_take 16 hHeld ?_
          refine wpAnyH_done (by kernel_rfl) ?_ _
          go_wp2_with fail
          exact ⟨⟨i + 1, hlt, hlt2, rfl, ⟨F2, G2, S2, R2, PT2.out, XS2.out, XO2.out⟩, BW2⟩, HM.out⟩
      · have d2 : decide ((i : Int) < 200) = false := decide_eq_false (by omega)
        go_wp2_with fail
        refine (step_calls ⟨YP.out, YS.out, by omega⟩ 4 ⟨#[]⟩ ⟨#[]⟩ 0 none 0 [] emp_le (nil_row _) nil_low (by
          have h2 := YO.out
          have h3 := sumTo_le l0 i
          have h4 := HS.out
          simp only [List.length_nil]
          omega)).mono ?_
        rintro e w2 ⟨rfl, F2, G2, S2, R2, hP, hS, hB, hO⟩
        have PT2 := Aside0.mk hP
        have XS2 := Aside0.mk hS
        have BW2 := Aside0.mk (YB.out.trans (hB.mono XK.out))
        have XO2 := Aside0.mk hO
        clear hP hS hB hO
        go_wp2_with fail
        refine (step_calls ⟨PT2.out, XS2.out, by omega⟩ 5 ⟨#[]⟩ ⟨#[]⟩ 0 none 0 [] emp_le (nil_row _) nil_low (by
          have h1 := XO2.out
          have h2 := YO.out
          have h3 := sumTo_le l0 i
          have h4 := HS.out
          simp only [List.length_nil] at h1 ⊢
          omega)).mono ?_
        rintro e w3 ⟨rfl, F3, G3, S3, R3, -, -, hB, -⟩
        have BW3 := Aside0.mk (BW2.out.trans (hB.mono XK.out))
        clear hB
        go_wp2_with fail
        go_ret
        exact ⟨rfl, BW3.out⟩
    · have d1 : decide (i < l0.length) = false := decide_eq_false hlt
      go_wp2_with fail
      refine (step_calls ⟨YP.out, YS.out, by omega⟩ 4 ⟨#[]⟩ ⟨#[]⟩ 0 none 0 [] emp_le (nil_row _) nil_low (by
        have h2 := YO.out
        have h3 := sumTo_le l0 i
        have h4 := HS.out
        simp only [List.length_nil]
        omega)).mono ?_
      rintro e w2 ⟨rfl, F2, G2, S2, R2, hP, hS, hB, hO⟩
      have PT2 := Aside0.mk hP
      have XS2 := Aside0.mk hS
      have BW2 := Aside0.mk (YB.out.trans (hB.mono XK.out))
      have XO2 := Aside0.mk hO
      clear hP hS hB hO
      go_wp2_with fail
      refine (step_calls ⟨PT2.out, XS2.out, by omega⟩ 5 ⟨#[]⟩ ⟨#[]⟩ 0 none 0 [] emp_le (nil_row _) nil_low (by
        have h1 := XO2.out
        have h2 := YO.out
        have h3 := sumTo_le l0 i
        have h4 := HS.out
        simp only [List.length_nil] at h1 ⊢
        omega)).mono ?_
      rintro e w3 ⟨rfl, F3, G3, S3, R3, -, -, hB, -⟩
      have BW3 := Aside0.mk (BW2.out.trans (hB.mono XK.out))
      clear hB
      go_wp2_with fail
      go_ret
      exact ⟨rfl, BW3.out⟩
end
end Go.Proofs.YtcallfgihohldaaDoor.PA
