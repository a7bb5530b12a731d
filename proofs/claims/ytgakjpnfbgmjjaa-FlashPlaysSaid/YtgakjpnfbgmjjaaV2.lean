import Derived.Test.YtgakjpnfbgmjjaaV1
import Derived.RangeFuncBox
import Derived.RangeFuncLeaves
import Derived.RangeFuncNested
import Derived.RangeFuncBound
import Derived.RangeFuncCalls
import Derived.Shelf.Abstract
import Derived.WalkKit
import Derived.OwnWalkIn
import Derived.TacticsInMore
import Derived.LoopNIn
import Derived.LoopIn
import Derived.BigQuiet
import Derived.Deep.Slices
import Derived.SizedLaws
import Derived.IntWalk
import Derived.ArgAppend
namespace Go.Proofs.Ytgakjpnfbgmjjaa.PA
open Go.RowKit Go.Proofs.YtgakjpnfbgmjjaaW.PrintWords Go.Proofs.YtgakjpnfbgmjjaaW.PrintLast Go.Proofs.YtgakjpnfbgmjjaaW.PrintMore
set_option linter.unusedVariables false
set_option linter.unusedSimpArgs false
theorem run_index_nums (w : World) (l : List Int) (h : byteOk l) (i : Nat) (hi : i < l.length) : (Instr.index 9 (.string (strOfNums l)) (.int .i64 (i : Int))).run Try.prog w = .ok (.int .u8 l[i]) w := by
  rw [run_index_string (h := Try.underlying9), dif_pos ⟨by omega, by rw [strOfNums_sz]; omega⟩]
  have e : ((strOfNums l)[(i : Int).toNat]'(by rw [strOfNums_sz]; omega)) = UInt8.ofNat (l[i]).toNat := by
    show ((l.map fun n => UInt8.ofNat n.toNat).toArray)[(i : Int).toNat]'_ = _
    simp
  rw [e]
  have := h l[i] (List.getElem_mem hi)
  congr 2
  simp only [UInt8.toNat_ofNat']
  omega
set_option maxHeartbeats 4000000 in
set_option maxRecDepth 100000 in
theorem step1_calls {W : World} {B g r m j : Nat} {S : FSt} (h : Two W (pB B) g r S S) (hf : Fit m j S) (hj : j ≤ 999999) (a f n : Int) (hn : n ≤ 9223372036854775807) (A : Option Addr) (c : Nat) (l : List Int) (hp : ∀ W', Below B W W' → Kd.C (Kd.int .i64) W' A l.length l) (hc : l.length ≤ c) (hl : l.length * 8 ≤ 140737488351232) :
    Calls Try.prog 22 #[.pointer (some ⟨g, 0, none⟩), .pointer (some ⟨r, 0, none⟩), .agg #[.int .i64 1, .int .i64 a, .int .i64 f, .int .i64 n, .slice A l.length c]] W fun e W' => e = .returned (.bool true) ∧ (∃ S', Two W' (pB B) g r S' S' ∧ Fit m (j + 1) S') ∧ Below B W W' := by
  have T := Aside0.mk h
  have K := Aside0.mk hf
  have HP := Aside0.mk hp
  have HL := Aside0.mk hl
  have HC := Aside0.mk hc
  have HN := Aside0.mk hn
  have HJ := Aside0.mk hj
  have HO : Aside0 (B ≤ W.heap.size) := ⟨by
    obtain ⟨gs, vw, hd⟩ := h.d
    exact Nat.le_of_lt (Nat.lt_of_le_of_lt (show B ≤ g from hd.fg) (blk_lt hd.hg))⟩
  have BX := Aside0.mk (heap_alloc_new W (.cells #[.int .i64 1, .int .i64 a, .int .i64 f, .int .i64 n, .slice A l.length c] 44))
  have HB := Aside0.mk (below_alloc (Below.refl W.heap.size W) (.cells #[.int .i64 1, .int .i64 a, .int .i64 f, .int .i64 n, .slice A l.length c] 44))
  have T1 := Aside0.mk (T.out.below HB.out)
  have c0 := (blk_cell BX.out 0).trans rfl
  have c1 := (blk_cell BX.out 1).trans rfl
  have c2 := (blk_cell BX.out 2).trans rfl
  have c3 := (blk_cell BX.out 3).trans rfl
  have c4 := (blk_cell BX.out 4).trans rfl
  clear h hf hj hn hp hc hl
  go_enter Try.func22, Try.ntmps22
  go_wp2_with fail
  refine (dev_read T1.out.d K.out.ok (Nat.le_trans K.out.w (by have := HJ.out; omega)) a).mono ?_
  rintro e W1 ⟨v, rfl, hv, hb⟩
  have V1 := Aside0.mk hv
  have B1 := Aside0.mk hb
  have T2 := Aside0.mk (T1.out.below hb)
  have X1 := Aside0.mk ((hb.block _ (blk_lt BX.out)).trans BX.out)
  have BB := Aside0.mk ((HB.out.mono HO.out).trans (hb.mono (Nat.le_trans HO.out HB.out.size)))
  have d1 := (blk_cell X1.out 1).trans rfl
  have HV : ∃ A1 c1, v = .slice A1 (S.read a).1.length c1 ∧ (S.read a).1.length ≤ 256 ∧ (0 < (S.read a).1.length → ∃ (q : Nat) (cs : Array Value), A1 = some ⟨q, 0, none⟩ ∧ q ≥ (W.alloc (.cells #[.int .i64 1, .int .i64 a, .int .i64 f, .int .i64 n, .slice A l.length c] 44)).heap.size ∧ W1.heap[q]? = some (.cells cs 5 (0, 0)) ∧ ∀ t (h : t < (S.read a).1.length), cs[t]? = some (.int .u8 (S.read a).1[t])) := by
    rcases hv with ⟨h1, h2⟩ | ⟨h1, q, c1, cs, h2, h3, h4, h5, h6⟩
    · exact ⟨none, 0, by rw [h2, h1]; rfl, by rw [h1]; simp, fun h0 => by rw [h1] at h0; simp at h0⟩
    · exact ⟨_, _, h2, by omega, fun _ => ⟨q, cs, rfl, h4, h5, h6⟩⟩
  clear c0 c1 c2 c3 c4 hv hb V1
  obtain ⟨A1, n1, rfl, HL1, HQ⟩ := HV
  have B0 := Aside0.mk (HB.out.mono HO.out)
  have S0 := Aside0.mk HB.out.size
  obtain ⟨V, hV⟩ : ∃ V, V = W.alloc (.cells #[.int .i64 1, .int .i64 a, .int .i64 f, .int .i64 n, .slice A l.length c] 44) := ⟨_, rfl⟩
  rw [← hV] at T1 B1 HQ B0 S0
  go_wp2_with fail
  obtain ⟨vl, vt, vw, hw⟩ := T2.out.w
  refine (rdev_read hw K.out.ok.n (Nat.le_trans K.out.w (by have := HJ.out; omega)) a).mono ?_
  rintro e W2 ⟨rfl, rfl⟩
  clear hw d1 X1 BX HB hV
  have BY := Aside0.mk (K.out.byt.read a)
  obtain ⟨L, hL⟩ : ∃ L, L = (S.read a).1 := ⟨_, rfl⟩
  obtain ⟨en, hen⟩ : ∃ en, en = (S.read a).2 := ⟨_, rfl⟩
  rw [← hL] at BY HQ HL1 ⊢
  rw [← hen]
  obtain ⟨s, hs⟩ : ∃ s, s = strOfNums L := ⟨_, rfl⟩
  have HI : Aside0 (∀ (w : World) (i : Nat) (hi : i < L.length), (Instr.index 9 (.string s) (.int .i64 (i : Int))).run Try.prog w = .ok (.int .u8 L[i]) w) := ⟨fun w i hi => by rw [hs]; exact run_index_nums w L BY.out i hi⟩
  have SZ : s.size = L.length := by rw [hs]; exact strOfNums_sz L
  have HQ1 := Aside0.mk HQ
  rw [← hs]
  clear hen hs hL HQ
  have FIN : ∀ w', Below V.heap.size V w' → (∃ S', Two w' (pB B) g r S' S' ∧ Fit m (j + 1) S') ∧ Below B W w' := fun w' hb => ⟨⟨S, T1.out.below hb, K.out.mono (Nat.le_succ _)⟩, B0.out.trans (hb.mono (Nat.le_trans HO.out S0.out))⟩
  have FI := Aside0.mk FIN
  clear FIN
  obtain ⟨q, HQ2⟩ : ∃ q, Aside0 (0 < L.length → A1 = some ⟨q, 0, none⟩ ∧ q ≥ V.heap.size ∧ ∃ (cs : Array Value), W2.heap[q]? = some (.cells cs 5 (0, 0)) ∧ ∀ t (h : t < L.length), cs[t]? = some (.int .u8 L[t])) := by
    rcases Nat.eq_zero_or_pos L.length with h0 | h0
    · exact ⟨0, ⟨fun h => by omega⟩⟩
    · obtain ⟨q, cs, h1, h2, h3, h4⟩ := HQ1.out h0
      exact ⟨q, ⟨fun _ => ⟨h1, h2, cs, h3, h4⟩⟩⟩
  clear HQ1
  obtain ⟨N, hN⟩ : ∃ N, N = L.length := ⟨_, rfl⟩
  have NN := Aside0.mk hN
  rw [← hN] at SZ HL1 ⊢
  clear hN
  go_wp2_with fail
  go_loopw [11] (fun v w' => ∃ i : Nat, i ≤ N ∧ v = .int .i64 (i : Int) ∧ Aside0 (0 < N → ∃ cs : Array Value, w'.heap[q]? = some (.cells cs 5 (0, 0)) ∧ ∀ t (h : t < L.length), i ≤ t → cs[t]? = some (.int .u8 L[t])) ∧ Aside0 (Below V.heap.size V w')) (fun v _ => ((N : Int) - intOf v).toNat)
  case atStart => exact ⟨0, Nat.zero_le _, rfl, ⟨fun h0 => by
      obtain ⟨-, -, cs, h1, h2⟩ := HQ2.out (by rw [← NN.out]; exact h0)
      exact ⟨cs, h1, fun t h _ => h2 t h⟩⟩, B1⟩
  case round =>
    obtain ⟨i, hi, rfl, YQ, YB⟩ := hrel
    clear B1 T2 BB
    by_cases hlt : i < N
    · have d1 : decide (i < N) = true := decide_eq_true hlt
      have h0 : 0 < N := by omega
      obtain ⟨rfl, hq, -⟩ := HQ2.out (by rw [← NN.out]; exact h0)
      obtain ⟨cs, hq1, hq2⟩ := YQ.out h0
      have Q1 := Aside0.mk hq1
      have Q2 := Aside0.mk hq2
      have Q3 := Aside0.mk hq
      have r1 := (blk_cell hq1 i).trans (hq2 i (by rw [← NN.out]; exact hlt) (Nat.le_refl _))
      have r2 := blk_frozen hq1 i
      have hix : ∀ w', (Instr.index 9 (.string s) (.int .i64 (i : Int))).run Try.prog w' = .ok (.int .u8 (L[i]'(by rw [← NN.out]; exact hlt))) w' := fun w' => HI.out w' i (by rw [← NN.out]; exact hlt)
      obtain ⟨b, hb⟩ : ∃ b, b = L[i]'(by rw [← NN.out]; exact hlt) := ⟨_, rfl⟩
      rw [← hb] at r1 hix
      clear hb h0 hq hq1 hq2
      have q1 : (0 : Int) ≤ (i : Int) := Int.natCast_nonneg _
      have q2 : (i : Int) < (N : Int) := Int.ofNat_lt.2 hlt
      have HM : Aside0 (((N : Int) - intOf (.int .i64 ((i + 1 : Nat) : Int))).toNat < ((N : Int) - intOf (.int .i64 (i : Int))).toNat) := ⟨by simp [intOf]; omega⟩
      have HW := Aside0.mk (wrap_suc i (by omega))
      go_wp2_with fail
      go_quiet (fail)
      go_wp2_with fail
      refine ⟨⟨i + 1, hlt, rfl, ⟨fun _ => ⟨_, heap_setCell_same _ q i _ 5 _ Q1.out, fun t h ht => ?_⟩⟩, ⟨(YB.out.trans (pw_below_drewN (Below.refl _ _) _)).setCell (p := ⟨q, i, none⟩) Q3.out _⟩⟩, HM.out⟩
      rw [Array.getElem?_setIfInBounds_ne (by omega)]
      exact Q2.out t h (by omega)
    · have d1 : decide (i < N) = false := decide_eq_false hlt
      go_wp2_with fail
      go_ret
      exact ⟨rfl, FI.out _ YB.out⟩

set_option maxHeartbeats 4000000 in
set_option maxRecDepth 100000 in
theorem step2_calls {W : World} {B g r m j : Nat} {S : FSt} (h : Two W (pB B) g r S S) (hf : Fit m j S) (hj : j ≤ 999999) (a f n : Int) (hn : n ≤ 9223372036854775807) (A : Option Addr) (c : Nat) (l : List Int) (hp : ∀ W', Below B W W' → Kd.C (Kd.int .i64) W' A l.length l) (hc : l.length ≤ c) (hl : l.length * 8 ≤ 140737488351232) :
    Calls Try.prog 22 #[.pointer (some ⟨g, 0, none⟩), .pointer (some ⟨r, 0, none⟩), .agg #[.int .i64 2, .int .i64 a, .int .i64 f, .int .i64 n, .slice A l.length c]] W fun e W' => e = .returned (.bool true) ∧ (∃ S', Two W' (pB B) g r S' S' ∧ Fit m (j + 1) S') ∧ Below B W W' := by
  have T := Aside0.mk h
  have K := Aside0.mk hf
  have HP := Aside0.mk hp
  have HL := Aside0.mk hl
  have HC := Aside0.mk hc
  have HN := Aside0.mk hn
  have HJ := Aside0.mk hj
  have HO : Aside0 (B ≤ W.heap.size) := ⟨by
    obtain ⟨gs, vw, hd⟩ := h.d
    exact Nat.le_of_lt (Nat.lt_of_le_of_lt (show B ≤ g from hd.fg) (blk_lt hd.hg))⟩
  have BX := Aside0.mk (heap_alloc_new W (.cells #[.int .i64 2, .int .i64 a, .int .i64 f, .int .i64 n, .slice A l.length c] 44))
  have HB := Aside0.mk (below_alloc (Below.refl W.heap.size W) (.cells #[.int .i64 2, .int .i64 a, .int .i64 f, .int .i64 n, .slice A l.length c] 44))
  have T1 := Aside0.mk (T.out.below HB.out)
  have c0 := (blk_cell BX.out 0).trans rfl
  have c1 := (blk_cell BX.out 1).trans rfl
  have c2 := (blk_cell BX.out 2).trans rfl
  have c3 := (blk_cell BX.out 3).trans rfl
  have c4 := (blk_cell BX.out 4).trans rfl
  clear h hf hj hn hp hc hl
  by_cases n1 : n < -300
  · have f1 : decide (n < -300) = true := decide_eq_true n1
    clear n1
    go_enter Try.func22, Try.ntmps22
    go_wp2_with fail
    refine (bytes_calls f 1 _).mono ?_
    rintro e W1 ⟨A2, k2, rfl, hb, hB⟩
    have HBY := Aside0.mk hb
    have B1 := Aside0.mk hB
    have LE := Aside0.mk (bytes_val f 1).2
    have BO := Aside0.mk (bytesL_ok f 1)
    have HN6 := bytesN_le 1
    have X1 := Aside0.mk ((hB.block _ (blk_lt BX.out)).trans BX.out)
    have BB := Aside0.mk ((HB.out.mono HO.out).trans (hB.mono (Nat.le_trans HO.out HB.out.size)))
    obtain ⟨L, hL⟩ : ∃ L, L = bytesL f 1 := ⟨_, rfl⟩
    obtain ⟨N, hN⟩ : ∃ N, N = bytesN 1 := ⟨_, rfl⟩
    rw [← hL] at HBY LE BO
    rw [← hN] at HBY LE HN6 ⊢
    obtain ⟨q, P, TP⟩ : ∃ (q : Nat) (P : Nat → Prop), Aside0 (Two W1 P g r S S ∧ (∀ k, P k → B ≤ k) ∧ (0 < N → A2 = some ⟨q, 0, none⟩ ∧ ¬ P q ∧ B ≤ q ∧ L.length ≤ k2 ∧ ∃ cs : Array Value, W1.heap[q]? = some (.cells cs 5 (0, 0)) ∧ ∀ t (h : t < L.length), cs[t]? = some (.int .u8 L[t]))) := by
      have HS := HB.out.size
      have HOO := HO.out
      rcases Nat.eq_zero_or_pos N with h0 | h0
      · exact ⟨0, pB B, ⟨T1.out.below B1.out, fun _ h => h, fun h => by omega⟩⟩
      · obtain ⟨q, c, cs, h1, h2, h3, h4, h5⟩ := HBY.out h0
        rw [Value.slice.injEq] at h1
        obtain ⟨rfl, hNL, rfl⟩ := h1
        refine ⟨q, fun k => B ≤ k ∧ k ≠ q, ⟨T1.out.move (fun k _ hl => B1.out.block k hl) (fun k hk hl => ⟨hk, by omega⟩) (fun k hk => ⟨?_, ?_⟩), fun k hk => hk.1, fun _ => ⟨rfl, fun h => h.2 rfl, ?_, h2.1, cs, h4, h5⟩⟩⟩
        · have := B1.out.size; omega
        · have := blk_lt h4; omega
        · omega
    clear hb hB hN hL HBY B1 T1 BX HB c0 c1 c2 c3 c4 T
    have d1 := (blk_cell X1.out 1).trans rfl
    go_wp2_with fail
    refine (dev_write TP.out.1.df K.out.ok (Nat.le_trans K.out.w (by have := HJ.out; omega)) TP.out.1.dfr a A2 N k2 L LE.out.symm (fun h256 => ?_)).mono ?_
    · obtain ⟨rfl, -, -, hk2, cs, h1, h2⟩ := TP.out.2.2 (by rw [← LE.out]; omega)
      rw [← LE.out]
      exact ⟨q, k2, cs, rfl, ⟨hk2, by have := LE.out; omega⟩, trivial, h1, h2⟩
    rintro e W2 ⟨rfl, hD, hC⟩
    have TK := Aside0.mk (TP.out.1.afterD hD hC)
    clear hD hC d1
    have X2 := Aside0.mk (TK.out.2.box X1.out)
    have BB2 := Aside0.mk (BB.out.trans (TK.out.2.below (Nat.le_trans HO.out BB.out.size) TP.out.2.1))
    have QB : Aside0 (0 < N → ∃ cs : Array Value, W2.heap[q]? = some (.cells cs 5 (0, 0)) ∧ ∀ t (h : t < L.length), cs[t]? = some (.int .u8 L[t])) := ⟨fun h0 => by
      obtain ⟨-, h1, -, -, cs, h2, h3⟩ := TP.out.2.2 h0
      exact ⟨cs, (TK.out.2.chg.block q (blk_lt h2) h1).trans h2, h3⟩⟩
    have hcv : ∀ c, (convert 30 9 (.slice A2 N c)).run Try.prog W2 = .ok (.string (strOfNums L)) W2 := fun c => by
      rcases Nat.eq_zero_or_pos N with h0 | h0
      · exact Kd.C_string (P := Try.prog) Try.underlying30 Try.underlying5 Try.underlying9 ⟨LE.out, by omega, fun h => by omega⟩
      · obtain ⟨rfl, -, -, hk2, -⟩ := TP.out.2.2 h0
        obtain ⟨cs, h1, h2⟩ := QB.out h0
        obtain ⟨q', c', hq', -, -, -, hC⟩ := ByteBlk.reads (W := W2) (F := fun _ => True) (v := .slice (some ⟨q, 0, none⟩) L.length k2) (b := L) ⟨q, k2, cs, rfl, ⟨hk2, by have := LE.out; omega⟩, trivial, h1, h2⟩
        rw [Value.slice.injEq] at hq'
        obtain ⟨e1, -, -⟩ := hq'
        rw [← e1, LE.out] at hC
        exact Kd.C_string (P := Try.prog) Try.underlying30 Try.underlying5 Try.underlying9 hC
    have e1 := (blk_cell X2.out 1).trans rfl
    go_wp2_with fail
    obtain ⟨vl, vt, vw, hw⟩ := TK.out.1.rf
    refine (rdev_write hw K.out.cnt (Nat.le_trans K.out.w (by have := HJ.out; omega)) TK.out.1.rfr a L).mono ?_
    rintro e W3 ⟨rfl, hD, hC⟩
    have TK3 := Aside0.mk (TK.out.1.afterR hD hC)
    have BB3 := Aside0.mk (BB2.out.trans (TK3.out.2.below (Nat.le_trans HO.out BB2.out.size) TP.out.2.1))
    have QB3 : Aside0 (0 < N → ∃ cs : Array Value, W3.heap[q]? = some (.cells cs 5 (0, 0)) ∧ ∀ t (h : t < L.length), cs[t]? = some (.int .u8 L[t])) := ⟨fun h0 => by
      obtain ⟨-, h1, -⟩ := TP.out.2.2 h0
      obtain ⟨cs, h2, h3⟩ := QB.out h0
      exact ⟨cs, (TK3.out.2.chg.block q (blk_lt h2) h1).trans h2, h3⟩⟩
    clear hD hC hw hcv e1
    obtain ⟨en, hen⟩ : ∃ en, en = (S.write a L).2 := ⟨_, rfl⟩
    rw [← hen]
    clear hen
    go_wp2_with fail
    go_loopw [16] (fun v w' => ∃ i : Nat, i ≤ N ∧ v = .int .i64 (i : Int) ∧ Aside0 (0 < N → ∃ cs : Array Value, w'.heap[q]? = some (.cells cs 5 (0, 0)) ∧ ∀ t (h : t < L.length), i ≤ t → cs[t]? = some (.int .u8 L[t])) ∧ Aside0 (Two w' P g r (S.write a L).1 (S.write a L).1) ∧ Aside0 (Below B W w')) (fun v _ => ((N : Int) - intOf v).toNat)
    case atStart => exact ⟨0, Nat.zero_le _, rfl, ⟨fun h0 => by
        obtain ⟨cs, h1, h2⟩ := QB3.out h0
        exact ⟨cs, h1, fun t h _ => h2 t h⟩⟩, ⟨TK3.out.1⟩, BB3⟩
    case round =>
      obtain ⟨i, hi, rfl, YQ, YT, YB⟩ := hrel
      by_cases hlt : i < N
      · have d1 : decide (i < N) = true := decide_eq_true hlt
        have h0 : 0 < N := by omega
        obtain ⟨rfl, hq, hqB, -⟩ := TP.out.2.2 h0
        obtain ⟨cs, hq1, hq2⟩ := YQ.out h0
        have Q1 := Aside0.mk hq1
        have Q2 := Aside0.mk hq2
        have Q3 := Aside0.mk hq
        have Q4 := Aside0.mk hqB
        have r1 := (blk_cell hq1 i).trans (hq2 i (by rw [LE.out]; exact hlt) (Nat.le_refl _))
        have r2 := blk_frozen hq1 i
        obtain ⟨b, hb⟩ : ∃ b, b = L[i]'(by rw [LE.out]; exact hlt) := ⟨_, rfl⟩
        rw [← hb] at r1
        clear hb h0 hq hq1 hq2 hqB
        have q1 : (0 : Int) ≤ (i : Int) := Int.natCast_nonneg _
        have q2 : (i : Int) < (N : Int) := Int.ofNat_lt.2 hlt
        have HM : Aside0 (((N : Int) - intOf (.int .i64 ((i + 1 : Nat) : Int))).toNat < ((N : Int) - intOf (.int .i64 (i : Int))).toNat) := ⟨by simp [intOf]; omega⟩
        have HW := Aside0.mk (wrap_suc i (by omega))
        go_wp2_with fail
        refine ⟨⟨i + 1, hlt, rfl, ⟨fun _ => ⟨_, heap_setCell_same _ q i _ 5 _ Q1.out, fun t h ht => ?_⟩⟩, ⟨YT.out.move (fun k hk _ => Below.heap_setCell _ ⟨q, i, none⟩ _ k (fun e => Q3.out ((show k = q from e) ▸ hk))) (fun _ h _ => h) (fun k hk => YT.out.b k (by simpa [World.setCell] using hk))⟩, ⟨YB.out.setCell (p := ⟨q, i, none⟩) Q4.out _⟩⟩, HM.out⟩
        rw [Array.getElem?_setIfInBounds_ne (by omega)]
        exact Q2.out t h (by omega)
      · have d1 : decide (i < N) = false := decide_eq_false hlt
        go_wp2_with fail
        go_ret
        exact ⟨rfl, ⟨_, YT.out.move (fun _ _ _ => rfl) (fun k hk _ => TP.out.2.1 k hk) (fun k hk => TP.out.2.1 k (YT.out.b k hk)), K.out.write a L BO.out⟩, YB.out⟩
  · have f1 : decide (n < -300) = false := decide_eq_false n1
    by_cases n2 : 300 < n
    · have f2 : decide (300 < n) = true := decide_eq_true n2
      clear n1 n2
      go_enter Try.func22, Try.ntmps22
      go_wp2_with fail
      refine (bytes_calls f 1 _).mono ?_
      rintro e W1 ⟨A2, k2, rfl, hb, hB⟩
      have HBY := Aside0.mk hb
      have B1 := Aside0.mk hB
      have LE := Aside0.mk (bytes_val f 1).2
      have BO := Aside0.mk (bytesL_ok f 1)
      have HN6 := bytesN_le 1
      have X1 := Aside0.mk ((hB.block _ (blk_lt BX.out)).trans BX.out)
      have BB := Aside0.mk ((HB.out.mono HO.out).trans (hB.mono (Nat.le_trans HO.out HB.out.size)))
      obtain ⟨L, hL⟩ : ∃ L, L = bytesL f 1 := ⟨_, rfl⟩
      obtain ⟨N, hN⟩ : ∃ N, N = bytesN 1 := ⟨_, rfl⟩
      rw [← hL] at HBY LE BO
      rw [← hN] at HBY LE HN6 ⊢
      obtain ⟨q, P, TP⟩ : ∃ (q : Nat) (P : Nat → Prop), Aside0 (Two W1 P g r S S ∧ (∀ k, P k → B ≤ k) ∧ (0 < N → A2 = some ⟨q, 0, none⟩ ∧ ¬ P q ∧ B ≤ q ∧ L.length ≤ k2 ∧ ∃ cs : Array Value, W1.heap[q]? = some (.cells cs 5 (0, 0)) ∧ ∀ t (h : t < L.length), cs[t]? = some (.int .u8 L[t]))) := by
        have HS := HB.out.size
        have HOO := HO.out
        rcases Nat.eq_zero_or_pos N with h0 | h0
        · exact ⟨0, pB B, ⟨T1.out.below B1.out, fun _ h => h, fun h => by omega⟩⟩
        · obtain ⟨q, c, cs, h1, h2, h3, h4, h5⟩ := HBY.out h0
          rw [Value.slice.injEq] at h1
          obtain ⟨rfl, hNL, rfl⟩ := h1
          refine ⟨q, fun k => B ≤ k ∧ k ≠ q, ⟨T1.out.move (fun k _ hl => B1.out.block k hl) (fun k hk hl => ⟨hk, by omega⟩) (fun k hk => ⟨?_, ?_⟩), fun k hk => hk.1, fun _ => ⟨rfl, fun h => h.2 rfl, ?_, h2.1, cs, h4, h5⟩⟩⟩
          · have := B1.out.size; omega
          · have := blk_lt h4; omega
          · omega
      clear hb hB hN hL HBY B1 T1 BX HB c0 c1 c2 c3 c4 T
      have d1 := (blk_cell X1.out 1).trans rfl
      go_wp2_with fail
      refine (dev_write TP.out.1.df K.out.ok (Nat.le_trans K.out.w (by have := HJ.out; omega)) TP.out.1.dfr a A2 N k2 L LE.out.symm (fun h256 => ?_)).mono ?_
      · obtain ⟨rfl, -, -, hk2, cs, h1, h2⟩ := TP.out.2.2 (by rw [← LE.out]; omega)
        rw [← LE.out]
        exact ⟨q, k2, cs, rfl, ⟨hk2, by have := LE.out; omega⟩, trivial, h1, h2⟩
      rintro e W2 ⟨rfl, hD, hC⟩
      have TK := Aside0.mk (TP.out.1.afterD hD hC)
      clear hD hC d1
      have X2 := Aside0.mk (TK.out.2.box X1.out)
      have BB2 := Aside0.mk (BB.out.trans (TK.out.2.below (Nat.le_trans HO.out BB.out.size) TP.out.2.1))
      have QB : Aside0 (0 < N → ∃ cs : Array Value, W2.heap[q]? = some (.cells cs 5 (0, 0)) ∧ ∀ t (h : t < L.length), cs[t]? = some (.int .u8 L[t])) := ⟨fun h0 => by
        obtain ⟨-, h1, -, -, cs, h2, h3⟩ := TP.out.2.2 h0
        exact ⟨cs, (TK.out.2.chg.block q (blk_lt h2) h1).trans h2, h3⟩⟩
      have hcv : ∀ c, (convert 30 9 (.slice A2 N c)).run Try.prog W2 = .ok (.string (strOfNums L)) W2 := fun c => by
        rcases Nat.eq_zero_or_pos N with h0 | h0
        · exact Kd.C_string (P := Try.prog) Try.underlying30 Try.underlying5 Try.underlying9 ⟨LE.out, by omega, fun h => by omega⟩
        · obtain ⟨rfl, -, -, hk2, -⟩ := TP.out.2.2 h0
          obtain ⟨cs, h1, h2⟩ := QB.out h0
          obtain ⟨q', c', hq', -, -, -, hC⟩ := ByteBlk.reads (W := W2) (F := fun _ => True) (v := .slice (some ⟨q, 0, none⟩) L.length k2) (b := L) ⟨q, k2, cs, rfl, ⟨hk2, by have := LE.out; omega⟩, trivial, h1, h2⟩
          rw [Value.slice.injEq] at hq'
          obtain ⟨e1, -, -⟩ := hq'
          rw [← e1, LE.out] at hC
          exact Kd.C_string (P := Try.prog) Try.underlying30 Try.underlying5 Try.underlying9 hC
      have e1 := (blk_cell X2.out 1).trans rfl
      go_wp2_with fail
      obtain ⟨vl, vt, vw, hw⟩ := TK.out.1.rf
      refine (rdev_write hw K.out.cnt (Nat.le_trans K.out.w (by have := HJ.out; omega)) TK.out.1.rfr a L).mono ?_
      rintro e W3 ⟨rfl, hD, hC⟩
      have TK3 := Aside0.mk (TK.out.1.afterR hD hC)
      have BB3 := Aside0.mk (BB2.out.trans (TK3.out.2.below (Nat.le_trans HO.out BB2.out.size) TP.out.2.1))
      have QB3 : Aside0 (0 < N → ∃ cs : Array Value, W3.heap[q]? = some (.cells cs 5 (0, 0)) ∧ ∀ t (h : t < L.length), cs[t]? = some (.int .u8 L[t])) := ⟨fun h0 => by
        obtain ⟨-, h1, -⟩ := TP.out.2.2 h0
        obtain ⟨cs, h2, h3⟩ := QB.out h0
        exact ⟨cs, (TK3.out.2.chg.block q (blk_lt h2) h1).trans h2, h3⟩⟩
      clear hD hC hw hcv e1
      obtain ⟨en, hen⟩ : ∃ en, en = (S.write a L).2 := ⟨_, rfl⟩
      rw [← hen]
      clear hen
      go_wp2_with fail
      go_loopw [16] (fun v w' => ∃ i : Nat, i ≤ N ∧ v = .int .i64 (i : Int) ∧ Aside0 (0 < N → ∃ cs : Array Value, w'.heap[q]? = some (.cells cs 5 (0, 0)) ∧ ∀ t (h : t < L.length), i ≤ t → cs[t]? = some (.int .u8 L[t])) ∧ Aside0 (Two w' P g r (S.write a L).1 (S.write a L).1) ∧ Aside0 (Below B W w')) (fun v _ => ((N : Int) - intOf v).toNat)
      case atStart => exact ⟨0, Nat.zero_le _, rfl, ⟨fun h0 => by
          obtain ⟨cs, h1, h2⟩ := QB3.out h0
          exact ⟨cs, h1, fun t h _ => h2 t h⟩⟩, ⟨TK3.out.1⟩, BB3⟩
      case round =>
        obtain ⟨i, hi, rfl, YQ, YT, YB⟩ := hrel
        by_cases hlt : i < N
        · have d1 : decide (i < N) = true := decide_eq_true hlt
          have h0 : 0 < N := by omega
          obtain ⟨rfl, hq, hqB, -⟩ := TP.out.2.2 h0
          obtain ⟨cs, hq1, hq2⟩ := YQ.out h0
          have Q1 := Aside0.mk hq1
          have Q2 := Aside0.mk hq2
          have Q3 := Aside0.mk hq
          have Q4 := Aside0.mk hqB
          have r1 := (blk_cell hq1 i).trans (hq2 i (by rw [LE.out]; exact hlt) (Nat.le_refl _))
          have r2 := blk_frozen hq1 i
          obtain ⟨b, hb⟩ : ∃ b, b = L[i]'(by rw [LE.out]; exact hlt) := ⟨_, rfl⟩
          rw [← hb] at r1
          clear hb h0 hq hq1 hq2 hqB
          have q1 : (0 : Int) ≤ (i : Int) := Int.natCast_nonneg _
          have q2 : (i : Int) < (N : Int) := Int.ofNat_lt.2 hlt
          have HM : Aside0 (((N : Int) - intOf (.int .i64 ((i + 1 : Nat) : Int))).toNat < ((N : Int) - intOf (.int .i64 (i : Int))).toNat) := ⟨by simp [intOf]; omega⟩
          have HW := Aside0.mk (wrap_suc i (by omega))
          go_wp2_with fail
          refine ⟨⟨i + 1, hlt, rfl, ⟨fun _ => ⟨_, heap_setCell_same _ q i _ 5 _ Q1.out, fun t h ht => ?_⟩⟩, ⟨YT.out.move (fun k hk _ => Below.heap_setCell _ ⟨q, i, none⟩ _ k (fun e => Q3.out ((show k = q from e) ▸ hk))) (fun _ h _ => h) (fun k hk => YT.out.b k (by simpa [World.setCell] using hk))⟩, ⟨YB.out.setCell (p := ⟨q, i, none⟩) Q4.out _⟩⟩, HM.out⟩
          rw [Array.getElem?_setIfInBounds_ne (by omega)]
          exact Q2.out t h (by omega)
        · have d1 : decide (i < N) = false := decide_eq_false hlt
          go_wp2_with fail
          go_ret
          exact ⟨rfl, ⟨_, YT.out.move (fun _ _ _ => rfl) (fun k hk _ => TP.out.2.1 k hk) (fun k hk => TP.out.2.1 k (YT.out.b k hk)), K.out.write a L BO.out⟩, YB.out⟩
    · have f2 : decide (300 < n) = false := decide_eq_false n2
      clear n1 n2
      go_enter Try.func22, Try.ntmps22
      go_wp2_with fail
      refine (bytes_calls f n _).mono ?_
      rintro e W1 ⟨A2, k2, rfl, hb, hB⟩
      have HBY := Aside0.mk hb
      have B1 := Aside0.mk hB
      have LE := Aside0.mk (bytes_val f n).2
      have BO := Aside0.mk (bytesL_ok f n)
      have HN6 := bytesN_le n
      have X1 := Aside0.mk ((hB.block _ (blk_lt BX.out)).trans BX.out)
      have BB := Aside0.mk ((HB.out.mono HO.out).trans (hB.mono (Nat.le_trans HO.out HB.out.size)))
      obtain ⟨L, hL⟩ : ∃ L, L = bytesL f n := ⟨_, rfl⟩
      obtain ⟨N, hN⟩ : ∃ N, N = bytesN n := ⟨_, rfl⟩
      rw [← hL] at HBY LE BO
      rw [← hN] at HBY LE HN6 ⊢
      obtain ⟨q, P, TP⟩ : ∃ (q : Nat) (P : Nat → Prop), Aside0 (Two W1 P g r S S ∧ (∀ k, P k → B ≤ k) ∧ (0 < N → A2 = some ⟨q, 0, none⟩ ∧ ¬ P q ∧ B ≤ q ∧ L.length ≤ k2 ∧ ∃ cs : Array Value, W1.heap[q]? = some (.cells cs 5 (0, 0)) ∧ ∀ t (h : t < L.length), cs[t]? = some (.int .u8 L[t]))) := by
        have HS := HB.out.size
        have HOO := HO.out
        rcases Nat.eq_zero_or_pos N with h0 | h0
        · exact ⟨0, pB B, ⟨T1.out.below B1.out, fun _ h => h, fun h => by omega⟩⟩
        · obtain ⟨q, c, cs, h1, h2, h3, h4, h5⟩ := HBY.out h0
          rw [Value.slice.injEq] at h1
          obtain ⟨rfl, hNL, rfl⟩ := h1
          refine ⟨q, fun k => B ≤ k ∧ k ≠ q, ⟨T1.out.move (fun k _ hl => B1.out.block k hl) (fun k hk hl => ⟨hk, by omega⟩) (fun k hk => ⟨?_, ?_⟩), fun k hk => hk.1, fun _ => ⟨rfl, fun h => h.2 rfl, ?_, h2.1, cs, h4, h5⟩⟩⟩
          · have := B1.out.size; omega
          · have := blk_lt h4; omega
          · omega
      clear hb hB hN hL HBY B1 T1 BX HB c0 c1 c2 c3 c4 T
      have d1 := (blk_cell X1.out 1).trans rfl
      go_wp2_with fail
      refine (dev_write TP.out.1.df K.out.ok (Nat.le_trans K.out.w (by have := HJ.out; omega)) TP.out.1.dfr a A2 N k2 L LE.out.symm (fun h256 => ?_)).mono ?_
      · obtain ⟨rfl, -, -, hk2, cs, h1, h2⟩ := TP.out.2.2 (by rw [← LE.out]; omega)
        rw [← LE.out]
        exact ⟨q, k2, cs, rfl, ⟨hk2, by have := LE.out; omega⟩, trivial, h1, h2⟩
      rintro e W2 ⟨rfl, hD, hC⟩
      have TK := Aside0.mk (TP.out.1.afterD hD hC)
      clear hD hC d1
      have X2 := Aside0.mk (TK.out.2.box X1.out)
      have BB2 := Aside0.mk (BB.out.trans (TK.out.2.below (Nat.le_trans HO.out BB.out.size) TP.out.2.1))
      have QB : Aside0 (0 < N → ∃ cs : Array Value, W2.heap[q]? = some (.cells cs 5 (0, 0)) ∧ ∀ t (h : t < L.length), cs[t]? = some (.int .u8 L[t])) := ⟨fun h0 => by
        obtain ⟨-, h1, -, -, cs, h2, h3⟩ := TP.out.2.2 h0
        exact ⟨cs, (TK.out.2.chg.block q (blk_lt h2) h1).trans h2, h3⟩⟩
      have hcv : ∀ c, (convert 30 9 (.slice A2 N c)).run Try.prog W2 = .ok (.string (strOfNums L)) W2 := fun c => by
        rcases Nat.eq_zero_or_pos N with h0 | h0
        · exact Kd.C_string (P := Try.prog) Try.underlying30 Try.underlying5 Try.underlying9 ⟨LE.out, by omega, fun h => by omega⟩
        · obtain ⟨rfl, -, -, hk2, -⟩ := TP.out.2.2 h0
          obtain ⟨cs, h1, h2⟩ := QB.out h0
          obtain ⟨q', c', hq', -, -, -, hC⟩ := ByteBlk.reads (W := W2) (F := fun _ => True) (v := .slice (some ⟨q, 0, none⟩) L.length k2) (b := L) ⟨q, k2, cs, rfl, ⟨hk2, by have := LE.out; omega⟩, trivial, h1, h2⟩
          rw [Value.slice.injEq] at hq'
          obtain ⟨e1, -, -⟩ := hq'
          rw [← e1, LE.out] at hC
          exact Kd.C_string (P := Try.prog) Try.underlying30 Try.underlying5 Try.underlying9 hC
      have e1 := (blk_cell X2.out 1).trans rfl
      go_wp2_with fail
      obtain ⟨vl, vt, vw, hw⟩ := TK.out.1.rf
      refine (rdev_write hw K.out.cnt (Nat.le_trans K.out.w (by have := HJ.out; omega)) TK.out.1.rfr a L).mono ?_
      rintro e W3 ⟨rfl, hD, hC⟩
      have TK3 := Aside0.mk (TK.out.1.afterR hD hC)
      have BB3 := Aside0.mk (BB2.out.trans (TK3.out.2.below (Nat.le_trans HO.out BB2.out.size) TP.out.2.1))
      have QB3 : Aside0 (0 < N → ∃ cs : Array Value, W3.heap[q]? = some (.cells cs 5 (0, 0)) ∧ ∀ t (h : t < L.length), cs[t]? = some (.int .u8 L[t])) := ⟨fun h0 => by
        obtain ⟨-, h1, -⟩ := TP.out.2.2 h0
        obtain ⟨cs, h2, h3⟩ := QB.out h0
        exact ⟨cs, (TK3.out.2.chg.block q (blk_lt h2) h1).trans h2, h3⟩⟩
      clear hD hC hw hcv e1
      obtain ⟨en, hen⟩ : ∃ en, en = (S.write a L).2 := ⟨_, rfl⟩
      rw [← hen]
      clear hen
      go_wp2_with fail
      go_loopw [16] (fun v w' => ∃ i : Nat, i ≤ N ∧ v = .int .i64 (i : Int) ∧ Aside0 (0 < N → ∃ cs : Array Value, w'.heap[q]? = some (.cells cs 5 (0, 0)) ∧ ∀ t (h : t < L.length), i ≤ t → cs[t]? = some (.int .u8 L[t])) ∧ Aside0 (Two w' P g r (S.write a L).1 (S.write a L).1) ∧ Aside0 (Below B W w')) (fun v _ => ((N : Int) - intOf v).toNat)
      case atStart => exact ⟨0, Nat.zero_le _, rfl, ⟨fun h0 => by
          obtain ⟨cs, h1, h2⟩ := QB3.out h0
          exact ⟨cs, h1, fun t h _ => h2 t h⟩⟩, ⟨TK3.out.1⟩, BB3⟩
      case round =>
        obtain ⟨i, hi, rfl, YQ, YT, YB⟩ := hrel
        by_cases hlt : i < N
        · have d1 : decide (i < N) = true := decide_eq_true hlt
          have h0 : 0 < N := by omega
          obtain ⟨rfl, hq, hqB, -⟩ := TP.out.2.2 h0
          obtain ⟨cs, hq1, hq2⟩ := YQ.out h0
          have Q1 := Aside0.mk hq1
          have Q2 := Aside0.mk hq2
          have Q3 := Aside0.mk hq
          have Q4 := Aside0.mk hqB
          have r1 := (blk_cell hq1 i).trans (hq2 i (by rw [LE.out]; exact hlt) (Nat.le_refl _))
          have r2 := blk_frozen hq1 i
          obtain ⟨b, hb⟩ : ∃ b, b = L[i]'(by rw [LE.out]; exact hlt) := ⟨_, rfl⟩
          rw [← hb] at r1
          clear hb h0 hq hq1 hq2 hqB
          have q1 : (0 : Int) ≤ (i : Int) := Int.natCast_nonneg _
          have q2 : (i : Int) < (N : Int) := Int.ofNat_lt.2 hlt
          have HM : Aside0 (((N : Int) - intOf (.int .i64 ((i + 1 : Nat) : Int))).toNat < ((N : Int) - intOf (.int .i64 (i : Int))).toNat) := ⟨by simp [intOf]; omega⟩
          have HW := Aside0.mk (wrap_suc i (by omega))
          go_wp2_with fail
          refine ⟨⟨i + 1, hlt, rfl, ⟨fun _ => ⟨_, heap_setCell_same _ q i _ 5 _ Q1.out, fun t h ht => ?_⟩⟩, ⟨YT.out.move (fun k hk _ => Below.heap_setCell _ ⟨q, i, none⟩ _ k (fun e => Q3.out ((show k = q from e) ▸ hk))) (fun _ h _ => h) (fun k hk => YT.out.b k (by simpa [World.setCell] using hk))⟩, ⟨YB.out.setCell (p := ⟨q, i, none⟩) Q4.out _⟩⟩, HM.out⟩
          rw [Array.getElem?_setIfInBounds_ne (by omega)]
          exact Q2.out t h (by omega)
        · have d1 : decide (i < N) = false := decide_eq_false hlt
          go_wp2_with fail
          go_ret
          exact ⟨rfl, ⟨_, YT.out.move (fun _ _ _ => rfl) (fun k hk _ => TP.out.2.1 k hk) (fun k hk => TP.out.2.1 k (YT.out.b k hk)), K.out.write a L BO.out⟩, YB.out⟩

set_option maxHeartbeats 4000000 in
set_option maxRecDepth 100000 in
theorem step3_calls {W : World} {B g r m j : Nat} {S : FSt} (h : Two W (pB B) g r S S) (hf : Fit m j S) (hj : j ≤ 999999) (a f n : Int) (hn : n ≤ 9223372036854775807) (A : Option Addr) (c : Nat) (l : List Int) (hp : ∀ W', Below B W W' → Kd.C (Kd.int .i64) W' A l.length l) (hc : l.length ≤ c) (hl : l.length * 8 ≤ 140737488351232) :
    Calls Try.prog 22 #[.pointer (some ⟨g, 0, none⟩), .pointer (some ⟨r, 0, none⟩), .agg #[.int .i64 3, .int .i64 a, .int .i64 f, .int .i64 n, .slice A l.length c]] W fun e W' => e = .returned (.bool true) ∧ (∃ S', Two W' (pB B) g r S' S' ∧ Fit m (j + 1) S') ∧ Below B W W' := by
  have T := Aside0.mk h
  have K := Aside0.mk hf
  have HP := Aside0.mk hp
  have HL := Aside0.mk hl
  have HC := Aside0.mk hc
  have HN := Aside0.mk hn
  have HJ := Aside0.mk hj
  have HO : Aside0 (B ≤ W.heap.size) := ⟨by
    obtain ⟨gs, vw, hd⟩ := h.d
    exact Nat.le_of_lt (Nat.lt_of_le_of_lt (show B ≤ g from hd.fg) (blk_lt hd.hg))⟩
  have BX := Aside0.mk (heap_alloc_new W (.cells #[.int .i64 3, .int .i64 a, .int .i64 f, .int .i64 n, .slice A l.length c] 44))
  have HB := Aside0.mk (below_alloc (Below.refl W.heap.size W) (.cells #[.int .i64 3, .int .i64 a, .int .i64 f, .int .i64 n, .slice A l.length c] 44))
  have T1 := Aside0.mk (T.out.below HB.out)
  have c0 := (blk_cell BX.out 0).trans rfl
  have c1 := (blk_cell BX.out 1).trans rfl
  have c2 := (blk_cell BX.out 2).trans rfl
  have c3 := (blk_cell BX.out 3).trans rfl
  have c4 := (blk_cell BX.out 4).trans rfl
  clear h hf hj hn hp hc hl
  clear c0 c1 c2 c3 c4
  go_enter Try.func22, Try.ntmps22
  go_wp2_with fail
  refine (dev_flush T1.out.df K.out.ok (Nat.le_trans K.out.w (by have := HJ.out; omega)) T1.out.dfr).mono ?_
  rintro e W2 ⟨rfl, hD, hC⟩
  have TK := Aside0.mk (T1.out.afterD hD hC)
  clear hD hC
  have BB := Aside0.mk ((HB.out.mono HO.out).trans (TK.out.2.below (Nat.le_trans HO.out HB.out.size) (fun _ h => h)))
  go_wp2_with fail
  obtain ⟨vl, vt, vw, hw⟩ := TK.out.1.rf
  refine (rdev_flush hw K.out.cnt K.out.ok (Nat.le_trans K.out.w (by have := HJ.out; omega))).mono ?_
  rintro e W3 ⟨rfl, hD, hC⟩
  have TK3 := Aside0.mk (TK.out.1.afterR hD hC)
  have BB3 := Aside0.mk (BB.out.trans (TK3.out.2.below (Nat.le_trans HO.out BB.out.size) (fun _ h => h)))
  clear hD hC hw
  obtain ⟨en, hen⟩ : ∃ en, en = S.flush.2 := ⟨_, rfl⟩
  rw [← hen]
  clear hen
  go_wp2_with fail
  go_ret
  exact ⟨rfl, ⟨_, TK3.out.1, K.out.flush.mono (Nat.le_succ _)⟩, BB3.out⟩
set_option maxHeartbeats 4000000 in
set_option maxRecDepth 100000 in
theorem step4_calls {W : World} {B g r m j : Nat} {S : FSt} (h : Two W (pB B) g r S S) (hf : Fit m j S) (hj : j ≤ 999999) (a f n : Int) (hn : n ≤ 9223372036854775807) (A : Option Addr) (c : Nat) (l : List Int) (hp : ∀ W', Below B W W' → Kd.C (Kd.int .i64) W' A l.length l) (hc : l.length ≤ c) (hl : l.length * 8 ≤ 140737488351232) :
    Calls Try.prog 22 #[.pointer (some ⟨g, 0, none⟩), .pointer (some ⟨r, 0, none⟩), .agg #[.int .i64 4, .int .i64 a, .int .i64 f, .int .i64 n, .slice A l.length c]] W fun e W' => e = .returned (.bool true) ∧ (∃ S', Two W' (pB B) g r S' S' ∧ Fit m (j + 1) S') ∧ Below B W W' := by
  have T := Aside0.mk h
  have K := Aside0.mk hf
  have HP := Aside0.mk hp
  have HL := Aside0.mk hl
  have HC := Aside0.mk hc
  have HN := Aside0.mk hn
  have HJ := Aside0.mk hj
  have HO : Aside0 (B ≤ W.heap.size) := ⟨by
    obtain ⟨gs, vw, hd⟩ := h.d
    exact Nat.le_of_lt (Nat.lt_of_le_of_lt (show B ≤ g from hd.fg) (blk_lt hd.hg))⟩
  have BX := Aside0.mk (heap_alloc_new W (.cells #[.int .i64 4, .int .i64 a, .int .i64 f, .int .i64 n, .slice A l.length c] 44))
  have HB := Aside0.mk (below_alloc (Below.refl W.heap.size W) (.cells #[.int .i64 4, .int .i64 a, .int .i64 f, .int .i64 n, .slice A l.length c] 44))
  have T1 := Aside0.mk (T.out.below HB.out)
  have c0 := (blk_cell BX.out 0).trans rfl
  have c1 := (blk_cell BX.out 1).trans rfl
  have c2 := (blk_cell BX.out 2).trans rfl
  have c3 := (blk_cell BX.out 3).trans rfl
  have c4 := (blk_cell BX.out 4).trans rfl
  clear h hf hj hn hp hc hl
  clear c0 c1 c2 c4
  go_enter Try.func22, Try.ntmps22
  go_wp2_with fail
  obtain ⟨gs, vv, hd⟩ := T1.out.df
  refine (dev_arm hd n).mono ?_
  rintro e W2 ⟨rfl, hD, hO⟩
  have TK := Aside0.mk (T1.out.afterD ⟨_, _, hD⟩ (hO.chg hd.fg))
  clear hD hO hd
  have X2 := Aside0.mk (TK.out.2.box BX.out)
  have BB := Aside0.mk ((HB.out.mono HO.out).trans (TK.out.2.below (Nat.le_trans HO.out HB.out.size) (fun _ h => h)))
  clear c3
  have d3 := (blk_cell X2.out 3).trans rfl
  go_wp2_with fail
  obtain ⟨vl, vt, vw, hw⟩ := TK.out.1.rf
  refine (rdev_arm hw n).mono ?_
  rintro e W3 ⟨rfl, hD, hO⟩
  have TK3 := Aside0.mk (TK.out.1.afterR ⟨_, _, _, hD⟩ (hO.chg hw.gr))
  have BB3 := Aside0.mk (BB.out.trans (TK3.out.2.below (Nat.le_trans HO.out BB.out.size) (fun _ h => h)))
  clear hD hO hw
  go_wp2_with fail
  go_ret
  exact ⟨rfl, ⟨_, TK3.out.1, (K.out.arm n HN.out).mono (Nat.le_succ _)⟩, BB3.out⟩
set_option maxHeartbeats 4000000 in
set_option maxRecDepth 100000 in
theorem step6_calls {W : World} {B g r m j : Nat} {S : FSt} (h : Two W (pB B) g r S S) (hf : Fit m j S) (hj : j ≤ 999999) (a f n : Int) (hn : n ≤ 9223372036854775807) (A : Option Addr) (c : Nat) (l : List Int) (hp : ∀ W', Below B W W' → Kd.C (Kd.int .i64) W' A l.length l) (hc : l.length ≤ c) (hl : l.length * 8 ≤ 140737488351232) :
    Calls Try.prog 22 #[.pointer (some ⟨g, 0, none⟩), .pointer (some ⟨r, 0, none⟩), .agg #[.int .i64 6, .int .i64 a, .int .i64 f, .int .i64 n, .slice A l.length c]] W fun e W' => e = .returned (.bool true) ∧ (∃ S', Two W' (pB B) g r S' S' ∧ Fit m (j + 1) S') ∧ Below B W W' := by
  have T := Aside0.mk h
  have K := Aside0.mk hf
  have HP := Aside0.mk hp
  have HL := Aside0.mk hl
  have HC := Aside0.mk hc
  have HN := Aside0.mk hn
  have HJ := Aside0.mk hj
  have HO : Aside0 (B ≤ W.heap.size) := ⟨by
    obtain ⟨gs, vw, hd⟩ := h.d
    exact Nat.le_of_lt (Nat.lt_of_le_of_lt (show B ≤ g from hd.fg) (blk_lt hd.hg))⟩
  have BX := Aside0.mk (heap_alloc_new W (.cells #[.int .i64 6, .int .i64 a, .int .i64 f, .int .i64 n, .slice A l.length c] 44))
  have HB := Aside0.mk (below_alloc (Below.refl W.heap.size W) (.cells #[.int .i64 6, .int .i64 a, .int .i64 f, .int .i64 n, .slice A l.length c] 44))
  have T1 := Aside0.mk (T.out.below HB.out)
  have c0 := (blk_cell BX.out 0).trans rfl
  have c1 := (blk_cell BX.out 1).trans rfl
  have c2 := (blk_cell BX.out 2).trans rfl
  have c3 := (blk_cell BX.out 3).trans rfl
  have c4 := (blk_cell BX.out 4).trans rfl
  clear h hf hj hn hp hc hl
  clear c0 c1 c2 c3 c4
  go_enter Try.func22, Try.ntmps22
  go_wp2_with fail
  refine (dev_erase T1.out.df K.out.ok.n T1.out.dfr).mono ?_
  rintro e W2 ⟨rfl, hD, hC⟩
  have TK := Aside0.mk (T1.out.afterD hD hC)
  clear hD hC
  have BB := Aside0.mk ((HB.out.mono HO.out).trans (TK.out.2.below (Nat.le_trans HO.out HB.out.size) (fun _ h => h)))
  go_wp2_with fail
  obtain ⟨vl, vt, vw, hw⟩ := TK.out.1.rf
  refine (rdev_erase hw K.out.ok.n TK.out.1.rfr).mono ?_
  rintro e W3 ⟨rfl, hD, hC⟩
  have TK3 := Aside0.mk (TK.out.1.afterR hD hC)
  have BB3 := Aside0.mk (BB.out.trans (TK3.out.2.below (Nat.le_trans HO.out BB.out.size) (fun _ h => h)))
  clear hD hC hw
  go_wp2_with fail
  go_ret
  exact ⟨rfl, ⟨_, TK3.out.1, K.out.erase.mono (Nat.le_succ _)⟩, BB3.out⟩

set_option maxHeartbeats 4000000 in
set_option maxRecDepth 100000 in
theorem step5_calls {W : World} {B g r m j : Nat} {S : FSt} (h : Two W (pB B) g r S S) (hf : Fit m j S) (hj : j ≤ 999999) (a f n : Int) (hn : n ≤ 9223372036854775807) (A : Option Addr) (c : Nat) (l : List Int) (hp : ∀ W', Below B W W' → Kd.C (Kd.int .i64) W' A l.length l) (hc : l.length ≤ c) (hl : l.length * 8 ≤ 140737488351232) :
    Calls Try.prog 22 #[.pointer (some ⟨g, 0, none⟩), .pointer (some ⟨r, 0, none⟩), .agg #[.int .i64 5, .int .i64 a, .int .i64 f, .int .i64 n, .slice A l.length c]] W fun e W' => e = .returned (.bool true) ∧ (∃ S', Two W' (pB B) g r S' S' ∧ Fit m (j + 1) S') ∧ Below B W W' := by
  have T := Aside0.mk h
  have K := Aside0.mk hf
  have HP := Aside0.mk hp
  have HL := Aside0.mk hl
  have HC := Aside0.mk hc
  have HN := Aside0.mk hn
  have HJ := Aside0.mk hj
  have HO : Aside0 (B ≤ W.heap.size) := ⟨by
    obtain ⟨gs, vw, hd⟩ := h.d
    exact Nat.le_of_lt (Nat.lt_of_le_of_lt (show B ≤ g from hd.fg) (blk_lt hd.hg))⟩
  have BX := Aside0.mk (heap_alloc_new W (.cells #[.int .i64 5, .int .i64 a, .int .i64 f, .int .i64 n, .slice A l.length c] 44))
  have HB := Aside0.mk (below_alloc (Below.refl W.heap.size W) (.cells #[.int .i64 5, .int .i64 a, .int .i64 f, .int .i64 n, .slice A l.length c] 44))
  have T1 := Aside0.mk (T.out.below HB.out)
  have c0 := (blk_cell BX.out 0).trans rfl
  have c1 := (blk_cell BX.out 1).trans rfl
  have c2 := (blk_cell BX.out 2).trans rfl
  have c3 := (blk_cell BX.out 3).trans rfl
  have c4 := (blk_cell BX.out 4).trans rfl
  clear h hf hj hn hp hc hl
  clear c0 c1 c2 c3
  obtain ⟨A6, n6, c6, w6, hap, hI, hB⟩ := copy_ints (W.alloc (.cells #[.int .i64 5, .int .i64 a, .int .i64 f, .int .i64 n, .slice A l.length c] 44)) A c l (HP.out _ (HB.out.mono HO.out)) HL.out
  rw [World.size_alloc] at hap
  have HAP := Aside0.mk hap
  have I6 := Aside0.mk hI
  have T6 := Aside0.mk (T1.out.below hB)
  have X6 := Aside0.mk ((hB.block _ (blk_lt BX.out)).trans BX.out)
  have B6 := Aside0.mk ((HB.out.mono HO.out).trans (hB.mono (Nat.le_trans HO.out HB.out.size)))
  have c4' : ((W.alloc (.cells #[.int .i64 5, .int .i64 a, .int .i64 f, .int .i64 n, .slice A l.length c] 44)).alloc (.cells #[] 3)).cell? ⟨W.heap.size, 4, none⟩ = some (.slice A l.length c) := (blk_cell ((Below.heap_alloc (W.alloc (.cells #[.int .i64 5, .int .i64 a, .int .i64 f, .int .i64 n, .slice A l.length c] 44)) (.cells #[] 3) _ (blk_lt BX.out)).trans BX.out) 4).trans rfl
  clear hap hI hB
  go_enter Try.func22, Try.ntmps22
  go_wp2_with (first | (at_builtin; refine wpList_append_ran rfl (.tmp 125) (.tmp 127) 22 rfl _ _ _ rfl rfl HAP.out ?_) | fail)
  clear c4 c4'
  refine (dev_crash T6.out.df K.out.ok (Nat.le_trans K.out.w (by have := HJ.out; omega)) T6.out.dfr _ l I6.out).mono ?_
  rintro e W2 ⟨rfl, hD, hC⟩
  have TK := Aside0.mk (T6.out.afterD hD hC)
  clear hD hC
  have X2 := Aside0.mk (TK.out.2.box X6.out)
  have BB := Aside0.mk (B6.out.trans (TK.out.2.below (Nat.le_trans HO.out B6.out.size) (fun _ h => h)))
  have d4 := (blk_cell X2.out 4).trans rfl
  go_wp2_with fail
  obtain ⟨vl, vt, vw, hw⟩ := TK.out.1.rf
  refine (rdev_crash hw K.out.ok (Nat.le_trans K.out.w (by have := HJ.out; omega)) TK.out.1.rfr A c l (fun w' hw' => HP.out w' (BB.out.trans (hw'.below (Nat.le_trans HO.out BB.out.size) (fun _ h => h.1)))) HC.out).mono ?_
  rintro e W3 ⟨rfl, hD, hC⟩
  have TK3 := Aside0.mk (TK.out.1.afterR hD hC)
  have BB3 := Aside0.mk (BB.out.trans (TK3.out.2.below (Nat.le_trans HO.out BB.out.size) (fun _ h => h)))
  clear hD hC hw
  go_wp2_with fail
  go_ret
  exact ⟨rfl, ⟨_, TK3.out.1, (K.out.crash l).mono (Nat.le_succ _)⟩, BB3.out⟩

set_option maxHeartbeats 4000000 in
set_option maxRecDepth 100000 in
theorem step0_calls {W : World} {B g r m j : Nat} {S : FSt} (h : Two W (pB B) g r S S) (hf : Fit m j S) (hj : j ≤ 999999) (k : Int) (hk : (k = 1 ∨ k = 2 ∨ k = 3 ∨ k = 4 ∨ k = 5 ∨ k = 6) → False) (a f n : Int) (hn : n ≤ 9223372036854775807) (A : Option Addr) (c : Nat) (l : List Int) (hp : ∀ W', Below B W W' → Kd.C (Kd.int .i64) W' A l.length l) (hc : l.length ≤ c) (hl : l.length * 8 ≤ 140737488351232) :
    Calls Try.prog 22 #[.pointer (some ⟨g, 0, none⟩), .pointer (some ⟨r, 0, none⟩), .agg #[.int .i64 k, .int .i64 a, .int .i64 f, .int .i64 n, .slice A l.length c]] W fun e W' => e = .returned (.bool true) ∧ (∃ S', Two W' (pB B) g r S' S' ∧ Fit m (j + 1) S') ∧ Below B W W' := by
  have T := Aside0.mk h
  have K := Aside0.mk hf
  have HP := Aside0.mk hp
  have HL := Aside0.mk hl
  have HC := Aside0.mk hc
  have HN := Aside0.mk hn
  have HJ := Aside0.mk hj
  have HO : Aside0 (B ≤ W.heap.size) := ⟨by
    obtain ⟨gs, vw, hd⟩ := h.d
    exact Nat.le_of_lt (Nat.lt_of_le_of_lt (show B ≤ g from hd.fg) (blk_lt hd.hg))⟩
  have BX := Aside0.mk (heap_alloc_new W (.cells #[.int .i64 k, .int .i64 a, .int .i64 f, .int .i64 n, .slice A l.length c] 44))
  have HB := Aside0.mk (below_alloc (Below.refl W.heap.size W) (.cells #[.int .i64 k, .int .i64 a, .int .i64 f, .int .i64 n, .slice A l.length c] 44))
  have T1 := Aside0.mk (T.out.below HB.out)
  have c0 := (blk_cell BX.out 0).trans rfl
  have c1 := (blk_cell BX.out 1).trans rfl
  have c2 := (blk_cell BX.out 2).trans rfl
  have c3 := (blk_cell BX.out 3).trans rfl
  have c4 := (blk_cell BX.out 4).trans rfl
  clear h hf hj hn hp hc hl
  clear c1 c2 c3 c4
  have k1 : (k == 1) = false := beq_eq_false_iff_ne.2 (fun h => hk (by omega))
  have k2 : (k == 2) = false := beq_eq_false_iff_ne.2 (fun h => hk (by omega))
  have k3 : (k == 3) = false := beq_eq_false_iff_ne.2 (fun h => hk (by omega))
  have k4 : (k == 4) = false := beq_eq_false_iff_ne.2 (fun h => hk (by omega))
  have k5 : (k == 5) = false := beq_eq_false_iff_ne.2 (fun h => hk (by omega))
  have k6 : (k == 6) = false := beq_eq_false_iff_ne.2 (fun h => hk (by omega))
  clear hk
  obtain ⟨gs, vv, hd⟩ := T1.out.d
  obtain ⟨Aw2, cw2, rfl, -⟩ := hd.wslice
  obtain ⟨vl, vt, vw, hw⟩ := T1.out.w
  obtain ⟨⟨Al, cl, rfl⟩, ⟨At, ct, rfl⟩, ⟨Aw, cw, rfl⟩⟩ := hw.slices
  obtain ⟨r0, -, r2, -, -, -⟩ := hw.cells
  have HDQ : Aside0 (∀ nq, DevAt ((W.alloc (.cells #[.int .i64 k, .int .i64 a, .int .i64 f, .int .i64 n, .slice A l.length c] 44)).drewN nq) (pB B) g gs (.slice Aw2 S.waits.length cw2) S) := ⟨fun nq => hd.move (W' := (W.alloc (.cells #[.int .i64 k, .int .i64 a, .int .i64 f, .int .i64 n, .slice A l.length c] 44)).drewN nq) (fun _ _ _ => rfl) (fun _ h _ => h)⟩
  have FI : Aside0 (∀ w', Below (W.alloc (.cells #[.int .i64 k, .int .i64 a, .int .i64 f, .int .i64 n, .slice A l.length c] 44)).heap.size (W.alloc (.cells #[.int .i64 k, .int .i64 a, .int .i64 f, .int .i64 n, .slice A l.length c] 44)) w' → (∃ S', Two w' (pB B) g r S' S' ∧ Fit m (j + 1) S') ∧ Below B W w') := ⟨fun w' hb => ⟨⟨S, T1.out.below hb, K.out.mono (Nat.le_succ _)⟩, (HB.out.mono HO.out).trans (hb.mono (Nat.le_trans HO.out HB.out.size))⟩⟩
  have NS : Aside0 (∃ n1 n2, n1 = S.secs.length ∧ n2 = S.waits.length) := ⟨_, _, rfl, rfl⟩
  obtain ⟨⟨n1, n2, h1, h2⟩⟩ := NS
  have NS := Aside0.mk h1
  have NW := Aside0.mk h2
  rw [← h1] at r0
  rw [← h2] at r2
  clear hd hw h1 h2
  go_enter Try.func22, Try.ntmps22
  go_wp2_with fail
  go_quiet (first | (go_at_call 19; refine (dev_pending (HDQ.out _)).mono ?_; rintro e w' ⟨rfl, rfl⟩; rw [← NW.out]; exact ⟨rfl, _, rfl⟩) | (go_at_call 16; refine (dev_size (HDQ.out _)).mono ?_; rintro e w' ⟨rfl, rfl⟩; rw [← NS.out]; exact ⟨rfl, _, rfl⟩) | fail)
  go_wp2_with fail
  go_ret
  exact ⟨rfl, FI.out _ (pw_below_drewN (Below.refl _ _) _)⟩

theorem step_calls {W : World} {B g r m j : Nat} {S : FSt} (h : Two W (pB B) g r S S) (hf : Fit m j S) (hj : j ≤ 999999) (k a f n : Int) (hn : n ≤ 9223372036854775807) (A : Option Addr) (c : Nat) (l : List Int) (hp : ∀ W', Below B W W' → Kd.C (Kd.int .i64) W' A l.length l) (hc : l.length ≤ c) (hl : l.length * 8 ≤ 140737488351232) :
    Calls Try.prog 22 #[.pointer (some ⟨g, 0, none⟩), .pointer (some ⟨r, 0, none⟩), .agg #[.int .i64 k, .int .i64 a, .int .i64 f, .int .i64 n, .slice A l.length c]] W fun e W' => e = .returned (.bool true) ∧ (∃ S', Two W' (pB B) g r S' S' ∧ Fit m (j + 1) S') ∧ Below B W W' := by
  by_cases hk : k = 1 ∨ k = 2 ∨ k = 3 ∨ k = 4 ∨ k = 5 ∨ k = 6
  · rcases hk with rfl | rfl | rfl | rfl | rfl | rfl
    · exact step1_calls h hf hj a f n hn A c l hp hc hl
    · exact step2_calls h hf hj a f n hn A c l hp hc hl
    · exact step3_calls h hf hj a f n hn A c l hp hc hl
    · exact step4_calls h hf hj a f n hn A c l hp hc hl
    · exact step5_calls h hf hj a f n hn A c l hp hc hl
    · exact step6_calls h hf hj a f n hn A c l hp hc hl
  · exact step0_calls h hf hj k hk a f n hn A c l hp hc hl
end Go.Proofs.Ytgakjpnfbgmjjaa.PA
