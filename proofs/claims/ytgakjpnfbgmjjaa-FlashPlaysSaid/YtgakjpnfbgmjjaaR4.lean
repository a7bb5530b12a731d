import Derived.Test.YtgakjpnfbgmjjaaR3
import Derived.RangeFuncBox
import Derived.RangeFuncLeaves
import Derived.RangeFuncNested
import Derived.RangeFuncBound
import Derived.RangeFuncCalls
import Derived.Shelf.Abstract
import Derived.WalkKit
import Derived.OwnWalkIn
import Derived.TacticsInMore
import Derived.LoopNIn
import Derived.LoopIn
import Derived.Deep.Slices
import Derived.SizedLaws
import Derived.IntWalk
import Derived.ArgAppend
namespace Go.Proofs.Ytgakjpnfbgmjjaa.PA
open Go.RowKit Go.Proofs.YtgakjpnfbgmjjaaW.PrintWords Go.Proofs.YtgakjpnfbgmjjaaW.PrintLast Go.Proofs.YtgakjpnfbgmjjaaW.PrintMore
set_option linter.unusedVariables false
set_option linter.unusedSimpArgs false
/-! ### The document's rows, written -/
theorem row_at {α : Type} {enc : α → Value} {h1 : ∀ x, (enc x).oneCell' = true} {e : Nat} {W : World} {G : Nat → Prop} {v : Value} {xs : List α} (d : α) (h : (Kd.scalar enc h1).R e W 0 G v xs) (k : Nat) (hk : k < xs.length) :
    ∃ g c, v = .slice (some ⟨g, 0, none⟩) xs.length c ∧ G g ∧ (∃ cells, W.heap[g]? = some (.cells cells e (0, 0))) ∧ (∃ x, W.cell? ⟨g, k, none⟩ = some (enc x)) ∧ W.frozen? ⟨g, k, none⟩ = false ∧ ∀ x, (Kd.scalar enc h1).R e (W.setCell ⟨g, k, none⟩ (enc x)) 0 G v (xs.set k x) := by
  obtain ⟨inner, ho⟩ := Kd.R_own h
  rcases ho.2 with ⟨_, hx⟩ | ⟨g, cap, cur, rfl, _, hh, _⟩
  · omega
  · have hc := Kd.R_cell d h (k : Int) (by omega) (by omega)
    rw [Int.toNat_natCast] at hc
    refine ⟨g, cap, rfl, h.1 g rfl, ⟨cur, hh⟩, ⟨_, hc.1⟩, hc.2, fun x => ?_⟩
    have := (Kd.R_put h (k : Int) x).1
    rw [Int.toNat_natCast] at this
    exact this
structure RSec (W : World) (G : Nat → Prop) (r : Nat) (vl vt vw : Value) (S : FSt) (k gl gt cl ct : Nat) : Prop where
  el : vl = .slice (some ⟨gl, 0, none⟩) S.secs.length cl
  et : vt = .slice (some ⟨gt, 0, none⟩) S.secs.length ct
  Gl : G gl
  Gt : G gt
  ne : gl ≠ gt
  bl : ∃ cs, W.heap[gl]? = some (.cells cs 9 (0, 0))
  bt : ∃ cs, W.heap[gt]? = some (.cells cs 4 (0, 0))
  c1 : ∃ x, W.cell? ⟨gl, k, none⟩ = some (.string x)
  f1 : W.frozen? ⟨gl, k, none⟩ = false
  c2 : ∃ x, W.cell? ⟨gt, k, none⟩ = some (.bool x)
  f2 : W.frozen? ⟨gt, k, none⟩ = false
  put : ∀ b, RDevAt ((W.setCell ⟨gl, k, none⟩ (.string (strOfNums b))).setCell ⟨gt, k, none⟩ (.bool false)) G r vl vt vw { S with secs := S.secs.set k (some b, false) }
  torn : RDevAt (W.setCell ⟨gt, k, none⟩ (.bool true)) G r vl vt vw { S with secs := S.secs.set k ((S.secs[k]?.getD (none, false)).1, true) }
theorem RDevAt.sec {W : World} {G : Nat → Prop} {r : Nat} {vl vt vw : Value} {S : FSt} (h : RDevAt W G r vl vt vw S) (k : Nat) (hk : k < S.secs.length) : ∃ gl gt cl ct, RSec W G r vl vt vw S k gl gt cl ct := by
  obtain ⟨gl, cl, el, Gl, ⟨cc1, hb1⟩, c1, f1, p1⟩ := row_at (ByteArray.empty) h.rows.hl k (by rw [List.length_map]; exact hk)
  obtain ⟨gt, ct, et, Gt, ⟨cc2, hb2⟩, c2, f2, p2⟩ := row_at false h.rows.ht k (by rw [List.length_map]; exact hk)
  rw [List.length_map] at el et
  have ne : gl ≠ gt := blk_ne hb1 hb2 (by decide)
  have h9 : ∀ q, q ∈ 9 :: Kd.string.E → q ≠ 4 := by intro q hq; simp [Kd.string, Kd.scalar] at hq; omega
  have h4 : ∀ q, q ∈ 4 :: Kd.bool.E → q ≠ 9 := by intro q hq; simp [Kd.bool, Kd.scalar] at hq; omega
  have hw9 : ∀ q, q ∈ 78 :: k78.E → q ≠ 9 := by decide
  have hw4 : ∀ q, q ∈ 78 :: k78.E → q ≠ 4 := by decide
  refine ⟨gl, gt, cl, ct, el, et, Gl, Gt, ne, ⟨cc1, hb1⟩, ⟨cc2, hb2⟩, c1, f1, c2, f2, fun b => ?_, ?_⟩
  · have hb2' : (W.setCell ⟨gl, k, none⟩ (.string (strOfNums b))).heap[gt]? = some (.cells cc2 4 (0, 0)) := (Below.heap_setCell W ⟨gl, k, none⟩ _ gt (fun e => ne e.symm)).trans hb2
    refine ⟨h.gr, ?_, ⟨?_, ?_, ?_⟩⟩
    · show ((W.setCell ⟨gl, k, none⟩ (.string (strOfNums b))).setCell ⟨gt, k, none⟩ (.bool false)).heap[r]? = _
      rw [Below.heap_setCell _ ⟨gt, k, none⟩ _ r (blk_ne h.hr hb2 (by decide)), Below.heap_setCell _ ⟨gl, k, none⟩ _ r (blk_ne h.hr hb1 (by decide))]
      exact h.hr
    · have := p1 (strOfNums b)
      rw [show (S.secs.map secStr).set k (strOfNums b) = (S.secs.set k (some b, false)).map secStr by rw [List.map_set]; rfl] at this
      exact Kd.R_set this hb2' h9 k _
    · have h1 := Kd.R_set h.rows.ht hb1 h4 k (.string (strOfNums b))
      obtain ⟨gt', ct', et', _, _, _, _, p2'⟩ := row_at false h1 k (by rw [List.length_map]; exact hk)
      rw [et, List.length_map] at et'
      simp only [Value.slice.injEq, Option.some.injEq, Addr.mk.injEq, and_true] at et'
      obtain ⟨rfl, _⟩ := et'
      have := p2' false
      rw [show (S.secs.map (·.2)).set k false = (S.secs.set k (some b, false)).map (·.2) by rw [List.map_set]] at this
      exact this
    · exact Kd.R_set (Kd.R_set h.rows.hw hb1 hw9 k _) hb2' hw4 k _
  · refine ⟨h.gr, ?_, ⟨?_, ?_, ?_⟩⟩
    · show (W.setCell ⟨gt, k, none⟩ (.bool true)).heap[r]? = _
      rw [Below.heap_setCell _ ⟨gt, k, none⟩ _ r (blk_ne h.hr hb2 (by decide))]
      exact h.hr
    · have h1 := Kd.R_set h.rows.hl hb2 h9 k (.bool true)
      rw [show (S.secs.map secStr) = (S.secs.set k ((S.secs[k]?.getD (none, false)).1, true)).map secStr by
        rw [List.map_set, List.getElem?_eq_getElem hk]
        apply List.ext_getElem
        · simp
        · intro i h1 h2
          rw [List.getElem_set]
          split
          · rename_i e
            subst e
            simp [secStr]
          · rfl] at h1
      exact h1
    · have := p2 true
      rw [show (S.secs.map (·.2)).set k true = (S.secs.set k ((S.secs[k]?.getD (none, false)).1, true)).map (·.2) by rw [List.map_set]] at this
      exact this
    · exact Kd.R_set h.rows.hw hb2 hw4 k _
theorem RDevAt.waitAt {W : World} {G : Nat → Prop} {r : Nat} {vl vt vw : Value} {S : FSt} {l : List (Int × List Int)} (h : RDevAt W G r vl vt vw S) (hl : S.waits = l) (i : Nat) (hi : i < l.length) :
    ∃ q c, vw = .slice (some ⟨q, 0, none⟩) l.length c ∧ (∃ cs, W.heap[q]? = some (.cells cs 78 (0, 0))) ∧ W.cell? ⟨q, i * 2, none⟩ = some (.int .i64 l[i].1) ∧ W.cell? ⟨q, i * 2 + 1, none⟩ = some (.string (strOfNums l[i].2)) := by
  subst hl
  have hR := h.rows.hw
  obtain ⟨inner, ho⟩ := Kd.R_own hR
  rw [List.length_map] at ho
  rcases ho.2 with ⟨_, hx⟩ | ⟨q, cap, cur, rfl, _, hh, _⟩
  · omega
  · have hC := (Kd.R_reads' hR).2.2
    rw [List.length_map] at hC
    obtain ⟨ad, hA, k1, k2⟩ := at_T78 hC (i : Int) (by omega) (by omega)
    rw [Option.some.injEq] at hA
    subst hA
    rw [Int.toNat_natCast, add_plain] at k1 k2
    have hrd : rd_T78 (S.waits.map fun q => (⟨q.1, strOfNums q.2⟩ : S78)) (i : Int) = ⟨S.waits[i].1, strOfNums S.waits[i].2⟩ := by simp [rd_T78, hi]
    rw [hrd] at k1 k2
    exact ⟨q, cap, rfl, ⟨cur, hh⟩, k1, k2⟩
theorem RDevAt.nowaits {W : World} {G : Nat → Prop} {r : Nat} {vl vt vw : Value} {S : FSt} (h : RDevAt W G r vl vt vw S) : RDevAt (W.setCell ⟨r, 2, none⟩ (.slice none 0 0)) G r vl vt (.slice none 0 0) { S with waits := [] } := by
  have h2 := h.rows.set h.hr 2 (.slice none 0 0)
  exact ⟨h.gr, heap_setCell_same W r 2 _ 55 _ h.hr, ⟨h2.hl, h2.ht, Kd.R_nil _ _ _ _ _⟩⟩
set_option maxHeartbeats 4000000 in
theorem rdev_flush {W : World} {G : Nat → Prop} {r : Nat} {vl vt vw : Value} {S : FSt} (h : RDevAt W G r vl vt vw S) (hc : S.Cnt) (hk : S.Ok) (hwl : S.waits.length ≤ 1000000) :
    Calls Try.prog 32 #[.pointer (some ⟨r, 0, none⟩)] W fun e W' => e = .returned (.int .i64 S.flush.2) ∧ RDev W' G r S.flush.1 ∧ Chg G W W' := by
  have X := Aside0.mk h
  have K := Aside0.mk hk
  have HC := Aside0.mk hc
  clear h hk hc
  go_enter Try.func32, Try.ntmps32
  go_wp2_with fail
  refine (rdev_spend X.out HC.out).mono ?_
  rintro e wa ⟨rfl, hD, hO⟩
  have Y := Aside0.mk hD
  have C := Aside0.mk (hO.chg X.out.gr)
  clear hD hO
  by_cases hs : S.stops = true
  · rw [hs]
    go_wp2_with fail
    go_ret
    unfold FSt.flush
    rw [if_pos hs]
    exact ⟨rfl, ⟨_, _, _, Y.out⟩, C.out⟩
  · have hs' : S.stops = false := by simpa using hs
    rw [hs']
    obtain ⟨-, -, ⟨A, c, rfl⟩⟩ := Y.out.slices
    obtain ⟨n, hnn⟩ : ∃ n, n = S.spent.waits.length := ⟨_, rfl⟩
    have N := Aside0.mk hnn
    have hn : n ≤ 1000000 := by rw [hnn]; exact hwl
    rw [← hnn] at Y
    clear hnn hwl X
    go_wp2_with fail
    go_loopw [3] (fun v w' => ∃ i : Nat, i ≤ n ∧ v = .int .i64 (i : Int) ∧ Aside0 (RDevAt w' G r vl vt (.slice A n c) (S.spent.lasts (S.waits.take i))) ∧ Aside0 (Chg G W w')) (fun v _ => ((n : Int) - intOf v).toNat)
    case atStart => exact ⟨0, Nat.zero_le _, rfl, ⟨Y.out⟩, C⟩
    case round =>
      obtain ⟨i, hi, rfl, YD, YC⟩ := hrel
      clear Y C
      obtain ⟨c0, c1, c2, -, -, hf⟩ := YD.out.cells
      by_cases hlt : i < n
      · have hlt' : i < S.waits.length := by rw [← FSt.spent_waits, ← N.out]; exact hlt
        obtain ⟨q, c', hv, hq, e0, e1⟩ := YD.out.waitAt (FSt.lasts_waits _ _) i (by rw [FSt.spent_waits]; exact hlt')
        obtain ⟨h0, h1, h2⟩ := K.out.w _ (List.getElem_mem hlt')
        rw [Value.slice.injEq] at hv
        obtain ⟨rfl, hx1, hx2⟩ := hv
        clear hx1 hx2 hf
        simp only [FSt.spent_waits] at e0 e1
        obtain ⟨k, hk⟩ : ∃ k : Nat, S.waits[i].1 = (k : Int) := ⟨S.waits[i].1.toNat, by omega⟩
        rw [hk] at e0 h1
        have hkk : k < (S.spent.lasts (S.waits.take i)).secs.length := by rw [FSt.lasts_len, FSt.spent_secs]; omega
        obtain ⟨b, hbb⟩ : ∃ b, b = S.waits[i].2 := ⟨_, rfl⟩
        rw [← hbb] at e1
        have HP : Aside0 (S.waits[i] = ((k : Int), b)) := ⟨Prod.ext hk hbb.symm⟩
        obtain ⟨gl, gt, cl, ct, RS⟩ := YD.out.sec k hkk
        have hel := RS.el
        have het := RS.et
        obtain ⟨z, hz⟩ : ∃ z, z = (S.spent.lasts (S.waits.take i)).secs.length := ⟨_, rfl⟩
        rw [← hz] at hel het hkk
        obtain ⟨s, hs2⟩ : ∃ s, s = strOfNums b := ⟨_, rfl⟩
        rw [← hs2] at e1
        have PUT : Aside0 (RDevAt ((wr.setCell ⟨gl, k, none⟩ (.string s)).setCell ⟨gt, k, none⟩ (.bool false)).drew G r vl vt (.slice (some ⟨q, 0, none⟩) n c) (S.spent.lasts (S.waits.take (i + 1)))) := ⟨by
          rw [FSt.lasts_succ _ _ i hlt', HP.out, hs2]
          exact (RS.put b).drew⟩
        have CH := Aside0.mk (((YC.out.setCell (p := ⟨gl, k, none⟩) RS.Gl (.string s)).setCell (p := ⟨gt, k, none⟩) RS.Gt (.bool false)).drew)
        obtain ⟨x1, m1⟩ := RS.c1
        obtain ⟨x2, m2⟩ := RS.c2
        have f1 := RS.f1
        have f2 := RS.f2
        have m3 : (wr.setCell ⟨gl, k, none⟩ (.string s)).cell? ⟨gt, k, none⟩ = some (.bool x2) := (World.cell?_of_block (w := wr) (a := ⟨gt, k, none⟩) (Below.heap_setCell wr ⟨gl, k, none⟩ _ gt (fun e => RS.ne e.symm))).trans m2
        have f3 : (wr.setCell ⟨gl, k, none⟩ (.string s)).frozen? ⟨gt, k, none⟩ = false := (World.frozen?_of_block (w := wr) (a := ⟨gt, k, none⟩) (Below.heap_setCell wr ⟨gl, k, none⟩ _ gt (fun e => RS.ne e.symm))).trans f2
        have d1 : decide (i < n) = true := decide_eq_true hlt
        have p1 : (0 : Int) ≤ (i : Int) := Int.natCast_nonneg _
        have p2 : (i : Int) < (n : Int) := Int.ofNat_lt.2 hlt
        have p3 : (0 : Int) ≤ (k : Int) := Int.natCast_nonneg _
        have p4 : (k : Int) < (z : Int) := Int.ofNat_lt.2 hkk
        have HM := Aside0.mk (msr_dn n i hlt)
        have HW := Aside0.mk (wrap_suc i (by omega))
        have nr1 : r ≠ gl := fun e => by
          obtain ⟨ccl, hbl⟩ := RS.bl
          exact blk_ne YD.out.hr hbl (by decide) e
        have nr2 : r ≠ gt := fun e => by
          obtain ⟨cct, hbt⟩ := RS.bt
          exact blk_ne YD.out.hr hbt (by decide) e
        have nq1 : q ≠ gl := fun e => by
          obtain ⟨ccl, hbl⟩ := RS.bl
          obtain ⟨ccq, hbq⟩ := hq
          exact blk_ne hbq hbl (by decide) e
        have nq2 : q ≠ gt := fun e => by
          obtain ⟨cct, hbt⟩ := RS.bt
          obtain ⟨ccq, hbq⟩ := hq
          exact blk_ne hbq hbt (by decide) e
        subst hel
        subst het
        have TR : ∀ (w1 : World) (a j : Nat) (u : Value), r ≠ a → q ≠ a → (w1.cell? ⟨r, 0, none⟩ = some (.slice (some ⟨gl, 0, none⟩) z cl) ∧ w1.cell? ⟨r, 1, none⟩ = some (.slice (some ⟨gt, 0, none⟩) z ct) ∧ w1.cell? ⟨r, 2, none⟩ = some (.slice (some ⟨q, 0, none⟩) n c) ∧ w1.cell? ⟨q, i * 2, none⟩ = some (.int .i64 (k : Int)) ∧ w1.cell? ⟨q, i * 2 + 1, none⟩ = some (.string s)) → ((w1.setCell ⟨a, j, none⟩ u).cell? ⟨r, 0, none⟩ = some (.slice (some ⟨gl, 0, none⟩) z cl) ∧ (w1.setCell ⟨a, j, none⟩ u).cell? ⟨r, 1, none⟩ = some (.slice (some ⟨gt, 0, none⟩) z ct) ∧ (w1.setCell ⟨a, j, none⟩ u).cell? ⟨r, 2, none⟩ = some (.slice (some ⟨q, 0, none⟩) n c) ∧ (w1.setCell ⟨a, j, none⟩ u).cell? ⟨q, i * 2, none⟩ = some (.int .i64 (k : Int)) ∧ (w1.setCell ⟨a, j, none⟩ u).cell? ⟨q, i * 2 + 1, none⟩ = some (.string s)) := fun w1 a j u na nb ⟨h1, h2, h3, h4, h5⟩ => by
          have er := fun o => World.cell?_of_block (w := w1) (w' := w1.setCell ⟨a, j, none⟩ u) (a := ⟨r, o, none⟩) (Below.heap_setCell w1 ⟨a, j, none⟩ u r na)
          have eq := fun o => World.cell?_of_block (w := w1) (w' := w1.setCell ⟨a, j, none⟩ u) (a := ⟨q, o, none⟩) (Below.heap_setCell w1 ⟨a, j, none⟩ u q nb)
          exact ⟨(er 0).trans h1, (er 1).trans h2, (er 2).trans h3, (eq _).trans h4, (eq _).trans h5⟩
        have T1 := Aside0.mk (TR wr gl k (.string s) nr1 nq1 ⟨c0, c1, c2, e0, e1⟩)
        have T2 := Aside0.mk (TR _ gt k (.bool false) nr2 nq2 T1.out)
        have T3 : Aside0 ((wr.setCell ⟨gl, k, none⟩ (.string s)).drew.cell? ⟨r, 0, none⟩ = some (.slice (some ⟨gl, 0, none⟩) z cl) ∧ (wr.setCell ⟨gl, k, none⟩ (.string s)).drew.cell? ⟨r, 1, none⟩ = some (.slice (some ⟨gt, 0, none⟩) z ct) ∧ (wr.setCell ⟨gl, k, none⟩ (.string s)).drew.cell? ⟨r, 2, none⟩ = some (.slice (some ⟨q, 0, none⟩) n c) ∧ (wr.setCell ⟨gl, k, none⟩ (.string s)).drew.cell? ⟨q, i * 2, none⟩ = some (.int .i64 (k : Int)) ∧ (wr.setCell ⟨gl, k, none⟩ (.string s)).drew.cell? ⟨q, i * 2 + 1, none⟩ = some (.string s)) := ⟨T1.out⟩
        have T4 : Aside0 (((wr.setCell ⟨gl, k, none⟩ (.string s)).setCell ⟨gt, k, none⟩ (.bool false)).drew.cell? ⟨r, 0, none⟩ = some (.slice (some ⟨gl, 0, none⟩) z cl) ∧ ((wr.setCell ⟨gl, k, none⟩ (.string s)).setCell ⟨gt, k, none⟩ (.bool false)).drew.cell? ⟨r, 1, none⟩ = some (.slice (some ⟨gt, 0, none⟩) z ct) ∧ ((wr.setCell ⟨gl, k, none⟩ (.string s)).setCell ⟨gt, k, none⟩ (.bool false)).drew.cell? ⟨r, 2, none⟩ = some (.slice (some ⟨q, 0, none⟩) n c) ∧ ((wr.setCell ⟨gl, k, none⟩ (.string s)).setCell ⟨gt, k, none⟩ (.bool false)).drew.cell? ⟨q, i * 2, none⟩ = some (.int .i64 (k : Int)) ∧ ((wr.setCell ⟨gl, k, none⟩ (.string s)).setCell ⟨gt, k, none⟩ (.bool false)).drew.cell? ⟨q, i * 2 + 1, none⟩ = some (.string s)) := ⟨T2.out⟩
        have T5 : Aside0 ((wr.drew.setCell ⟨gl, k, none⟩ (.string s)).cell? ⟨r, 0, none⟩ = some (.slice (some ⟨gl, 0, none⟩) z cl) ∧ (wr.drew.setCell ⟨gl, k, none⟩ (.string s)).cell? ⟨r, 1, none⟩ = some (.slice (some ⟨gt, 0, none⟩) z ct) ∧ (wr.drew.setCell ⟨gl, k, none⟩ (.string s)).cell? ⟨r, 2, none⟩ = some (.slice (some ⟨q, 0, none⟩) n c) ∧ (wr.drew.setCell ⟨gl, k, none⟩ (.string s)).cell? ⟨q, i * 2, none⟩ = some (.int .i64 (k : Int)) ∧ (wr.drew.setCell ⟨gl, k, none⟩ (.string s)).cell? ⟨q, i * 2 + 1, none⟩ = some (.string s)) := ⟨T1.out⟩
        have T6 : Aside0 (((wr.drew.setCell ⟨gl, k, none⟩ (.string s)).setCell ⟨gt, k, none⟩ (.bool false)).cell? ⟨r, 0, none⟩ = some (.slice (some ⟨gl, 0, none⟩) z cl) ∧ ((wr.drew.setCell ⟨gl, k, none⟩ (.string s)).setCell ⟨gt, k, none⟩ (.bool false)).cell? ⟨r, 1, none⟩ = some (.slice (some ⟨gt, 0, none⟩) z ct) ∧ ((wr.drew.setCell ⟨gl, k, none⟩ (.string s)).setCell ⟨gt, k, none⟩ (.bool false)).cell? ⟨r, 2, none⟩ = some (.slice (some ⟨q, 0, none⟩) n c) ∧ ((wr.drew.setCell ⟨gl, k, none⟩ (.string s)).setCell ⟨gt, k, none⟩ (.bool false)).cell? ⟨q, i * 2, none⟩ = some (.int .i64 (k : Int)) ∧ ((wr.drew.setCell ⟨gl, k, none⟩ (.string s)).setCell ⟨gt, k, none⟩ (.bool false)).cell? ⟨q, i * 2 + 1, none⟩ = some (.string s)) := ⟨T2.out⟩
        clear TR nr1 nr2 nq1 nq2 hq
        clear hk h0 h1 h2 hbb hz hs2 RS hi
        go_wp2_with fail
        refine wp_region_held_drew (S := fun w' => w'.cell? ⟨r, 0, none⟩ = some (.slice (some ⟨gl, 0, none⟩) z cl) ∧ w'.cell? ⟨r, 1, none⟩ = some (.slice (some ⟨gt, 0, none⟩) z ct) ∧ w'.cell? ⟨r, 2, none⟩ = some (.slice (some ⟨q, 0, none⟩) n c) ∧ w'.cell? ⟨q, i * 2, none⟩ = some (.int .i64 (k : Int)) ∧ w'.cell? ⟨q, i * 2 + 1, none⟩ = some (.string s)) (by kernel_rfl) ?_ (fun hHeld => ?_)
        · try dsimp only
          exact ⟨c0, c1, c2, e0, e1⟩
        refine wpAnyH_take (i := 0) (oi := _) (v := _) rfl (by kernel_rfl) (by kernel_rfl) (by kernel_rfl) (fun _ _ _ h => h) (Or.inl ⟨by rfl, by (intro w hSw; (try dsimp only at hSw); go_simp; try with_reducible rfl)⟩) hHeld ?_
        simp only [Act.put, List.getElem_toArray, List.getElem_cons_zero, List.getElem_cons_succ, List.setIfInBounds_toArray, List.set_cons_zero, List.set_cons_succ]
        refine wpAnyH_take (i := 1) (oi := _) (v := _) rfl (by kernel_rfl) (by kernel_rfl) (by kernel_rfl) (fun _ _ _ h => h) (Or.inl ⟨by rfl, by (intro w hSw; (try dsimp only at hSw); go_simp; try with_reducible rfl)⟩) hHeld ?_
        simp only [Act.put, List.getElem_toArray, List.getElem_cons_zero, List.getElem_cons_succ, List.setIfInBounds_toArray, List.set_cons_zero, List.set_cons_succ]
        refine wpAnyH_take (i := 2) (oi := _) (v := _) rfl (by kernel_rfl) (by kernel_rfl) (by kernel_rfl) (fun _ _ _ h => h) (Or.inl ⟨by rfl, by (intro w hSw; (try dsimp only at hSw); go_simp; try with_reducible rfl)⟩) hHeld ?_
        simp only [Act.put, List.getElem_toArray, List.getElem_cons_zero, List.getElem_cons_succ, List.setIfInBounds_toArray, List.set_cons_zero, List.set_cons_succ]
        refine wpAnyH_take (i := 3) (oi := _) (v := _) rfl (by kernel_rfl) (by kernel_rfl) (by kernel_rfl) (fun _ _ _ h => h) (Or.inl ⟨by rfl, by (intro w hSw; (try dsimp only at hSw); go_simp; try with_reducible rfl)⟩) hHeld ?_
        simp only [Act.put, List.getElem_toArray, List.getElem_cons_zero, List.getElem_cons_succ, List.setIfInBounds_toArray, List.set_cons_zero, List.set_cons_succ]
        refine wpAnyH_take (i := 4) (oi := _) (v := _) rfl (by kernel_rfl) (by kernel_rfl) (by kernel_rfl) (fun _ _ _ h => h) (Or.inl ⟨by rfl, by (intro w hSw; (try dsimp only at hSw); go_simp; try with_reducible rfl)⟩) hHeld ?_
        simp only [Act.put, List.getElem_toArray, List.getElem_cons_zero, List.getElem_cons_succ, List.setIfInBounds_toArray, List.set_cons_zero, List.set_cons_succ]
        refine wpAnyH_take (i := 5) (oi := _) (v := _) rfl (by kernel_rfl) (by kernel_rfl) (by kernel_rfl) (fun _ _ _ h => h) (Or.inl ⟨by rfl, by (intro w hSw; (try dsimp only at hSw); go_simp; try with_reducible rfl)⟩) hHeld ?_
        simp only [Act.put, List.getElem_toArray, List.getElem_cons_zero, List.getElem_cons_succ, List.setIfInBounds_toArray, List.set_cons_zero, List.set_cons_succ]
        refine wpAnyH_take (i := 6) (oi := _) (v := _) rfl (by kernel_rfl) (by kernel_rfl) (by kernel_rfl) (fun _ _ _ h => h) (Or.inl ⟨by rfl, by (intro w hSw; (try dsimp only at hSw); go_simp; try with_reducible rfl)⟩) hHeld ?_
        simp only [Act.put, List.getElem_toArray, List.getElem_cons_zero, List.getElem_cons_succ, List.setIfInBounds_toArray, List.set_cons_zero, List.set_cons_succ]
        refine wpAnyH_take (i := 7) (oi := _) (v := _) rfl (by kernel_rfl) (by kernel_rfl) (by kernel_rfl) (fun _ _ _ h => h) (Or.inl ⟨by rfl, by (intro w hSw; (try dsimp only at hSw); go_simp; try with_reducible rfl)⟩) hHeld ?_
        simp only [Act.put, List.getElem_toArray, List.getElem_cons_zero, List.getElem_cons_succ, List.setIfInBounds_toArray, List.set_cons_zero, List.set_cons_succ]
        refine wpAnyH_take (i := 8) (oi := _) (v := _) rfl (by kernel_rfl) (by kernel_rfl) (by kernel_rfl) (fun _ _ _ h => h) (Or.inl ⟨by rfl, by (intro w hSw; (try dsimp only at hSw); go_simp; try with_reducible rfl)⟩) hHeld ?_
        simp only [Act.put, List.getElem_toArray, List.getElem_cons_zero, List.getElem_cons_succ, List.setIfInBounds_toArray, List.set_cons_zero, List.set_cons_succ]
        refine wpAnyH_take (i := 9) (oi := _) (v := _) rfl (by kernel_rfl) (by kernel_rfl) (by kernel_rfl) (fun _ _ _ h => h) (Or.inl ⟨by rfl, by (intro w hSw; (try dsimp only at hSw); go_simp; try with_reducible rfl)⟩) hHeld ?_
        simp only [Act.put, List.getElem_toArray, List.getElem_cons_zero, List.getElem_cons_succ, List.setIfInBounds_toArray, List.set_cons_zero, List.set_cons_succ]
        refine wpAnyH_take (i := 10) (oi := _) (v := _) rfl (by kernel_rfl) (by kernel_rfl) (by kernel_rfl) (fun _ _ _ h => h) (Or.inl ⟨by rfl, by (intro w hSw; (try dsimp only at hSw); go_simp; try with_reducible rfl)⟩) hHeld ?_
        simp only [Act.put, List.getElem_toArray, List.getElem_cons_zero, List.getElem_cons_succ, List.setIfInBounds_toArray, List.set_cons_zero, List.set_cons_succ]
        refine wpAnyH_take (i := 11) (oi := _) (v := _) rfl (by kernel_rfl) (by kernel_rfl) (by kernel_rfl) (fun _ _ _ h => h) (Or.inl ⟨by rfl, by (intro w hSw; (try dsimp only at hSw); go_simp; try with_reducible rfl)⟩) hHeld ?_
        simp only [Act.put, List.getElem_toArray, List.getElem_cons_zero, List.getElem_cons_succ, List.setIfInBounds_toArray, List.set_cons_zero, List.set_cons_succ]
        refine wpAnyH_take (i := 12) (oi := _) (v := _) rfl (by kernel_rfl) (by kernel_rfl) (by kernel_rfl) (fun _ _ _ h => h) (Or.inl ⟨by rfl, by (intro w hSw; (try dsimp only at hSw); go_simp; try with_reducible rfl)⟩) hHeld ?_
        simp only [Act.put, List.getElem_toArray, List.getElem_cons_zero, List.getElem_cons_succ, List.setIfInBounds_toArray, List.set_cons_zero, List.set_cons_succ]
        refine wpAnyH_take (i := 13) (oi := _) (v := _) rfl (by kernel_rfl) (by kernel_rfl) (by kernel_rfl) (fun _ _ _ h => h) (Or.inl ⟨by rfl, by (intro w hSw; (try dsimp only at hSw); go_simp; try with_reducible rfl)⟩) hHeld ?_
        simp only [Act.put, List.getElem_toArray, List.getElem_cons_zero, List.getElem_cons_succ, List.setIfInBounds_toArray, List.set_cons_zero, List.set_cons_succ]
        refine wpAnyH_take (i := 14) (oi := _) (v := _) rfl (by kernel_rfl) (by kernel_rfl) (by kernel_rfl) (fun _ _ _ h => h) (Or.inl ⟨by rfl, by (intro w hSw; (try dsimp only at hSw); go_simp; try with_reducible rfl)⟩) hHeld ?_
        simp only [Act.put, List.getElem_toArray, List.getElem_cons_zero, List.getElem_cons_succ, List.setIfInBounds_toArray, List.set_cons_zero, List.set_cons_succ]
        refine wpAnyH_take (i := 15) (oi := _) (v := _) rfl (by kernel_rfl) (by kernel_rfl) (by kernel_rfl) (fun _ _ _ h => h) (Or.inl ⟨by rfl, by (intro w hSw; (try dsimp only at hSw); go_simp; try with_reducible rfl)⟩) hHeld ?_
        simp only [Act.put, List.getElem_toArray, List.getElem_cons_zero, List.getElem_cons_succ, List.setIfInBounds_toArray, List.set_cons_zero, List.set_cons_succ]
        refine wpAnyH_take (i := 16) (oi := _) (v := _) rfl (by kernel_rfl) (by kernel_rfl) (by kernel_rfl) (fun _ _ _ h => h) (Or.inl ⟨by rfl, by (intro w hSw; (try dsimp only at hSw); go_simp; try with_reducible rfl)⟩) hHeld ?_
        simp only [Act.put, List.getElem_toArray, List.getElem_cons_zero, List.getElem_cons_succ, List.setIfInBounds_toArray, List.set_cons_zero, List.set_cons_succ]
        refine wpAnyH_take (i := 17) (oi := _) (v := _) rfl (by kernel_rfl) (by kernel_rfl) (by kernel_rfl) (fun _ _ _ h => h) (Or.inl ⟨by rfl, by (intro w hSw; (try dsimp only at hSw); go_simp; try with_reducible rfl)⟩) hHeld ?_
        simp only [Act.put, List.getElem_toArray, List.getElem_cons_zero, List.getElem_cons_succ, List.setIfInBounds_toArray, List.set_cons_zero, List.set_cons_succ]
        refine wpAnyH_take (i := 18) (oi := _) (v := _) rfl (by kernel_rfl) (by kernel_rfl) (by kernel_rfl) (fun _ _ _ h => h) (Or.inl ⟨by rfl, by (intro w hSw; (try dsimp only at hSw); go_simp; try with_reducible rfl)⟩) hHeld ?_
        simp only [Act.put, List.getElem_toArray, List.getElem_cons_zero, List.getElem_cons_succ, List.setIfInBounds_toArray, List.set_cons_zero, List.set_cons_succ]
        refine wpAnyH_take (i := 19) (oi := _) (v := _) rfl (by kernel_rfl) (by kernel_rfl) (by kernel_rfl) (fun _ _ _ h => h) (Or.inl ⟨by rfl, by (intro w hSw; (try dsimp only at hSw); go_simp; try with_reducible rfl)⟩) hHeld ?_
        simp only [Act.put, List.getElem_toArray, List.getElem_cons_zero, List.getElem_cons_succ, List.setIfInBounds_toArray, List.set_cons_zero, List.set_cons_succ]
        refine wpAnyH_take (i := 20) (oi := _) (v := _) rfl (by kernel_rfl) (by kernel_rfl) (by kernel_rfl) (fun _ _ _ h => h) (Or.inl ⟨by rfl, by (intro w hSw; (try dsimp only at hSw); go_simp; try with_reducible rfl)⟩) hHeld ?_
        simp only [Act.put, List.getElem_toArray, List.getElem_cons_zero, List.getElem_cons_succ, List.setIfInBounds_toArray, List.set_cons_zero, List.set_cons_succ]
        refine wpAnyH_take (i := 21) (oi := _) (v := _) rfl (by kernel_rfl) (by kernel_rfl) (by kernel_rfl) (fun _ _ _ h => h) (Or.inl ⟨by rfl, by (intro w hSw; (try dsimp only at hSw); go_simp; try with_reducible rfl)⟩) hHeld ?_
        simp only [Act.put, List.getElem_toArray, List.getElem_cons_zero, List.getElem_cons_succ, List.setIfInBounds_toArray, List.set_cons_zero, List.set_cons_succ]
        refine wpAnyH_take (i := 22) (oi := _) (v := _) rfl (by kernel_rfl) (by kernel_rfl) (by kernel_rfl) (fun _ _ _ h => h) (Or.inl ⟨by rfl, by (intro w hSw; (try dsimp only at hSw); go_simp; try with_reducible rfl)⟩) hHeld ?_
        simp only [Act.put, List.getElem_toArray, List.getElem_cons_zero, List.getElem_cons_succ, List.setIfInBounds_toArray, List.set_cons_zero, List.set_cons_succ]
        refine wpAnyH_take (i := 23) (oi := _) (v := _) rfl (by kernel_rfl) (by kernel_rfl) (by kernel_rfl) (fun _ _ _ h => h) (Or.inl ⟨by rfl, by (intro w hSw; (try dsimp only at hSw); go_simp; try with_reducible rfl)⟩) hHeld ?_
        simp only [Act.put, List.getElem_toArray, List.getElem_cons_zero, List.getElem_cons_succ, List.setIfInBounds_toArray, List.set_cons_zero, List.set_cons_succ]
        refine wpAnyH_take (i := 24) (oi := _) (v := _) rfl (by kernel_rfl) (by kernel_rfl) (by kernel_rfl) (fun _ _ _ h => h) (Or.inl ⟨by rfl, by (intro w hSw; (try dsimp only at hSw); go_simp; try with_reducible rfl)⟩) hHeld ?_
        simp only [Act.put, List.getElem_toArray, List.getElem_cons_zero, List.getElem_cons_succ, List.setIfInBounds_toArray, List.set_cons_zero, List.set_cons_succ]
        refine wpAnyH_take (i := 25) (oi := _) (v := _) rfl (by kernel_rfl) (by kernel_rfl) (by kernel_rfl) (fun _ _ _ h => h) (Or.inl ⟨by rfl, by (intro w hSw; (try dsimp only at hSw); go_simp; try with_reducible rfl)⟩) hHeld ?_
        simp only [Act.put, List.getElem_toArray, List.getElem_cons_zero, List.getElem_cons_succ, List.setIfInBounds_toArray, List.set_cons_zero, List.set_cons_succ]
        refine wpAnyH_take (i := 26) (oi := _) (v := _) rfl (by kernel_rfl) (by kernel_rfl) (by kernel_rfl) (fun _ _ _ h => h) (Or.inl ⟨by rfl, by (intro w hSw; (try dsimp only at hSw); go_simp; try with_reducible rfl)⟩) hHeld ?_
        simp only [Act.put, List.getElem_toArray, List.getElem_cons_zero, List.getElem_cons_succ, List.setIfInBounds_toArray, List.set_cons_zero, List.set_cons_succ]
        refine wpAnyH_take (i := 27) (oi := _) (v := _) rfl (by kernel_rfl) (by kernel_rfl) (by kernel_rfl) (fun _ _ _ h => h) (Or.inl ⟨by rfl, by (intro w hSw; (try dsimp only at hSw); go_simp; try with_reducible rfl)⟩) hHeld ?_
        simp only [Act.put, List.getElem_toArray, List.getElem_cons_zero, List.getElem_cons_succ, List.setIfInBounds_toArray, List.set_cons_zero, List.set_cons_succ]
        refine wpAnyH_take (i := 28) (oi := _) (v := _) rfl (by kernel_rfl) (by kernel_rfl) (by kernel_rfl) (fun _ _ _ h => h) (Or.inl ⟨by rfl, by (intro w hSw; (try dsimp only at hSw); go_simp; try with_reducible rfl)⟩) hHeld ?_
        simp only [Act.put, List.getElem_toArray, List.getElem_cons_zero, List.getElem_cons_succ, List.setIfInBounds_toArray, List.set_cons_zero, List.set_cons_succ]
        refine wpAnyH_take (i := 29) (oi := _) (v := _) rfl (by kernel_rfl) (by kernel_rfl) (by kernel_rfl) (fun _ _ _ h => h) (Or.inl ⟨by rfl, by (intro w hSw; (try dsimp only at hSw); go_simp; try with_reducible rfl)⟩) hHeld ?_
        simp only [Act.put, List.getElem_toArray, List.getElem_cons_zero, List.getElem_cons_succ, List.setIfInBounds_toArray, List.set_cons_zero, List.set_cons_succ]
        refine wpAnyH_take (i := 30) (oi := _) (v := _) rfl (by kernel_rfl) (by kernel_rfl) (by kernel_rfl) (fun _ _ _ h => h) (Or.inl ⟨by rfl, by (intro w hSw; (try dsimp only at hSw); go_simp; try with_reducible rfl)⟩) hHeld ?_
        simp only [Act.put, List.getElem_toArray, List.getElem_cons_zero, List.getElem_cons_succ, List.setIfInBounds_toArray, List.set_cons_zero, List.set_cons_succ]
        refine wpAnyH_take (i := 31) (oi := _) (v := _) rfl (by kernel_rfl) (by kernel_rfl) (by kernel_rfl) (fun _ _ _ h => h) (Or.inl ⟨by rfl, by (intro w hSw; (try dsimp only at hSw); go_simp; try with_reducible rfl)⟩) hHeld ?_
        simp only [Act.put, List.getElem_toArray, List.getElem_cons_zero, List.getElem_cons_succ, List.setIfInBounds_toArray, List.set_cons_zero, List.set_cons_succ]
        refine wpAnyH_take (i := 32) (oi := _) (v := _) rfl (by kernel_rfl) (by kernel_rfl) (by kernel_rfl) (fun _ _ _ h => h) (Or.inl ⟨by rfl, by (intro w hSw; (try dsimp only at hSw); go_simp; try with_reducible rfl)⟩) hHeld ?_
        simp only [Act.put, List.getElem_toArray, List.getElem_cons_zero, List.getElem_cons_succ, List.setIfInBounds_toArray, List.set_cons_zero, List.set_cons_succ]
        refine wpAnyH_ready (rs := [33]) (by kernel_rfl) (by simp) ?_
        refine AllReadyH.cons rfl (fun K hK => ?_) AllReadyH.nil
        go_simp
        refine hK.out _ _ ?_ (fun hNew => ?_)
        · try dsimp only
          exact T1.out
        clear hK K hHeld
        have hHeld := hNew
        clear hNew
        refine wpAnyH_take (i := 34) (oi := _) (v := _) rfl (by kernel_rfl) (by kernel_rfl) (by kernel_rfl) (fun _ _ _ h => h) (Or.inl ⟨by rfl, by (intro w hSw; (try dsimp only at hSw); go_simp; try with_reducible rfl)⟩) hHeld ?_
        simp only [Act.put, List.getElem_toArray, List.getElem_cons_zero, List.getElem_cons_succ, List.setIfInBounds_toArray, List.set_cons_zero, List.set_cons_succ]
        refine wpAnyH_ready (rs := [35]) (by kernel_rfl) (by simp) ?_
        refine AllReadyH.cons rfl (fun K hK => ?_) AllReadyH.nil
        go_simp
        refine hK.out _ _ ?_ (fun hNew => ?_)
        · try dsimp only
          exact T2.out
        clear hK K hHeld
        have hHeld := hNew
        clear hNew
        refine wpAnyH_done (by kernel_rfl) ?_ _
        go_wp2_with fail
        exact ⟨⟨i + 1, hlt, rfl, PUT, CH⟩, HM.out⟩
      · obtain rfl : i = n := by omega
        have hw : S.waits.take i = S.waits := List.take_of_length_le (by rw [N.out, FSt.spent_waits]; exact Nat.le_refl _)
        rw [hw] at YD
        have Z := Aside0.mk YD.out.nowaits
        have f2 := hf 2
        have d1 : decide (i < i) = false := decide_eq_false (by omega)
        have ZC := Aside0.mk (YC.out.setCell (p := ⟨r, 2, none⟩) YD.out.gr (.slice none 0 0))
        clear hf hw hlt hi
        go_wp2_with fail
        go_ret
        unfold FSt.flush
        rw [if_neg hs]
        exact ⟨rfl, ⟨_, _, _, Z.out⟩, ZC.out⟩
end Go.Proofs.Ytgakjpnfbgmjjaa.PA
