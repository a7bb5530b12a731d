import Derived.Test.YtgjhhbljbnbjkaaDoorL1
import Derived.Deep.Slices
import Derived.SizedLaws
import Derived.IntWalk
import Derived.ArgAppend
namespace Go.Proofs.YtgjhhbljbnbjkaaDoor.PA
open Go.RowKit Go.Proofs.YtgjhhbljbnbjkaaDoorW.PrintWords Go.Proofs.YtgjhhbljbnbjkaaDoorW.PrintLast Go.Proofs.YtgjhhbljbnbjkaaDoorW.PrintMore
set_option linter.unusedVariables false
set_option linter.unusedSimpArgs false
/-! ### A row made with spare room, and a row appended into it -/
theorem heap_setCells (g : Nat) (t : TypeId) : ∀ (vs : List Value) (o : Nat) (w : World) (cs : Array Value), w.heap[g]? = some (.cells cs t (0, 0)) → o + vs.length ≤ cs.size →
    ∃ cs' : Array Value, (w.setCells g o vs).heap[g]? = some (.cells cs' t (0, 0)) ∧ cs'.size = cs.size ∧ (∀ i, i < o → cs'[i]? = cs[i]?) ∧ (∀ i, o + vs.length ≤ i → cs'[i]? = cs[i]?) ∧ ∀ i u, vs[i]? = some u → cs'[o + i]? = some u
  | [], o, w, cs, h, _ => ⟨cs, h, rfl, fun _ _ => rfl, fun _ _ => rfl, fun i u hu => by simp at hu⟩
  | v :: r, o, w, cs, h, hl => by
    simp only [List.length_cons] at hl
    have h1 := heap_setCell_same w g o cs t v h
    obtain ⟨cs', a1, a2, a3, a4, a5⟩ := heap_setCells g t r (o + 1) _ _ h1 (by simp; omega)
    refine ⟨cs', by rw [World.setCells]; exact a1, by rw [a2]; simp, fun i hi => ?_, fun i hi => ?_, fun i u hu => ?_⟩
    · rw [a3 i (by omega), Array.getElem?_setIfInBounds_ne (by omega)]
    · simp only [List.length_cons] at hi
      rw [a4 i (by omega), Array.getElem?_setIfInBounds_ne (by omega)]
    · cases i with
      | zero =>
        cases hu
        rw [Nat.add_zero, a3 o (by omega), Array.getElem?_setIfInBounds_self_of_lt (by omega)]
      | succ i =>
        rw [show o + (i + 1) = o + 1 + i by omega]
        exact a5 i u hu
theorem below_setCells {B g : Nat} {w0 : World} (hg : B ≤ g) : ∀ (vs : List Value) (o : Nat) (w : World), Below B w0 w → Below B w0 (w.setCells g o vs)
  | [], _, _, h => h
  | v :: r, o, w, h => by
    rw [World.setCells]
    exact below_setCells hg r (o + 1) _ (h.setCell hg _)
theorem size_setCells' (g : Nat) : ∀ (vs : List Value) (o : Nat) (w : World), (w.setCells g o vs).heap.size = w.heap.size
  | [], _, _ => rfl
  | v :: r, o, w => by
    rw [World.setCells, size_setCells' g r (o + 1)]
    simp [World.setCell]
theorem below_cell {w w1 : World} (hb : Below w.heap.size w w1) {p : Addr} {u : Value} (h : w.cell? p = some u) : w1.cell? p = some u := by
  have hl : p.block < w.heap.size := by
    rcases Nat.lt_or_ge p.block w.heap.size with h' | h'
    · exact h'
    · exfalso
      unfold World.cell? at h
      rw [Array.getElem?_eq_none h'] at h
      simp at h
  rw [hb.cell (p := p) hl]
  exact h
theorem appendIn {P : Program} {α : Type} (d : Kd α) (t e : TypeId) (z : Value) (bytes : Nat) (ht : P.underlying t = some (.slice e)) (hinfo : (P.info? e).map (fun i => (i.zero, i.size, i.bytes)) = some (some z, d.sz, bytes)) (hz : z.cells.size = d.sz) (hs0 : 0 < d.sz)
    (ty : TypeId) (W : World) (A : Option Addr) (c : Nat) (l : List α) (m : Nat) (x : Int) (hx : x = ((l.length + m : Nat) : Int)) (hr : d.C W A l.length l) (hn : bytes * (l.length + m) ≤ 281474976710656) (hn2 : l.length + m ≤ 281474976710656) :
    (Instr.makeSlice t (.int .i64 0) (.int .i64 x)).run P W = .ok (.slice (some ⟨W.heap.size, 0, none⟩) 0 (l.length + m)) (W.alloc (.cells (madeCells z.cells ((l.length + m) * d.sz)) e)) ∧
    ∃ W2 cs, (Builtin.append_ #[t, t] ty #[.slice (some ⟨W.heap.size, 0, none⟩) 0 (l.length + m), .slice A l.length c]).run P (W.alloc (.cells (madeCells z.cells ((l.length + m) * d.sz)) e)) = .ok (.slice (some ⟨W.heap.size, 0, none⟩) l.length (l.length + m)) W2 ∧
      d.C W2 (some ⟨W.heap.size, 0, none⟩) l.length l ∧ W2.heap[W.heap.size]? = some (.cells cs e (0, 0)) ∧ cs.size = (l.length + m) * d.sz ∧ (∀ j, l.length * d.sz ≤ j → j < (l.length + m) * d.sz → cs[j]? = some (z.cells[j % d.sz]!)) ∧ Below W.heap.size W W2 ∧ W.heap.size < W2.heap.size := by
  obtain ⟨i, hi, hzz⟩ := Option.map_eq_some_iff.1 hinfo
  simp only [Prod.mk.injEq] at hzz
  obtain ⟨hz0, hs, hb⟩ := hzz
  refine ⟨?_, ?_⟩
  · have h := run_make (P := P) W t e i z ht hi hz0 .i64 .i64 0 x (by omega) (by omega) (by
      rw [hb, hx]
      have : ((bytes * (l.length + m) : Nat) : Int) ≤ 281474976710656 := by omega
      rwa [Int.natCast_mul] at this) (by omega)
    have e1 : x.toNat = l.length + m := by omega
    rw [e1, hs] at h
    exact h
  obtain ⟨w1, hw1⟩ : ∃ w1, w1 = W.alloc (.cells (madeCells z.cells ((l.length + m) * d.sz)) e) := ⟨_, rfl⟩
  rw [← hw1]
  have hblk : w1.heap[W.heap.size]? = some (.cells (madeCells z.cells ((l.length + m) * d.sz)) e (0, 0)) := by rw [hw1]; exact heap_alloc_new W _
  have hbel : Below W.heap.size W w1 := by rw [hw1]; exact below_alloc (Below.refl _ _) _
  have hsz : w1.heap.size = W.heap.size + 1 := by rw [hw1]; simp
  have hmc : ∀ j, j < (l.length + m) * d.sz → (madeCells z.cells ((l.length + m) * d.sz))[j]? = some (z.cells[j % d.sz]!) := fun j hj => by
    rw [Array.getElem?_eq_getElem (by rw [size_madeCells]; exact hj)]
    simp [madeCells, hz]
  have hC := Kd.C_below hr hbel
  have hnil : l = [] → ∃ W2 cs, w1 = W2 ∧ d.C W2 (some ⟨W.heap.size, 0, none⟩) l.length l ∧ W2.heap[W.heap.size]? = some (.cells cs e (0, 0)) ∧ cs.size = (l.length + m) * d.sz ∧ (∀ j, l.length * d.sz ≤ j → j < (l.length + m) * d.sz → cs[j]? = some (z.cells[j % d.sz]!)) ∧ Below W.heap.size W W2 ∧ W.heap.size < W2.heap.size := by
    rintro rfl
    exact ⟨w1, _, rfl, ⟨rfl, by simp, fun h => absurd h (by simp)⟩, hblk, size_madeCells _ _, fun j _ hj => hmc j hj, hbel, by omega⟩
  cases A with
  | none =>
    have h0 : l.length = 0 := by
      rcases Nat.eq_zero_or_pos l.length with h0 | h0
      · exact h0
      · obtain ⟨ad, h, _⟩ := hr.2.2 h0
        cases h
    obtain ⟨W2, cs, rfl, a⟩ := hnil (List.eq_nil_of_length_eq_zero h0)
    refine ⟨w1, cs, ?_, a⟩
    rw [h0]
    simp [Builtin.append_, run_underlying ht, sizeOf, typeInfo, hi, Builtin.lenOf, Builtin.firstCells, storeCells, Result.andThen]
  | some ad =>
    obtain ⟨news, hnr, hnc0⟩ := ReadsRow.inner_ hr
    have hnc : ∀ j u, news[j]? = some u → w1.cell? (ad.add j) = some u := fun j u hu => below_cell hbel (hnc0 j u hu)
    have hone : ∀ u ∈ news, u.oneCell' = true := by
      intro u hu
      obtain ⟨j, hj, rfl⟩ := List.getElem_of_mem hu
      have hlen := hnr.1
      have hq : j / d.sz < l.length := by
        rw [Nat.div_lt_iff_lt_mul hs0]
        omega
      have h2 := hnr.2 (j / d.sz) _ (List.getElem?_eq_getElem hq)
      refine d.K_one h2 _ ?_
      have hmod := Nat.mod_lt j hs0
      have e1 : j = j / d.sz * d.sz + j % d.sz := by rw [Nat.mul_comm]; exact (Nat.div_add_mod j d.sz).symm
      have : ((news.drop (j / d.sz * d.sz)).take d.sz)[j % d.sz]? = some news[j] := by
        rw [List.getElem?_take_of_lt hmod, List.getElem?_drop, ← e1, List.getElem?_eq_getElem]
      exact List.mem_of_getElem? this
    have hnl : news.length = l.length * i.size := by rw [hs]; exact hnr.1
    have hle : l.length * d.sz ≤ (l.length + m) * d.sz := Nat.mul_le_mul_right _ (by omega)
    have h := run_append_room_cells (P := P) w1 t ty e i ht hi W.heap.size 0 0 (l.length + m) ad l.length c news hnl hnc hone (by omega)
      (fun j hj => by rw [Nat.zero_mul, Nat.add_zero, Nat.zero_add, blk_cell hblk, hmc j (by rw [hnr.1] at hj; omega)]; rfl)
      (fun j hj => blk_frozen hblk _)
    rw [Nat.zero_add, Nat.zero_mul, Nat.add_zero] at h
    obtain ⟨cs', a1, a2, a3, a4, a5⟩ := heap_setCells W.heap.size e news 0 w1 _ hblk (by rw [size_madeCells, Nat.zero_add, hnr.1]; exact hle)
    rw [size_madeCells] at a2
    refine ⟨_, cs', h, ⟨rfl, by omega, fun _ => ⟨_, rfl, fun j p hj => ?_⟩⟩, a1, a2, fun j h1 h2 => by rw [a4 j (by rw [hnr.1]; omega), hmc j h2], below_setCells (Nat.le_refl _) _ _ _ hbel, by rw [size_setCells']; omega⟩
    have h2 := hnr.2 j p hj
    have hK := d.K_len h2
    refine ⟨_, hK, d.K_below (below_setCells (Nat.le_refl _) news 0 w1 hbel) h2, fun q u hu => ?_⟩
    · have hq : q < d.sz := by rw [← hK]; exact (List.getElem?_eq_some_iff.1 hu).1
      rw [List.getElem?_take_of_lt hq, List.getElem?_drop] at hu
      rw [add_plain, blk_cell a1]
      have := a5 _ u hu
      rwa [Nat.zero_add] at this
theorem wpList_append_ran {P : Program} {ops : Array Oper} {rest : List Oper} {o : Oper} {a : Act} {Q : Exit → Act → World → Prop} {w w' : World} (hg : o.guard = none) (s x : Operand) (t : TypeId)
    (hop : o.op = Op.call { callee := Callee.builtin Builtin.append, args := #[s, x], argTypes := #[t, t] }) (v1 v2 v : Value) (hs : a.eval s = v1) (hx : a.eval x = v2)
    (hrun : (Builtin.append_ #[t, t] o.type #[v1, v2]).run P w = .ok v w') (h : wpList P ops Q rest (a.put o.dst v) w') : wpList P ops Q (o :: rest) a w := by
  refine wpList_plain hg fun K hK => ?_
  unfold Oper.wp execOp
  simp only [hop, resolve, invoke, builtin, Sem.run_bind, Sem.run_pure, Result.andThen_ok, List.map_toArray, List.map_cons, List.map_nil, hs, hx, hrun]
  exact hK _ _ h
/-! ### A row of bytes of the call's own that is only written: so many elements, whatever they are -/
def OwnN (w : World) (b : Nat) (v : Value) (n : Nat) : Prop := ∃ ys : List Int, ys.length = n ∧ (Kd.int .u8).R 5 w b (fun _ => True) v ys
def KeptV (w w' : World) (v : Value) : Prop := w.heap.size ≤ w'.heap.size ∧ ∀ k, k < w.heap.size → some k ≠ v.ownBlock → w'.heap[k]? = w.heap[k]?
theorem KeptV.refl (w : World) (v : Value) : KeptV w w v := ⟨Nat.le_refl _, fun _ _ _ => rfl⟩
theorem OwnN.of {w : World} {b : Nat} {v : Value} {ys : List Int} (h : (Kd.int .u8).R 5 w b (fun _ => True) v ys) : ∃ A c, v = .slice A ys.length c ∧ OwnN w b (.slice A ys.length c) ys.length := by
  obtain ⟨A, c, rfl⟩ := Kd.R_slice h
  exact ⟨A, c, rfl, ys, rfl, h⟩
theorem OwnN.below {w w1 : World} {b : Nat} {v : Value} {n : Nat} (h : OwnN w b v n) (hb : Below w.heap.size w w1) : OwnN w1 b v n := by
  obtain ⟨ys, hl, hR⟩ := h
  exact ⟨ys, hl, Kd.R_below hR hb⟩
theorem OwnN.keptV {w w1 : World} {b : Nat} {v u : Value} {n : Nat} (h : OwnN w b v n) (hk : KeptV w w1 u) (hu : ∀ k, u.ownBlock = some k → k < b) : OwnN w1 b v n := by
  obtain ⟨ys, hl, hR⟩ := h
  exact ⟨ys, hl, Kd.R_mono (Kd.R_step (Kd.R_bound hR) (fun k h1 h2 => hk.2 k h2 (fun e => by have := hu k e.symm; omega))) (fun _ _ => trivial)⟩
theorem OwnN.lt {w : World} {b : Nat} {v : Value} {n : Nat} (h : OwnN w b v n) : ∀ k, v.ownBlock = some k → k < w.heap.size := by
  obtain ⟨ys, hl, hR⟩ := h
  exact Kd.R_lt hR
theorem OwnN.at_ {w : World} {b : Nat} {A : Option Addr} {n m c : Nat} (h : OwnN w b (.slice A n c) n) (i : Nat) (hi : i < n) :
    ∃ g, A = some ⟨g, 0, none⟩ ∧ Aside0 (b ≤ g) ∧ (∃ u, w.cell? ⟨g, i, none⟩ = some u) ∧ w.frozen? ⟨g, i, none⟩ = false ∧ Aside0 (∀ x, OwnN (w.setCell ⟨g, i, none⟩ (.int .u8 x)) b (.slice A n c) n) ∧ Aside0 (∀ w0 x, KeptV w0 w (.slice A n c) → KeptV w0 (w.setCell ⟨g, i, none⟩ x) (.slice A n c)) ∧ Aside0 (∀ B w0 x, B ≤ b → Below B w0 w → Below B w0 (w.setCell ⟨g, i, none⟩ x)) := by
  obtain ⟨ys, rfl, hR⟩ := h
  obtain ⟨inner, ho⟩ := Kd.R_own hR
  rcases ho.2 with ⟨hv, h0⟩ | ⟨g, cap, cur, hv, hg, _⟩
  · exfalso
    simp only [Value.slice.injEq] at hv
    omega
  · simp only [Value.slice.injEq] at hv
    obtain ⟨rfl, _, _⟩ := hv
    obtain ⟨k1, k2⟩ := Kd.R_cell (0 : Int) hR (i : Int) (by omega) (by omega)
    rw [Int.toNat_natCast] at k1 k2
    refine ⟨g, rfl, ⟨hg⟩, ⟨_, k1⟩, k2, ⟨fun x => ?_⟩, ⟨fun w0 x hk => ?_⟩, ⟨fun B w0 x hB hb => hb.setCell (by show B ≤ g; omega) x⟩⟩
    · have h := Kd.R_putn hR (i : Int) x
      rw [Int.toNat_natCast] at h
      exact ⟨_, List.length_set, h⟩
    · refine ⟨by simpa [World.setCell] using hk.1, fun k h1 h2 => ?_⟩
      rw [Below.heap_setCell w ⟨g, i, none⟩ x k (fun e => h2 (by rw [e]; rfl))]
      exact hk.2 k h1 h2
theorem msr_dn (n i : Nat) (h : i < n) : ((n : Int) - ((i + 1 : Nat) : Int)).toNat < ((n : Int) - (i : Int)).toNat := by omega
theorem wrap_suc (i : Nat) (h : i ≤ 9223372036854775806) : wrap64 ((i : Int) + 1) = ((i + 1 : Nat) : Int) := by unfold wrap64; omega
theorem int_suc (i : Nat) : Value.int .i64 ((i : Int) + 1) = .int .i64 ((i + 1 : Nat) : Int) := rfl
theorem nine_dn (n k : Nat) (h : k < 9) : ((n : Int) + 9 - intOf (Value.int .i64 ((n : Int) + (k : Int) + 1))).toNat < ((n : Int) + 9 - intOf (Value.int .i64 ((n : Int) + (k : Int)))).toNat := by
  simp only [intOf]
  omega
theorem nine_eq (n k : Nat) : Value.int .i64 ((n : Int) + (k : Int) + 1) = .int .i64 ((n : Int) + ((k + 1 : Nat) : Int)) := by
  have e : (n : Int) + (k : Int) + 1 = (n : Int) + ((k + 1 : Nat) : Int) := by omega
  rw [e]
end Go.Proofs.YtgjhhbljbnbjkaaDoor.PA
