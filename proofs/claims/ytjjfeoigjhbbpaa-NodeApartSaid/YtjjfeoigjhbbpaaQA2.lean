/- Texts of this claim: contracts of the functions that the statement reaches, and plain laws of what they compute. -/
import Derived.Test.YtjjfeoigjhbbpaaQA1
set_option linter.unusedVariables false
set_option linter.unusedSimpArgs false
namespace Go.Proofs.Ytjjfeoigjhbbpaa.PA
section

open Go.RowKit Go.Proofs.YtjjfeoigjhbbpaaW.PrintWords Go.Proofs.YtjjfeoigjhbbpaaW.PrintLast Go.Proofs.YtjjfeoigjhbbpaaW.PrintMore
attribute [local go_sem] pr_leq pr_geq pr_gtr max2_int min2_int max_two min_two max_three min_three max_four min_four
set_option linter.unusedVariables false
set_option linter.unusedSimpArgs false
theorem heap_setCells (g : Nat) (t : TypeId) : ∀ (vs : List Value) (o : Nat) (w : World) (cs : Array Value), w.heap[g]? = some (.cells cs t (0, 0)) → o + vs.length ≤ cs.size →
    ∃ cs' : Array Value, (w.setCells g o vs).heap[g]? = some (.cells cs' t (0, 0)) ∧ cs'.size = cs.size ∧ (∀ i, i < o → cs'[i]? = cs[i]?) ∧ (∀ i, o + vs.length ≤ i → cs'[i]? = cs[i]?) ∧ ∀ i u, vs[i]? = some u → cs'[o + i]? = some u
  | [], o, w, cs, h, _ => ⟨cs, h, rfl, fun _ _ => rfl, fun _ _ => rfl, fun i u hu => by simp at hu⟩
  | v :: r, o, w, cs, h, hl => by
    simp only [List.length_cons] at hl
    have h1 := heap_setCell_same w g o cs t v h
    obtain ⟨cs', a1, a2, a3, a4, a5⟩ := heap_setCells g t r (o + 1) _ _ h1 (by simp; omega)
    refine ⟨cs', by rw [World.setCells]; exact a1, by rw [a2]; simp, fun i hi => ?_, fun i hi => ?_, fun i u hu => ?_⟩
    · rw [a3 i (by omega), Array.getElem?_setIfInBounds_ne (by omega)]
    · simp only [List.length_cons] at hi
      rw [a4 i (by omega), Array.getElem?_setIfInBounds_ne (by omega)]
    · cases i with
      | zero =>
        cases hu
        rw [Nat.add_zero, a3 o (by omega), Array.getElem?_setIfInBounds_self_of_lt (by omega)]
      | succ i =>
        rw [show o + (i + 1) = o + 1 + i by omega]
        exact a5 i u hu
def FlatK {α : Type} (d : Kd α) : Prop := ∀ w w' b ok x cs, d.K w x cs → d.M w' b ok x cs
theorem flat48 : FlatK k48 := fun _ _ _ _ _ _ h => h
theorem flatS : FlatK Kd.string := fun _ _ _ _ _ _ h => h
theorem flatI : FlatK (Kd.int .i64) := fun _ _ _ _ _ _ h => h
def Fr {α : Type} (d : Kd α) (e : Nat) (z : Value) (n g : Nat) (W : World) : Prop := ∃ cs, W.heap[g]? = some (.cells cs e (0, 0)) ∧ cs.size = (n + 1) * d.sz ∧ ∀ j, j < (n + 1) * d.sz → cs[j]? = some (z.cells[j % d.sz]!)
def Sp {α : Type} (d : Kd α) (e : Nat) (z : Value) (l : List α) (g : Nat) (W : World) : Prop := d.C W (some ⟨g, 0, none⟩) l.length l ∧ ∃ cs, W.heap[g]? = some (.cells cs e (0, 0)) ∧ cs.size = (l.length + 1) * d.sz ∧ ∀ j, l.length * d.sz ≤ j → j < (l.length + 1) * d.sz → cs[j]? = some (z.cells[j % d.sz]!)
theorem Fr.lt {α : Type} {d : Kd α} {e : Nat} {z : Value} {n g : Nat} {W : World} (h : Fr d e z n g W) : g < W.heap.size := by
  obtain ⟨cs, h, _⟩ := h
  exact blk_lt h
theorem Sp.lt {α : Type} {d : Kd α} {e : Nat} {z : Value} {l : List α} {g : Nat} {W : World} (h : Sp d e z l g W) : g < W.heap.size := by
  obtain ⟨_, cs, h, _⟩ := h
  exact blk_lt h
theorem Fr.keep {α : Type} {d : Kd α} {e : Nat} {z : Value} {n g x : Nat} {W W' : World} (h : Fr d e z n g W) (hg : W.grownBy W' (some x)) (hn : g ≠ x) : Fr d e z n g W' := by
  have hl := h.lt
  obtain ⟨cs, h1, h2⟩ := h
  exact ⟨cs, (hg.block g hl (fun e => hn (Option.some.inj e))).trans h1, h2⟩
theorem C_flat {α : Type} {d : Kd α} (hd : FlatK d) {W W' : World} {g n : Nat} {l : List α} (h : d.C W (some ⟨g, 0, none⟩) n l) (hh : W'.heap[g]? = W.heap[g]?) : d.C W' (some ⟨g, 0, none⟩) n l := by
  refine ⟨h.1, h.2.1, fun h0 => ?_⟩
  obtain ⟨ad, ha, hc⟩ := h.2.2 h0
  cases ha
  refine ⟨_, rfl, fun j p hj => ?_⟩
  obtain ⟨c, h1, h2, h3⟩ := hc j p hj
  exact ⟨c, h1, d.K_of_M (hd W W' 0 (fun _ => True) _ _ h2), fun i u hu => (World.cell?_of_block (by rw [add_plain]; exact hh)).trans (h3 i u hu)⟩
theorem Sp.keep {α : Type} {d : Kd α} (hd : FlatK d) {e : Nat} {z : Value} {l : List α} {g x : Nat} {W W' : World} (h : Sp d e z l g W) (hg : W.grownBy W' (some x)) (hn : g ≠ x) : Sp d e z l g W' := by
  have hb := hg.block g h.lt (fun e => hn (Option.some.inj e))
  obtain ⟨hC, cs, h1, h2⟩ := h
  exact ⟨C_flat hd hC hb, cs, hb.trans h1, h2⟩
theorem Sp.same {α : Type} {d : Kd α} (hd : FlatK d) {e : Nat} {z : Value} {l : List α} {g : Nat} {W W' : World} (h : Sp d e z l g W) (hb : W'.heap[g]? = W.heap[g]?) : Sp d e z l g W' := by
  obtain ⟨hC, cs, h1, h2⟩ := h
  exact ⟨C_flat hd hC hb, cs, hb.trans h1, h2⟩
theorem Sp.R {α : Type} {d : Kd α} (hd : FlatK d) (hs : 0 < d.sz) {e : Nat} {z : Value} {l : List α} {g b : Nat} {W : World} (h : Sp d e z l g W) (hb : b ≤ g) (hm : l.length < maxLen) : d.R e W b (fun _ => True) (.slice (some ⟨g, 0, none⟩) l.length (l.length + 1)) l := by
  obtain ⟨hC, cs, h1, h2, _⟩ := h
  obtain ⟨news, hnr, hnc⟩ := ReadsRow.inner_ hC
  refine ⟨fun _ _ => trivial, news, ⟨hnr.1, Or.inr ⟨g, l.length + 1, cs, rfl, hb, h1, by omega, by omega, h2, ?_⟩⟩, hnr.imp_ (fun _ _ hp => hd W W b _ _ _ hp)⟩
  apply List.ext_getElem?
  intro j
  have hle : l.length * d.sz ≤ (l.length + 1) * d.sz := Nat.mul_le_mul_right _ (by omega)
  rcases Nat.lt_or_ge j (l.length * d.sz) with hj | hj
  · rw [List.getElem?_take_of_lt hj]
    have hjn : j < news.length := by rw [hnr.1]; exact hj
    have := hnc j _ (List.getElem?_eq_getElem hjn)
    rw [add_plain, blk_cell h1] at this
    rw [List.getElem?_eq_getElem hjn, ← this]
    simp
  · rw [List.getElem?_eq_none (by rw [List.length_take]; omega), List.getElem?_eq_none (by rw [hnr.1]; exact hj)]
theorem makeIn {P : Program} {α : Type} (d : Kd α) (t e : TypeId) (z : Value) (bytes : Nat) (ht : P.underlying t = some (.slice e)) (hinfo : (P.info? e).map (fun i => (i.zero, i.size, i.bytes)) = some (some z, d.sz, bytes)) (hz : z.cells.size = d.sz) (W : World) (n : Nat) (hn : bytes * (n + 1) ≤ 281474976710656) (hn2 : n + 1 ≤ 281474976710656) :
    ∃ g W', g = W.heap.size ∧ (Instr.makeSlice t (.int .i64 0) (.int .i64 ((n : Int) + 1))).run P W = .ok (.slice (some ⟨g, 0, none⟩) 0 (n + 1)) W' ∧ Fr d e z n g W' ∧ W.grownBy W' (some g) := by
  obtain ⟨i, hi, hzz⟩ := Option.map_eq_some_iff.1 hinfo
  simp only [Prod.mk.injEq] at hzz
  obtain ⟨hz0, hs, hb⟩ := hzz
  have h := run_make (P := P) W t e i z ht hi hz0 .i64 .i64 0 ((n : Int) + 1) (by omega) (by omega) (by
      rw [hb]
      have : ((bytes * (n + 1) : Nat) : Int) ≤ 281474976710656 := by omega
      rwa [Int.natCast_mul] at this) (by omega)
  have e1 : ((n : Int) + 1).toNat = n + 1 := by omega
  rw [e1, hs] at h
  have b := below_alloc (Below.refl W.heap.size W) (.cells (madeCells z.cells ((n + 1) * d.sz)) e)
  refine ⟨_, _, rfl, h, ⟨_, heap_alloc_new W _, size_madeCells _ _, fun j hj => ?_⟩, ⟨b.os, b.tape, b.output, b.size, fun k hk _ => b.block k hk⟩⟩
  rw [Array.getElem?_eq_getElem (by rw [size_madeCells]; exact hj)]
  simp [madeCells, hz]
theorem grown_setCells (g : Nat) : ∀ (vs : List Value) (o : Nat) (w w0 : World), w0.grownBy w (some g) → w0.grownBy (w.setCells g o vs) (some g)
  | [], _, _, _, h => h
  | v :: r, o, w, w0, h => by
    rw [World.setCells]
    refine grown_setCells g r (o + 1) _ _ ⟨h.os, h.tape, h.output, by simpa [World.setCell] using h.size, fun k hk hn => ?_⟩
    rw [Below.heap_setCell w ⟨g, o, none⟩ v k (fun e => hn (by rw [e]))]
    exact h.block k hk hn
theorem appendAt {P : Program} {α : Type} (d : Kd α) (hd : FlatK d) (t e : TypeId) (z : Value) (bytes : Nat) (ht : P.underlying t = some (.slice e)) (hinfo : (P.info? e).map (fun i => (i.zero, i.size, i.bytes)) = some (some z, d.sz, bytes)) (hz : z.cells.size = d.sz) (hs0 : 0 < d.sz)
    (ty : TypeId) (W : World) (A : Option Addr) (c : Nat) (l : List α) (g : Nat) (hr : d.C W A l.length l) (hf : Fr d e z l.length g W) :
    ∃ W2, (Builtin.append_ #[t, t] ty #[.slice (some ⟨g, 0, none⟩) 0 (l.length + 1), .slice A l.length c]).run P W = .ok (.slice (some ⟨g, 0, none⟩) l.length (l.length + 1)) W2 ∧ Sp d e z l g W2 ∧ W.grownBy W2 (some g) := by
  obtain ⟨i, hi, hzz⟩ := Option.map_eq_some_iff.1 hinfo
  simp only [Prod.mk.injEq] at hzz
  obtain ⟨hz0, hs, hb⟩ := hzz
  obtain ⟨cs0, hblk, hsz0, hmc⟩ := hf
  have hnil : l = [] → ∃ W2, W = W2 ∧ Sp d e z l g W2 ∧ W.grownBy W2 (some g) := by
    rintro rfl
    exact ⟨W, rfl, ⟨⟨rfl, by simp, fun h => absurd h (by simp)⟩, _, hblk, hsz0, fun j _ hj => hmc j hj⟩, ⟨rfl, rfl, rfl, Nat.le_refl _, fun _ _ _ => rfl⟩⟩
  cases A with
  | none =>
    have h0 : l.length = 0 := by
      rcases Nat.eq_zero_or_pos l.length with h0 | h0
      · exact h0
      · obtain ⟨ad, h, _⟩ := hr.2.2 h0
        cases h
    obtain ⟨W2, rfl, a⟩ := hnil (List.eq_nil_of_length_eq_zero h0)
    refine ⟨W, ?_, a⟩
    rw [h0]
    simp [Builtin.append_, run_underlying ht, sizeOf, typeInfo, hi, Builtin.lenOf, Builtin.firstCells, storeCells, Result.andThen]
  | some ad =>
    obtain ⟨news, hnr, hnc⟩ := ReadsRow.inner_ hr
    have hone : ∀ u ∈ news, u.oneCell' = true := by
      intro u hu
      obtain ⟨j, hj, rfl⟩ := List.getElem_of_mem hu
      have hlen := hnr.1
      have hq : j / d.sz < l.length := by
        rw [Nat.div_lt_iff_lt_mul hs0]
        omega
      have h2 := hnr.2 (j / d.sz) _ (List.getElem?_eq_getElem hq)
      refine d.K_one h2 _ ?_
      have hmod := Nat.mod_lt j hs0
      have e1 : j = j / d.sz * d.sz + j % d.sz := by rw [Nat.mul_comm]; exact (Nat.div_add_mod j d.sz).symm
      have : ((news.drop (j / d.sz * d.sz)).take d.sz)[j % d.sz]? = some news[j] := by
        rw [List.getElem?_take_of_lt hmod, List.getElem?_drop, ← e1, List.getElem?_eq_getElem]
      exact List.mem_of_getElem? this
    have hnl : news.length = l.length * i.size := by rw [hs]; exact hnr.1
    have hle : l.length * d.sz ≤ (l.length + 1) * d.sz := Nat.mul_le_mul_right _ (by omega)
    have h := run_append_room_cells (P := P) W t ty e i ht hi g 0 0 (l.length + 1) ad l.length c news hnl hnc hone (by omega)
      (fun j hj => by rw [Nat.zero_mul, Nat.add_zero, Nat.zero_add, blk_cell hblk, hmc j (by rw [hnr.1] at hj; omega)]; rfl)
      (fun j hj => blk_frozen hblk _)
    rw [Nat.zero_add, Nat.zero_mul, Nat.add_zero] at h
    obtain ⟨cs', a1, a2, a3, a4, a5⟩ := heap_setCells g e news 0 W _ hblk (by rw [hsz0, Nat.zero_add, hnr.1]; exact hle)
    rw [hsz0] at a2
    refine ⟨_, h, ⟨⟨rfl, hr.2.1, fun _ => ⟨_, rfl, fun j p hj => ?_⟩⟩, cs', a1, a2, fun j h1 h2 => by rw [a4 j (by rw [hnr.1]; omega), hmc j h2]⟩, grown_setCells g news 0 W W ⟨rfl, rfl, rfl, Nat.le_refl _, fun _ _ _ => rfl⟩⟩
    have h2 := hnr.2 j p hj
    have hK := d.K_len h2
    refine ⟨_, hK, d.K_of_M (hd W _ 0 (fun _ => True) _ _ h2), fun q u hu => ?_⟩
    have hq : q < d.sz := by rw [← hK]; exact (List.getElem?_eq_some_iff.1 hu).1
    rw [List.getElem?_take_of_lt hq, List.getElem?_drop] at hu
    rw [add_plain, blk_cell a1]
    have := a5 _ u hu
    rwa [Nat.zero_add] at this
theorem oper_append_ran {P : Program} {o : Oper} {a : Act} {Q : Exit → Act → World → Prop} {K : Act → World → Prop} {w w' : World} (s x : Operand) (t : TypeId)
    (hop : o.op = Op.call { callee := Callee.builtin Builtin.append, args := #[s, x], argTypes := #[t, t] }) (v1 v2 v : Value) (hs : a.eval s = v1) (hx : a.eval x = v2)
    (hrun : (Builtin.append_ #[t, t] o.type #[v1, v2]).run P w = .ok v w') (h : K (a.put o.dst v) w') : Oper.wp P o a w K Q := by
  unfold Oper.wp execOp
  simp only [hop, resolve, invoke, builtin, Sem.run_bind, Sem.run_pure, Result.andThen_ok, List.map_toArray, List.map_cons, List.map_nil, hs, hx, hrun]
  exact h
theorem nd_grown_cell {W W' : World} {g : Nat} {p : Addr} {u : Value} (h : W.grownBy W' (some g)) (hn : p.block ≠ g) (hc : W.cell? p = some u) : W'.cell? p = some u := by
  have hl := World.block_lt_of_cell? W p hc
  rw [World.cell?_of_block (h.block _ hl (fun e => hn (Option.some.inj e)))]
  exact hc
theorem nd_grown_below {b g : Nat} {W0 W W' : World} (h : W.grownBy W' (some g)) (hb : Below b W0 W) (hw : b ≤ W.heap.size) (hg : b ≤ g) : Below b W0 W' :=
  ⟨h.os.trans hb.os, h.tape.trans hb.tape, h.output.trans hb.output, Nat.le_trans hb.size h.size, fun k hk => (h.block k (by omega) (fun e => by have := Option.some.inj e; omega)).trans (hb.block k hk)⟩
theorem nd_set4 (W : World) (g t : Nat) (a0 a1 a2 a3 b0 b1 b2 b3 : Value) (h : W.heap[g]? = some (.cells #[a0, a1, a2, a3] t (0, 0))) :
    ∃ W7, W7 = ((((W.setCell ⟨g, 0, none⟩ b0).setCell ⟨g, 1, none⟩ b1).setCell ⟨g, 2, none⟩ b2).setCell ⟨g, 3, none⟩ b3) ∧ W7.heap[g]? = some (.cells #[b0, b1, b2, b3] t (0, 0)) ∧ W.grownBy W7 (some g) := by
  refine ⟨_, rfl, heap_setCell_same _ g 3 _ t b3 (heap_setCell_same _ g 2 _ t b2 (heap_setCell_same _ g 1 _ t b1 (heap_setCell_same W g 0 _ t b0 h))), ?_⟩
  have h' := grown_setCells g [b0, b1, b2, b3] 0 W W ⟨rfl, rfl, rfl, Nat.le_refl _, fun _ _ _ => rfl⟩
  exact h'
set_option maxHeartbeats 4000000 in
set_option maxRecDepth 100000 in
theorem of_strong (a0_0 : Bool) (A0_1 : Option Addr) (c0_1 : Nat) (l0_1 : List S48) (A0_2 : Option Addr) (c0_2 : Nat) (l0_2 : List ByteArray) (A0_3 : Option Addr) (c0_3 : Nat) (l0_3 : List Int) (w : World) (hr0_1 : Kd.C k48 w A0_1 l0_1.length l0_1) (hr0_2 : Kd.C Kd.string w A0_2 l0_2.length l0_2) (hr0_3 : Kd.C (Kd.int .i64) w A0_3 l0_3.length l0_3) (h1 : 32 * (l0_1.length + 1) ≤ 281474976710656) (h2 : 16 * (l0_2.length + 1) ≤ 281474976710656) (h3 : 8 * (l0_3.length + 1) ≤ 281474976710656) :
    Calls Try.prog 14 #[.agg #[.bool a0_0, .slice A0_1 l0_1.length c0_1, .slice A0_2 l0_2.length c0_2, .slice A0_3 l0_3.length c0_3]] w fun e w' => ∃ g1 g2 g3, e = .returned (.agg #[.bool a0_0, .slice (some ⟨g1, 0, none⟩) l0_1.length (l0_1.length + 1), .slice (some ⟨g2, 0, none⟩) l0_2.length (l0_2.length + 1), .slice (some ⟨g3, 0, none⟩) l0_3.length (l0_3.length + 1)]) ∧ w.heap.size ≤ g1 ∧ w.heap.size ≤ g2 ∧ w.heap.size ≤ g3 ∧ g1 ≠ g2 ∧ g1 ≠ g3 ∧ g2 ≠ g3 ∧
      Sp k48 48 (.agg #[(.string ⟨#[]⟩), (.string ⟨#[]⟩)]) l0_1 g1 w' ∧ Sp Kd.string 9 (.string ⟨#[]⟩) l0_2 g2 w' ∧ Sp (Kd.int .i64) 3 (.int .i64 0) l0_3 g3 w' ∧ Below w.heap.size w w' := by
  have R1 := Aside0.mk hr0_1
  have R2 := Aside0.mk hr0_2
  have R3 := Aside0.mk hr0_3
  have H1 := Aside0.mk h1
  have H2 := Aside0.mk h2
  have H3 := Aside0.mk h3
  have m1 : l0_1.length ≤ 8796093022207 := by omega
  have m2 : l0_2.length ≤ 17592186044415 := by omega
  have m3 : l0_3.length ≤ 35184372088831 := by omega
  clear hr0_1 hr0_2 hr0_3 h1 h2 h3
  have q1 : IntKind.i64.wrap ((l0_1.length : Int) + 1) = (l0_1.length : Int) + 1 := by rw [IntKind.wrap_i64]; omega
  have q2 : IntKind.i64.wrap ((l0_2.length : Int) + 1) = (l0_2.length : Int) + 1 := by rw [IntKind.wrap_i64]; omega
  have q3 : IntKind.i64.wrap ((l0_3.length : Int) + 1) = (l0_3.length : Int) + 1 := by rw [IntKind.wrap_i64]; omega
  have BX := Aside0.mk (heap_alloc_new w (.cells #[.bool a0_0, .slice A0_1 l0_1.length c0_1, .slice A0_2 l0_2.length c0_2, .slice A0_3 l0_3.length c0_3] 26))
  obtain ⟨wa, hwa⟩ : ∃ wa, wa = w.alloc (.cells #[.bool a0_0, .slice A0_1 l0_1.length c0_1, .slice A0_2 l0_2.length c0_2, .slice A0_3 l0_3.length c0_3] 26) := ⟨_, rfl⟩
  have HWA := Aside0.mk hwa
  have sa : wa.heap.size = w.heap.size + 1 := by rw [hwa]; simp
  rw [← hwa] at BX
  have XA := Aside0.mk (below_alloc (Below.refl w.heap.size w) (.cells #[.bool a0_0, .slice A0_1 l0_1.length c0_1, .slice A0_2 l0_2.length c0_2, .slice A0_3 l0_3.length c0_3] 26))
  rw [← hwa] at XA
  clear hwa
  have ZA := Aside0.mk sa
  clear sa
  go_enter Try.func14, Try.ntmps14
  go_wp2_with fail
  obtain ⟨wb, hwb⟩ : ∃ wb, wb = wa.alloc (.cells #[.bool false, .slice none 0 0, .slice none 0 0, .slice none 0 0] 31) := ⟨_, rfl⟩
  rw [← HWA.out, ← hwb]
  have xb : Below wa.heap.size wa wb := by rw [hwb]; exact below_alloc (Below.refl _ _) _
  have tb : wb.heap[w.heap.size + 1]? = some (.cells #[.bool false, .slice none 0 0, .slice none 0 0, .slice none 0 0] 31 (0, 0)) := by rw [hwb, ← ZA.out]; exact heap_alloc_new wa _
  have zb : wb.heap.size = w.heap.size + 2 := by have := ZA.out; rw [hwb]; simp; omega
  have bx : wb.heap[w.heap.size]? = some (.cells #[.bool a0_0, .slice A0_1 l0_1.length c0_1, .slice A0_2 l0_2.length c0_2, .slice A0_3 l0_3.length c0_3] 26 (0, 0)) := (xb.block _ (by have := ZA.out; omega)).trans BX.out
  have XB := Aside0.mk (XA.out.trans (xb.mono XA.out.size))
  have TB := Aside0.mk tb
  have ZB := Aside0.mk zb
  have B0 := Aside0.mk (show wb.cell? ⟨w.heap.size, 0, none⟩ = some (.bool a0_0) from blk_cell bx 0)
  have B1 := Aside0.mk (show wb.cell? ⟨w.heap.size, 1, none⟩ = some (.slice A0_1 l0_1.length c0_1) from blk_cell bx 1)
  have B2 := Aside0.mk (show wb.cell? ⟨w.heap.size, 2, none⟩ = some (.slice A0_2 l0_2.length c0_2) from blk_cell bx 2)
  have B3 := Aside0.mk (show wb.cell? ⟨w.heap.size, 3, none⟩ = some (.slice A0_3 l0_3.length c0_3) from blk_cell bx 3)
  clear hwb xb tb zb bx HWA BX XA
  refine wp_region_held_drew (S := (fun W => W.cell? ⟨w.heap.size, 0, none⟩ = some (.bool a0_0) ∧ W.cell? ⟨w.heap.size, 1, none⟩ = some (.slice A0_1 l0_1.length c0_1) ∧ W.cell? ⟨w.heap.size, 2, none⟩ = some (.slice A0_2 l0_2.length c0_2) ∧ W.cell? ⟨w.heap.size, 3, none⟩ = some (.slice A0_3 l0_3.length c0_3))) (by kernel_rfl) ?_ (fun hHeld => ?_)
  · exact ⟨B0.out, B1.out, B2.out, B3.out⟩
  have HB0 : Aside0 (Below (w.heap.size + 2) wb wb.drew) := ⟨below_drew1 (Below.refl _ _)⟩
  obtain ⟨W0, hW0⟩ : ∃ W0, W0 = wb.drew := ⟨_, rfl⟩
  rw [← hW0] at hHeld HB0 ⊢
  clear hW0
  refine wpAnyH_take (i := 0) (oi := _) (v := _) rfl (by kernel_rfl) (by kernel_rfl) (by kernel_rfl) (fun _ _ _ h => h) (Or.inl ⟨by rfl, by (intro w hSw; (try dsimp only at hSw); go_simp; try with_reducible rfl)⟩) hHeld ?_
  simp only [Act.put, List.getElem_toArray, List.getElem_cons_zero, List.getElem_cons_succ, List.setIfInBounds_toArray, List.set_cons_zero, List.set_cons_succ]
  refine wpAnyH_take (i := 1) (oi := _) (v := _) rfl (by kernel_rfl) (by kernel_rfl) (by kernel_rfl) (fun _ _ _ h => h) (Or.inl ⟨by rfl, by (intro w hSw; (try dsimp only at hSw); go_simp; try with_reducible rfl)⟩) hHeld ?_
  simp only [Act.put, List.getElem_toArray, List.getElem_cons_zero, List.getElem_cons_succ, List.setIfInBounds_toArray, List.set_cons_zero, List.set_cons_succ]
  refine wpAnyH_take (i := 2) (oi := _) (v := _) rfl (by kernel_rfl) (by kernel_rfl) (by kernel_rfl) (fun _ _ _ h => h) (Or.inl ⟨by rfl, by (intro w hSw; (try dsimp only at hSw); go_simp; try with_reducible rfl)⟩) hHeld ?_
  simp only [Act.put, List.getElem_toArray, List.getElem_cons_zero, List.getElem_cons_succ, List.setIfInBounds_toArray, List.set_cons_zero, List.set_cons_succ]
  refine wpAnyH_take (i := 3) (oi := _) (v := _) rfl (by kernel_rfl) (by kernel_rfl) (by kernel_rfl) (fun _ _ _ h => h) (Or.inl ⟨by rfl, by (intro w hSw; (try dsimp only at hSw); go_simp; try with_reducible rfl)⟩) hHeld ?_
  simp only [Act.put, List.getElem_toArray, List.getElem_cons_zero, List.getElem_cons_succ, List.setIfInBounds_toArray, List.set_cons_zero, List.set_cons_succ]
  refine wpAnyH_take (i := 4) (oi := _) (v := _) rfl (by kernel_rfl) (by kernel_rfl) (by kernel_rfl) (fun _ _ _ h => h) (Or.inl ⟨by rfl, by (intro w hSw; (try dsimp only at hSw); go_simp; try with_reducible rfl)⟩) hHeld ?_
  simp only [Act.put, List.getElem_toArray, List.getElem_cons_zero, List.getElem_cons_succ, List.setIfInBounds_toArray, List.set_cons_zero, List.set_cons_succ]
  refine wpAnyH_take (i := 5) (oi := _) (v := _) rfl (by kernel_rfl) (by kernel_rfl) (by kernel_rfl) (fun _ _ _ h => h) (Or.inl ⟨by rfl, by (intro w hSw; (try dsimp only at hSw); go_simp; try with_reducible rfl)⟩) hHeld ?_
  simp only [Act.put, List.getElem_toArray, List.getElem_cons_zero, List.getElem_cons_succ, List.setIfInBounds_toArray, List.set_cons_zero, List.set_cons_succ]
  refine wpAnyH_take (i := 7) (oi := _) (v := _) rfl (by kernel_rfl) (by kernel_rfl) (by kernel_rfl) (fun _ _ _ h => h) (Or.inl ⟨by rfl, by (intro w hSw; (try dsimp only at hSw); go_simp; try with_reducible rfl)⟩) hHeld ?_
  simp only [Act.put, List.getElem_toArray, List.getElem_cons_zero, List.getElem_cons_succ, List.setIfInBounds_toArray, List.set_cons_zero, List.set_cons_succ]
  refine wpAnyH_take (i := 8) (oi := _) (v := _) rfl (by kernel_rfl) (by kernel_rfl) (by kernel_rfl) (fun _ _ _ h => h) (Or.inl ⟨by rfl, by (intro w hSw; (try dsimp only at hSw); go_simp; try with_reducible rfl)⟩) hHeld ?_
  simp only [Act.put, List.getElem_toArray, List.getElem_cons_zero, List.getElem_cons_succ, List.setIfInBounds_toArray, List.set_cons_zero, List.set_cons_succ]
  refine wpAnyH_take (i := 10) (oi := _) (v := _) rfl (by kernel_rfl) (by kernel_rfl) (by kernel_rfl) (fun _ _ _ h => h) (Or.inl ⟨by rfl, by (intro w hSw; (try dsimp only at hSw); go_simp; try with_reducible rfl)⟩) hHeld ?_
  simp only [Act.put, List.getElem_toArray, List.getElem_cons_zero, List.getElem_cons_succ, List.setIfInBounds_toArray, List.set_cons_zero, List.set_cons_succ]
  refine wpAnyH_take (i := 11) (oi := _) (v := _) rfl (by kernel_rfl) (by kernel_rfl) (by kernel_rfl) (fun _ _ _ h => h) (Or.inl ⟨by rfl, by (intro w hSw; (try dsimp only at hSw); go_simp; try with_reducible rfl)⟩) hHeld ?_
  simp only [Act.put, List.getElem_toArray, List.getElem_cons_zero, List.getElem_cons_succ, List.setIfInBounds_toArray, List.set_cons_zero, List.set_cons_succ]
  refine wpAnyH_take (i := 12) (oi := _) (v := _) rfl (by kernel_rfl) (by kernel_rfl) (by kernel_rfl) (fun _ _ _ h => h) (Or.inl ⟨by rfl, by (intro w hSw; (try dsimp only at hSw); go_simp; try with_reducible rfl)⟩) hHeld ?_
  simp only [Act.put, List.getElem_toArray, List.getElem_cons_zero, List.getElem_cons_succ, List.setIfInBounds_toArray, List.set_cons_zero, List.set_cons_succ]
  refine wpAnyH_take (i := 13) (oi := _) (v := _) rfl (by kernel_rfl) (by kernel_rfl) (by kernel_rfl) (fun _ _ _ h => h) (Or.inl ⟨by rfl, by (intro w hSw; (try dsimp only at hSw); go_simp; try with_reducible rfl)⟩) hHeld ?_
  simp only [Act.put, List.getElem_toArray, List.getElem_cons_zero, List.getElem_cons_succ, List.setIfInBounds_toArray, List.set_cons_zero, List.set_cons_succ]
  refine wpAnyH_take (i := 15) (oi := _) (v := _) rfl (by kernel_rfl) (by kernel_rfl) (by kernel_rfl) (fun _ _ _ h => h) (Or.inl ⟨by rfl, by (intro w hSw; (try dsimp only at hSw); go_simp; try with_reducible rfl)⟩) hHeld ?_
  simp only [Act.put, List.getElem_toArray, List.getElem_cons_zero, List.getElem_cons_succ, List.setIfInBounds_toArray, List.set_cons_zero, List.set_cons_succ]
  refine wpAnyH_take (i := 16) (oi := _) (v := _) rfl (by kernel_rfl) (by kernel_rfl) (by kernel_rfl) (fun _ _ _ h => h) (Or.inl ⟨by rfl, by (intro w hSw; (try dsimp only at hSw); go_simp; try with_reducible rfl)⟩) hHeld ?_
  simp only [Act.put, List.getElem_toArray, List.getElem_cons_zero, List.getElem_cons_succ, List.setIfInBounds_toArray, List.set_cons_zero, List.set_cons_succ]
  refine wpAnyH_take (i := 18) (oi := _) (v := _) rfl (by kernel_rfl) (by kernel_rfl) (by kernel_rfl) (fun _ _ _ h => h) (Or.inl ⟨by rfl, by (intro w hSw; (try dsimp only at hSw); go_simp; try with_reducible rfl)⟩) hHeld ?_
  simp only [Act.put, List.getElem_toArray, List.getElem_cons_zero, List.getElem_cons_succ, List.setIfInBounds_toArray, List.set_cons_zero, List.set_cons_succ]
  refine wpAnyH_take (i := 19) (oi := _) (v := _) rfl (by kernel_rfl) (by kernel_rfl) (by kernel_rfl) (fun _ _ _ h => h) (Or.inl ⟨by rfl, by (intro w hSw; (try dsimp only at hSw); go_simp; try with_reducible rfl)⟩) hHeld ?_
  simp only [Act.put, List.getElem_toArray, List.getElem_cons_zero, List.getElem_cons_succ, List.setIfInBounds_toArray, List.set_cons_zero, List.set_cons_succ]
  refine wpAnyH_take (i := 20) (oi := _) (v := _) rfl (by kernel_rfl) (by kernel_rfl) (by kernel_rfl) (fun _ _ _ h => h) (Or.inl ⟨by rfl, by (intro w hSw; (try dsimp only at hSw); go_simp; try with_reducible rfl)⟩) hHeld ?_
  simp only [Act.put, List.getElem_toArray, List.getElem_cons_zero, List.getElem_cons_succ, List.setIfInBounds_toArray, List.set_cons_zero, List.set_cons_succ]
  refine wpAnyH_take (i := 21) (oi := _) (v := _) rfl (by kernel_rfl) (by kernel_rfl) (by kernel_rfl) (fun _ _ _ h => h) (Or.inl ⟨by rfl, by (intro w hSw; (try dsimp only at hSw); go_simp; try with_reducible rfl)⟩) hHeld ?_
  simp only [Act.put, List.getElem_toArray, List.getElem_cons_zero, List.getElem_cons_succ, List.setIfInBounds_toArray, List.set_cons_zero, List.set_cons_succ]
  refine wpAnyH_take (i := 23) (oi := _) (v := _) rfl (by kernel_rfl) (by kernel_rfl) (by kernel_rfl) (fun _ _ _ h => h) (Or.inl ⟨by rfl, by (intro w hSw; (try dsimp only at hSw); go_simp; try with_reducible rfl)⟩) hHeld ?_
  simp only [Act.put, List.getElem_toArray, List.getElem_cons_zero, List.getElem_cons_succ, List.setIfInBounds_toArray, List.set_cons_zero, List.set_cons_succ]
  refine wpAnyH_take (i := 24) (oi := _) (v := _) rfl (by kernel_rfl) (by kernel_rfl) (by kernel_rfl) (fun _ _ _ h => h) (Or.inl ⟨by rfl, by (intro w hSw; (try dsimp only at hSw); go_simp; try with_reducible rfl)⟩) hHeld ?_
  simp only [Act.put, List.getElem_toArray, List.getElem_cons_zero, List.getElem_cons_succ, List.setIfInBounds_toArray, List.set_cons_zero, List.set_cons_succ]
  refine wpAnyH_ready (rs := [6, 14, 22]) (by kernel_rfl) (by simp) ?_
  refine (AllReadyH.cons rfl (fun K hK => ?_) (AllReadyH.cons rfl (fun K hK => ?_) (AllReadyH.cons rfl (fun K hK => ?_) AllReadyH.nil)))
  · obtain ⟨g1, W1, hg, mk, hF, hG⟩ := makeIn (P := Try.prog) k48 22 48 (.agg #[(.string ⟨#[]⟩), (.string ⟨#[]⟩)]) 32 Try.underlying22 (by kernel_rfl) rfl W0 l0_1.length H1.out (by omega)
    have ZC : w.heap.size + 2 ≤ W0.heap.size := by have := HB0.out.size; have := ZB.out; omega
    have z1 : Aside0 (w.heap.size + 2 ≤ g1) := ⟨by omega⟩
    have HB1 := Aside0.mk (nd_grown_below hG HB0.out ZC z1.out)
    have F1 := Aside0.mk hF
    clear hF hG hg ZC HB0
    go_simp
    clear mk
    refine hK.out _ _ ?_ (fun hNew => ?_)
    · exact ⟨(HB1.out.cell (p := ⟨w.heap.size, 0, none⟩) (by show w.heap.size < _; omega)).trans B0.out, (HB1.out.cell (p := ⟨w.heap.size, 1, none⟩) (by show w.heap.size < _; omega)).trans B1.out, (HB1.out.cell (p := ⟨w.heap.size, 2, none⟩) (by show w.heap.size < _; omega)).trans B2.out, (HB1.out.cell (p := ⟨w.heap.size, 3, none⟩) (by show w.heap.size < _; omega)).trans B3.out⟩
    clear hK K hHeld
    have hHeld := hNew
    clear hNew
    refine wpAnyH_ready (rs := [9, 14, 22]) (by kernel_rfl) (by simp) ?_
    refine (AllReadyH.cons rfl (fun K hK => ?_) (AllReadyH.cons rfl (fun K hK => ?_) (AllReadyH.cons rfl (fun K hK => ?_) AllReadyH.nil)))
    · obtain ⟨W2, ap, hP, hG⟩ := appendAt (P := Try.prog) k48 flat48 22 48 (.agg #[(.string ⟨#[]⟩), (.string ⟨#[]⟩)]) 32 Try.underlying22 (by kernel_rfl) rfl (by decide) 22 W1 A0_1 c0_1 l0_1 g1 (Kd.C_below R1.out ((XB.out.trans (HB1.out.mono (by omega))))) F1.out
      have ZC : w.heap.size + 2 ≤ W1.heap.size := by have := HB1.out.size; have := ZB.out; omega
      have HB2 := Aside0.mk (nd_grown_below hG HB1.out ZC z1.out)
      have P1 := Aside0.mk hP
      clear hP hG ZC HB1 F1
      rw [if_pos (by kernel_rfl)]
      refine oper_append_ran (.tmp 9) (.tmp 11) 22 rfl _ _ _ rfl rfl ap ?_
      simp only [Act.put, List.getElem_toArray, List.getElem_cons_zero, List.getElem_cons_succ, List.setIfInBounds_toArray, List.set_cons_zero, List.set_cons_succ]
      clear ap
      refine hK.out _ _ ?_ (fun hNew => ?_)
      · exact ⟨(HB2.out.cell (p := ⟨w.heap.size, 0, none⟩) (by show w.heap.size < _; omega)).trans B0.out, (HB2.out.cell (p := ⟨w.heap.size, 1, none⟩) (by show w.heap.size < _; omega)).trans B1.out, (HB2.out.cell (p := ⟨w.heap.size, 2, none⟩) (by show w.heap.size < _; omega)).trans B2.out, (HB2.out.cell (p := ⟨w.heap.size, 3, none⟩) (by show w.heap.size < _; omega)).trans B3.out⟩
      clear hK K hHeld
      have hHeld := hNew
      clear hNew
      refine wpAnyH_ready (rs := [14, 22]) (by kernel_rfl) (by simp) ?_
      refine (AllReadyH.cons rfl (fun K hK => ?_) (AllReadyH.cons rfl (fun K hK => ?_) AllReadyH.nil))
      · obtain ⟨g2, W3, hg, mk, hF, hG⟩ := makeIn (P := Try.prog) Kd.string 23 9 (.string ⟨#[]⟩) 16 Try.underlying23 (by kernel_rfl) rfl W2 l0_2.length H2.out (by omega)
        have ZC : w.heap.size + 2 ≤ W2.heap.size := by have := HB2.out.size; have := ZB.out; omega
        have z2 : Aside0 (w.heap.size + 2 ≤ g2) := ⟨by omega⟩
        have n12 : Aside0 (g1 ≠ g2) := ⟨by have := P1.out.lt; omega⟩
        have n21 : Aside0 (g2 ≠ g1) := ⟨Ne.symm n12.out⟩
        have HB3 := Aside0.mk (nd_grown_below hG HB2.out ZC z2.out)
        replace P1 := Aside0.mk (P1.out.keep flat48 hG n12.out)
        have F2 := Aside0.mk hF
        clear hF hG hg ZC HB2
        go_simp
        clear mk
        refine hK.out _ _ ?_ (fun hNew => ?_)
        · exact ⟨(HB3.out.cell (p := ⟨w.heap.size, 0, none⟩) (by show w.heap.size < _; omega)).trans B0.out, (HB3.out.cell (p := ⟨w.heap.size, 1, none⟩) (by show w.heap.size < _; omega)).trans B1.out, (HB3.out.cell (p := ⟨w.heap.size, 2, none⟩) (by show w.heap.size < _; omega)).trans B2.out, (HB3.out.cell (p := ⟨w.heap.size, 3, none⟩) (by show w.heap.size < _; omega)).trans B3.out⟩
        clear hK K hHeld
        have hHeld := hNew
        clear hNew
        refine wpAnyH_ready (rs := [17, 22]) (by kernel_rfl) (by simp) ?_
        refine (AllReadyH.cons rfl (fun K hK => ?_) (AllReadyH.cons rfl (fun K hK => ?_) AllReadyH.nil))
        · obtain ⟨W4, ap, hP, hG⟩ := appendAt (P := Try.prog) Kd.string flatS 23 9 (.string ⟨#[]⟩) 16 Try.underlying23 (by kernel_rfl) rfl (by decide) 23 W3 A0_2 c0_2 l0_2 g2 (Kd.C_below R2.out ((XB.out.trans (HB3.out.mono (by omega))))) F2.out
          have ZC : w.heap.size + 2 ≤ W3.heap.size := by have := HB3.out.size; have := ZB.out; omega
          have HB4 := Aside0.mk (nd_grown_below hG HB3.out ZC z2.out)
          replace P1 := Aside0.mk (P1.out.keep flat48 hG n12.out)
          have P2 := Aside0.mk hP
          clear hP hG ZC HB3 F2
          rw [if_pos (by kernel_rfl)]
          refine oper_append_ran (.tmp 17) (.tmp 19) 23 rfl _ _ _ rfl rfl ap ?_
          simp only [Act.put, List.getElem_toArray, List.getElem_cons_zero, List.getElem_cons_succ, List.setIfInBounds_toArray, List.set_cons_zero, List.set_cons_succ]
          clear ap
          refine hK.out _ _ ?_ (fun hNew => ?_)
          · exact ⟨(HB4.out.cell (p := ⟨w.heap.size, 0, none⟩) (by show w.heap.size < _; omega)).trans B0.out, (HB4.out.cell (p := ⟨w.heap.size, 1, none⟩) (by show w.heap.size < _; omega)).trans B1.out, (HB4.out.cell (p := ⟨w.heap.size, 2, none⟩) (by show w.heap.size < _; omega)).trans B2.out, (HB4.out.cell (p := ⟨w.heap.size, 3, none⟩) (by show w.heap.size < _; omega)).trans B3.out⟩
          clear hK K hHeld
          have hHeld := hNew
          clear hNew
          refine wpAnyH_ready (rs := [22]) (by kernel_rfl) (by simp) ?_
          refine (AllReadyH.cons rfl (fun K hK => ?_) AllReadyH.nil)
          obtain ⟨g3, W5, hg, mk, hF, hG⟩ := makeIn (P := Try.prog) (Kd.int .i64) 24 3 (.int .i64 0) 8 Try.underlying24 (by kernel_rfl) rfl W4 l0_3.length H3.out (by omega)
          have ZC : w.heap.size + 2 ≤ W4.heap.size := by have := HB4.out.size; have := ZB.out; omega
          have z3 : Aside0 (w.heap.size + 2 ≤ g3) := ⟨by omega⟩
          have n13 : Aside0 (g1 ≠ g3) := ⟨by have := P1.out.lt; omega⟩
          have n23 : Aside0 (g2 ≠ g3) := ⟨by have := P2.out.lt; omega⟩
          have n31 : Aside0 (g3 ≠ g1) := ⟨Ne.symm n13.out⟩
          have n32 : Aside0 (g3 ≠ g2) := ⟨Ne.symm n23.out⟩
          have HB5 := Aside0.mk (nd_grown_below hG HB4.out ZC z3.out)
          replace P1 := Aside0.mk (P1.out.keep flat48 hG n13.out)
          replace P2 := Aside0.mk (P2.out.keep flatS hG n23.out)
          have F3 := Aside0.mk hF
          clear hF hG hg ZC HB4
          go_simp
          clear mk
          refine hK.out _ _ ?_ (fun hNew => ?_)
          · exact ⟨(HB5.out.cell (p := ⟨w.heap.size, 0, none⟩) (by show w.heap.size < _; omega)).trans B0.out, (HB5.out.cell (p := ⟨w.heap.size, 1, none⟩) (by show w.heap.size < _; omega)).trans B1.out, (HB5.out.cell (p := ⟨w.heap.size, 2, none⟩) (by show w.heap.size < _; omega)).trans B2.out, (HB5.out.cell (p := ⟨w.heap.size, 3, none⟩) (by show w.heap.size < _; omega)).trans B3.out⟩
          clear hK K hHeld
          have hHeld := hNew
          clear hNew
          refine wpAnyH_ready (rs := [25]) (by kernel_rfl) (by simp) ?_
          refine (AllReadyH.cons rfl (fun K hK => ?_) AllReadyH.nil)
          obtain ⟨W6, ap, hP, hG⟩ := appendAt (P := Try.prog) (Kd.int .i64) flatI 24 3 (.int .i64 0) 8 Try.underlying24 (by kernel_rfl) rfl (by decide) 24 W5 A0_3 c0_3 l0_3 g3 (Kd.C_below R3.out ((XB.out.trans (HB5.out.mono (by omega))))) F3.out
          have ZC : w.heap.size + 2 ≤ W5.heap.size := by have := HB5.out.size; have := ZB.out; omega
          have HB6 := Aside0.mk (nd_grown_below hG HB5.out ZC z3.out)
          replace P1 := Aside0.mk (P1.out.keep flat48 hG n13.out)
          replace P2 := Aside0.mk (P2.out.keep flatS hG n23.out)
          have P3 := Aside0.mk hP
          clear hP hG ZC HB5 F3
          rw [if_pos (by kernel_rfl)]
          refine oper_append_ran (.tmp 25) (.tmp 27) 24 rfl _ _ _ rfl rfl ap ?_
          simp only [Act.put, List.getElem_toArray, List.getElem_cons_zero, List.getElem_cons_succ, List.setIfInBounds_toArray, List.set_cons_zero, List.set_cons_succ]
          clear ap
          refine hK.out _ _ ?_ (fun hNew => ?_)
          · exact ⟨(HB6.out.cell (p := ⟨w.heap.size, 0, none⟩) (by show w.heap.size < _; omega)).trans B0.out, (HB6.out.cell (p := ⟨w.heap.size, 1, none⟩) (by show w.heap.size < _; omega)).trans B1.out, (HB6.out.cell (p := ⟨w.heap.size, 2, none⟩) (by show w.heap.size < _; omega)).trans B2.out, (HB6.out.cell (p := ⟨w.heap.size, 3, none⟩) (by show w.heap.size < _; omega)).trans B3.out⟩
          clear hK K hHeld
          have hHeld := hNew
          clear hNew
          refine wpAnyH_take (i := 26) (oi := _) (v := _) rfl (by kernel_rfl) (by kernel_rfl) (by kernel_rfl) (fun _ _ _ h => h) (Or.inl ⟨by rfl, by (intro w hSw; (try dsimp only at hSw); go_simp; try with_reducible rfl)⟩) hHeld ?_
          simp only [Act.put, List.getElem_toArray, List.getElem_cons_zero, List.getElem_cons_succ, List.setIfInBounds_toArray, List.set_cons_zero, List.set_cons_succ]
          refine wpAnyH_ready (rs := [27]) (by kernel_rfl) (by simp) ?_
          refine AllReadyH.cons rfl (fun K hK => ?_) AllReadyH.nil
          have t6 : W6.heap[w.heap.size + 1]? = some (.cells #[.bool false, .slice none 0 0, .slice none 0 0, .slice none 0 0] 31 (0, 0)) := (HB6.out.block _ (by omega)).trans TB.out
          have c0 : W6.cell? ⟨w.heap.size + 1, 0, none⟩ = some (.bool false) := blk_cell t6 0
          have c1 : W6.cell? ⟨w.heap.size + 1, 1, none⟩ = some (.slice none 0 0) := blk_cell t6 1
          have c2 : W6.cell? ⟨w.heap.size + 1, 2, none⟩ = some (.slice none 0 0) := blk_cell t6 2
          have c3 : W6.cell? ⟨w.heap.size + 1, 3, none⟩ = some (.slice none 0 0) := blk_cell t6 3
          have f0 : W6.frozen? ⟨w.heap.size + 1, 0, none⟩ = false := blk_frozen t6 0
          have f1 : W6.frozen? ⟨w.heap.size + 1, 1, none⟩ = false := blk_frozen t6 1
          have f2 : W6.frozen? ⟨w.heap.size + 1, 2, none⟩ = false := blk_frozen t6 2
          have f3 : W6.frozen? ⟨w.heap.size + 1, 3, none⟩ = false := blk_frozen t6 3
          go_simp
          obtain ⟨W7, e7, t7, G7⟩ := nd_set4 W6 (w.heap.size + 1) 31 _ _ _ _ (.bool a0_0) (.slice (some ⟨g1, 0, none⟩) l0_1.length (l0_1.length + 1)) (.slice (some ⟨g2, 0, none⟩) l0_2.length (l0_2.length + 1)) (.slice (some ⟨g3, 0, none⟩) l0_3.length (l0_3.length + 1)) t6
          rw [← e7]
          have HB7 := Aside0.mk (nd_grown_below G7 (XB.out.trans (HB6.out.mono (by omega))) (by have := XB.out.size; have := HB6.out.size; omega) (by omega))
          have P1' := Aside0.mk (P1.out.keep flat48 G7 (by have := z1.out; omega))
          have P2' := Aside0.mk (P2.out.keep flatS G7 (by have := z2.out; omega))
          have P3' := Aside0.mk (P3.out.keep flatI G7 (by have := z3.out; omega))
          have r0 : W7.cell? ⟨w.heap.size + 1, 0, none⟩ = some (.bool a0_0) := blk_cell t7 0
          have r1 : W7.cell? ⟨w.heap.size + 1, 1, none⟩ = some (.slice (some ⟨g1, 0, none⟩) l0_1.length (l0_1.length + 1)) := blk_cell t7 1
          have r2 : W7.cell? ⟨w.heap.size + 1, 2, none⟩ = some (.slice (some ⟨g2, 0, none⟩) l0_2.length (l0_2.length + 1)) := blk_cell t7 2
          have r3 : W7.cell? ⟨w.heap.size + 1, 3, none⟩ = some (.slice (some ⟨g3, 0, none⟩) l0_3.length (l0_3.length + 1)) := blk_cell t7 3
          refine hK.out _ _ ⟨nd_grown_cell G7 (by show w.heap.size ≠ _; omega) hHeld.1, nd_grown_cell G7 (by show w.heap.size ≠ _; omega) hHeld.2.1, nd_grown_cell G7 (by show w.heap.size ≠ _; omega) hHeld.2.2.1, nd_grown_cell G7 (by show w.heap.size ≠ _; omega) hHeld.2.2.2⟩ (fun _ => ?_)
          clear hK K hHeld e7 G7 c0 c1 c2 c3 f0 f1 f2 f3 t6 P1 P2 P3 HB6
          refine wpAnyH_done (by kernel_rfl) ?_ _
          go_wp2
          refine bodyPost_ret (results_cell_row rfl _ _ (w.heap.size + 1) 31 #[.bool a0_0, .slice (some ⟨g1, 0, none⟩) l0_1.length (l0_1.length + 1), .slice (some ⟨g2, 0, none⟩) l0_2.length (l0_2.length + 1), .slice (some ⟨g3, 0, none⟩) l0_3.length (l0_3.length + 1)] (0, 0) _ rfl t7 Try.underlying31 rfl (by kernel_rfl)) rfl ?_
          exact ⟨g1, g2, g3, rfl, by have := z1.out; omega, by have := z2.out; omega, by have := z3.out; omega, n12.out, n13.out, n23.out, P1'.out, P2'.out, P3'.out, HB7.out⟩
        · obtain ⟨g3, W4, hg, mk, hF, hG⟩ := makeIn (P := Try.prog) (Kd.int .i64) 24 3 (.int .i64 0) 8 Try.underlying24 (by kernel_rfl) rfl W3 l0_3.length H3.out (by omega)
          have ZC : w.heap.size + 2 ≤ W3.heap.size := by have := HB3.out.size; have := ZB.out; omega
          have z3 : Aside0 (w.heap.size + 2 ≤ g3) := ⟨by omega⟩
          have n13 : Aside0 (g1 ≠ g3) := ⟨by have := P1.out.lt; omega⟩
          have n23 : Aside0 (g2 ≠ g3) := ⟨by have := F2.out.lt; omega⟩
          have n31 : Aside0 (g3 ≠ g1) := ⟨Ne.symm n13.out⟩
          have n32 : Aside0 (g3 ≠ g2) := ⟨Ne.symm n23.out⟩
          have HB4 := Aside0.mk (nd_grown_below hG HB3.out ZC z3.out)
          replace P1 := Aside0.mk (P1.out.keep flat48 hG n13.out)
          replace F2 := Aside0.mk (F2.out.keep hG n23.out)
          have F3 := Aside0.mk hF
          clear hF hG hg ZC HB3
          go_simp
          clear mk
          refine hK.out _ _ ?_ (fun hNew => ?_)
          · exact ⟨(HB4.out.cell (p := ⟨w.heap.size, 0, none⟩) (by show w.heap.size < _; omega)).trans B0.out, (HB4.out.cell (p := ⟨w.heap.size, 1, none⟩) (by show w.heap.size < _; omega)).trans B1.out, (HB4.out.cell (p := ⟨w.heap.size, 2, none⟩) (by show w.heap.size < _; omega)).trans B2.out, (HB4.out.cell (p := ⟨w.heap.size, 3, none⟩) (by show w.heap.size < _; omega)).trans B3.out⟩
          clear hK K hHeld
          have hHeld := hNew
          clear hNew
          refine wpAnyH_ready (rs := [17]) (by kernel_rfl) (by simp) ?_
          refine (AllReadyH.cons rfl (fun K hK => ?_) AllReadyH.nil)
          obtain ⟨W5, ap, hP, hG⟩ := appendAt (P := Try.prog) Kd.string flatS 23 9 (.string ⟨#[]⟩) 16 Try.underlying23 (by kernel_rfl) rfl (by decide) 23 W4 A0_2 c0_2 l0_2 g2 (Kd.C_below R2.out ((XB.out.trans (HB4.out.mono (by omega))))) F2.out
          have ZC : w.heap.size + 2 ≤ W4.heap.size := by have := HB4.out.size; have := ZB.out; omega
          have HB5 := Aside0.mk (nd_grown_below hG HB4.out ZC z2.out)
          replace P1 := Aside0.mk (P1.out.keep flat48 hG n12.out)
          replace F3 := Aside0.mk (F3.out.keep hG n32.out)
          have P2 := Aside0.mk hP
          clear hP hG ZC HB4 F2
          rw [if_pos (by kernel_rfl)]
          refine oper_append_ran (.tmp 17) (.tmp 19) 23 rfl _ _ _ rfl rfl ap ?_
          simp only [Act.put, List.getElem_toArray, List.getElem_cons_zero, List.getElem_cons_succ, List.setIfInBounds_toArray, List.set_cons_zero, List.set_cons_succ]
          clear ap
          refine hK.out _ _ ?_ (fun hNew => ?_)
          · exact ⟨(HB5.out.cell (p := ⟨w.heap.size, 0, none⟩) (by show w.heap.size < _; omega)).trans B0.out, (HB5.out.cell (p := ⟨w.heap.size, 1, none⟩) (by show w.heap.size < _; omega)).trans B1.out, (HB5.out.cell (p := ⟨w.heap.size, 2, none⟩) (by show w.heap.size < _; omega)).trans B2.out, (HB5.out.cell (p := ⟨w.heap.size, 3, none⟩) (by show w.heap.size < _; omega)).trans B3.out⟩
          clear hK K hHeld
          have hHeld := hNew
          clear hNew
          refine wpAnyH_ready (rs := [25]) (by kernel_rfl) (by simp) ?_
          refine (AllReadyH.cons rfl (fun K hK => ?_) AllReadyH.nil)
          obtain ⟨W6, ap, hP, hG⟩ := appendAt (P := Try.prog) (Kd.int .i64) flatI 24 3 (.int .i64 0) 8 Try.underlying24 (by kernel_rfl) rfl (by decide) 24 W5 A0_3 c0_3 l0_3 g3 (Kd.C_below R3.out ((XB.out.trans (HB5.out.mono (by omega))))) F3.out
          have ZC : w.heap.size + 2 ≤ W5.heap.size := by have := HB5.out.size; have := ZB.out; omega
          have HB6 := Aside0.mk (nd_grown_below hG HB5.out ZC z3.out)
          replace P1 := Aside0.mk (P1.out.keep flat48 hG n13.out)
          replace P2 := Aside0.mk (P2.out.keep flatS hG n23.out)
          have P3 := Aside0.mk hP
          clear hP hG ZC HB5 F3
          rw [if_pos (by kernel_rfl)]
          refine oper_append_ran (.tmp 25) (.tmp 27) 24 rfl _ _ _ rfl rfl ap ?_
          simp only [Act.put, List.getElem_toArray, List.getElem_cons_zero, List.getElem_cons_succ, List.setIfInBounds_toArray, List.set_cons_zero, List.set_cons_succ]
          clear ap
          refine hK.out _ _ ?_ (fun hNew => ?_)
          · exact ⟨(HB6.out.cell (p := ⟨w.heap.size, 0, none⟩) (by show w.heap.size < _; omega)).trans B0.out, (HB6.out.cell (p := ⟨w.heap.size, 1, none⟩) (by show w.heap.size < _; omega)).trans B1.out, (HB6.out.cell (p := ⟨w.heap.size, 2, none⟩) (by show w.heap.size < _; omega)).trans B2.out, (HB6.out.cell (p := ⟨w.heap.size, 3, none⟩) (by show w.heap.size < _; omega)).trans B3.out⟩
          clear hK K hHeld
          have hHeld := hNew
          clear hNew
          refine wpAnyH_take (i := 26) (oi := _) (v := _) rfl (by kernel_rfl) (by kernel_rfl) (by kernel_rfl) (fun _ _ _ h => h) (Or.inl ⟨by rfl, by (intro w hSw; (try dsimp only at hSw); go_simp; try with_reducible rfl)⟩) hHeld ?_
          simp only [Act.put, List.getElem_toArray, List.getElem_cons_zero, List.getElem_cons_succ, List.setIfInBounds_toArray, List.set_cons_zero, List.set_cons_succ]
          refine wpAnyH_ready (rs := [27]) (by kernel_rfl) (by simp) ?_
          refine AllReadyH.cons rfl (fun K hK => ?_) AllReadyH.nil
          have t6 : W6.heap[w.heap.size + 1]? = some (.cells #[.bool false, .slice none 0 0, .slice none 0 0, .slice none 0 0] 31 (0, 0)) := (HB6.out.block _ (by omega)).trans TB.out
          have c0 : W6.cell? ⟨w.heap.size + 1, 0, none⟩ = some (.bool false) := blk_cell t6 0
          have c1 : W6.cell? ⟨w.heap.size + 1, 1, none⟩ = some (.slice none 0 0) := blk_cell t6 1
          have c2 : W6.cell? ⟨w.heap.size + 1, 2, none⟩ = some (.slice none 0 0) := blk_cell t6 2
          have c3 : W6.cell? ⟨w.heap.size + 1, 3, none⟩ = some (.slice none 0 0) := blk_cell t6 3
          have f0 : W6.frozen? ⟨w.heap.size + 1, 0, none⟩ = false := blk_frozen t6 0
          have f1 : W6.frozen? ⟨w.heap.size + 1, 1, none⟩ = false := blk_frozen t6 1
          have f2 : W6.frozen? ⟨w.heap.size + 1, 2, none⟩ = false := blk_frozen t6 2
          have f3 : W6.frozen? ⟨w.heap.size + 1, 3, none⟩ = false := blk_frozen t6 3
          go_simp
          obtain ⟨W7, e7, t7, G7⟩ := nd_set4 W6 (w.heap.size + 1) 31 _ _ _ _ (.bool a0_0) (.slice (some ⟨g1, 0, none⟩) l0_1.length (l0_1.length + 1)) (.slice (some ⟨g2, 0, none⟩) l0_2.length (l0_2.length + 1)) (.slice (some ⟨g3, 0, none⟩) l0_3.length (l0_3.length + 1)) t6
          rw [← e7]
          have HB7 := Aside0.mk (nd_grown_below G7 (XB.out.trans (HB6.out.mono (by omega))) (by have := XB.out.size; have := HB6.out.size; omega) (by omega))
          have P1' := Aside0.mk (P1.out.keep flat48 G7 (by have := z1.out; omega))
          have P2' := Aside0.mk (P2.out.keep flatS G7 (by have := z2.out; omega))
          have P3' := Aside0.mk (P3.out.keep flatI G7 (by have := z3.out; omega))
          have r0 : W7.cell? ⟨w.heap.size + 1, 0, none⟩ = some (.bool a0_0) := blk_cell t7 0
          have r1 : W7.cell? ⟨w.heap.size + 1, 1, none⟩ = some (.slice (some ⟨g1, 0, none⟩) l0_1.length (l0_1.length + 1)) := blk_cell t7 1
          have r2 : W7.cell? ⟨w.heap.size + 1, 2, none⟩ = some (.slice (some ⟨g2, 0, none⟩) l0_2.length (l0_2.length + 1)) := blk_cell t7 2
          have r3 : W7.cell? ⟨w.heap.size + 1, 3, none⟩ = some (.slice (some ⟨g3, 0, none⟩) l0_3.length (l0_3.length + 1)) := blk_cell t7 3
          refine hK.out _ _ ⟨nd_grown_cell G7 (by show w.heap.size ≠ _; omega) hHeld.1, nd_grown_cell G7 (by show w.heap.size ≠ _; omega) hHeld.2.1, nd_grown_cell G7 (by show w.heap.size ≠ _; omega) hHeld.2.2.1, nd_grown_cell G7 (by show w.heap.size ≠ _; omega) hHeld.2.2.2⟩ (fun _ => ?_)
          clear hK K hHeld e7 G7 c0 c1 c2 c3 f0 f1 f2 f3 t6 P1 P2 P3 HB6
          refine wpAnyH_done (by kernel_rfl) ?_ _
          go_wp2
          refine bodyPost_ret (results_cell_row rfl _ _ (w.heap.size + 1) 31 #[.bool a0_0, .slice (some ⟨g1, 0, none⟩) l0_1.length (l0_1.length + 1), .slice (some ⟨g2, 0, none⟩) l0_2.length (l0_2.length + 1), .slice (some ⟨g3, 0, none⟩) l0_3.length (l0_3.length + 1)] (0, 0) _ rfl t7 Try.underlying31 rfl (by kernel_rfl)) rfl ?_
          exact ⟨g1, g2, g3, rfl, by have := z1.out; omega, by have := z2.out; omega, by have := z3.out; omega, n12.out, n13.out, n23.out, P1'.out, P2'.out, P3'.out, HB7.out⟩
      · obtain ⟨g3, W3, hg, mk, hF, hG⟩ := makeIn (P := Try.prog) (Kd.int .i64) 24 3 (.int .i64 0) 8 Try.underlying24 (by kernel_rfl) rfl W2 l0_3.length H3.out (by omega)
        have ZC : w.heap.size + 2 ≤ W2.heap.size := by have := HB2.out.size; have := ZB.out; omega
        have z3 : Aside0 (w.heap.size + 2 ≤ g3) := ⟨by omega⟩
        have n13 : Aside0 (g1 ≠ g3) := ⟨by have := P1.out.lt; omega⟩
        have n31 : Aside0 (g3 ≠ g1) := ⟨Ne.symm n13.out⟩
        have HB3 := Aside0.mk (nd_grown_below hG HB2.out ZC z3.out)
        replace P1 := Aside0.mk (P1.out.keep flat48 hG n13.out)
        have F3 := Aside0.mk hF
        clear hF hG hg ZC HB2
        go_simp
        clear mk
        refine hK.out _ _ ?_ (fun hNew => ?_)
        · exact ⟨(HB3.out.cell (p := ⟨w.heap.size, 0, none⟩) (by show w.heap.size < _; omega)).trans B0.out, (HB3.out.cell (p := ⟨w.heap.size, 1, none⟩) (by show w.heap.size < _; omega)).trans B1.out, (HB3.out.cell (p := ⟨w.heap.size, 2, none⟩) (by show w.heap.size < _; omega)).trans B2.out, (HB3.out.cell (p := ⟨w.heap.size, 3, none⟩) (by show w.heap.size < _; omega)).trans B3.out⟩
        clear hK K hHeld
        have hHeld := hNew
        clear hNew
        refine wpAnyH_ready (rs := [14]) (by kernel_rfl) (by simp) ?_
        refine (AllReadyH.cons rfl (fun K hK => ?_) AllReadyH.nil)
        obtain ⟨g2, W4, hg, mk, hF, hG⟩ := makeIn (P := Try.prog) Kd.string 23 9 (.string ⟨#[]⟩) 16 Try.underlying23 (by kernel_rfl) rfl W3 l0_2.length H2.out (by omega)
        have ZC : w.heap.size + 2 ≤ W3.heap.size := by have := HB3.out.size; have := ZB.out; omega
        have z2 : Aside0 (w.heap.size + 2 ≤ g2) := ⟨by omega⟩
        have n12 : Aside0 (g1 ≠ g2) := ⟨by have := P1.out.lt; omega⟩
        have n32 : Aside0 (g3 ≠ g2) := ⟨by have := F3.out.lt; omega⟩
        have n21 : Aside0 (g2 ≠ g1) := ⟨Ne.symm n12.out⟩
        have n23 : Aside0 (g2 ≠ g3) := ⟨Ne.symm n32.out⟩
        have HB4 := Aside0.mk (nd_grown_below hG HB3.out ZC z2.out)
        replace P1 := Aside0.mk (P1.out.keep flat48 hG n12.out)
        replace F3 := Aside0.mk (F3.out.keep hG n32.out)
        have F2 := Aside0.mk hF
        clear hF hG hg ZC HB3
        go_simp
        clear mk
        refine hK.out _ _ ?_ (fun hNew => ?_)
        · exact ⟨(HB4.out.cell (p := ⟨w.heap.size, 0, none⟩) (by show w.heap.size < _; omega)).trans B0.out, (HB4.out.cell (p := ⟨w.heap.size, 1, none⟩) (by show w.heap.size < _; omega)).trans B1.out, (HB4.out.cell (p := ⟨w.heap.size, 2, none⟩) (by show w.heap.size < _; omega)).trans B2.out, (HB4.out.cell (p := ⟨w.heap.size, 3, none⟩) (by show w.heap.size < _; omega)).trans B3.out⟩
        clear hK K hHeld
        have hHeld := hNew
        clear hNew
        refine wpAnyH_ready (rs := [17]) (by kernel_rfl) (by simp) ?_
        refine (AllReadyH.cons rfl (fun K hK => ?_) AllReadyH.nil)
        obtain ⟨W5, ap, hP, hG⟩ := appendAt (P := Try.prog) Kd.string flatS 23 9 (.string ⟨#[]⟩) 16 Try.underlying23 (by kernel_rfl) rfl (by decide) 23 W4 A0_2 c0_2 l0_2 g2 (Kd.C_below R2.out ((XB.out.trans (HB4.out.mono (by omega))))) F2.out
        have ZC : w.heap.size + 2 ≤ W4.heap.size := by have := HB4.out.size; have := ZB.out; omega
        have HB5 := Aside0.mk (nd_grown_below hG HB4.out ZC z2.out)
        replace P1 := Aside0.mk (P1.out.keep flat48 hG n12.out)
        replace F3 := Aside0.mk (F3.out.keep hG n32.out)
        have P2 := Aside0.mk hP
        clear hP hG ZC HB4 F2
        rw [if_pos (by kernel_rfl)]
        refine oper_append_ran (.tmp 17) (.tmp 19) 23 rfl _ _ _ rfl rfl ap ?_
        simp only [Act.put, List.getElem_toArray, List.getElem_cons_zero, List.getElem_cons_succ, List.setIfInBounds_toArray, List.set_cons_zero, List.set_cons_succ]
        clear ap
        refine hK.out _ _ ?_ (fun hNew => ?_)
        · exact ⟨(HB5.out.cell (p := ⟨w.heap.size, 0, none⟩) (by show w.heap.size < _; omega)).trans B0.out, (HB5.out.cell (p := ⟨w.heap.size, 1, none⟩) (by show w.heap.size < _; omega)).trans B1.out, (HB5.out.cell (p := ⟨w.heap.size, 2, none⟩) (by show w.heap.size < _; omega)).trans B2.out, (HB5.out.cell (p := ⟨w.heap.size, 3, none⟩) (by show w.heap.size < _; omega)).trans B3.out⟩
        clear hK K hHeld
        have hHeld := hNew
        clear hNew
        refine wpAnyH_ready (rs := [25]) (by kernel_rfl) (by simp) ?_
        refine (AllReadyH.cons rfl (fun K hK => ?_) AllReadyH.nil)
        obtain ⟨W6, ap, hP, hG⟩ := appendAt (P := Try.prog) (Kd.int .i64) flatI 24 3 (.int .i64 0) 8 Try.underlying24 (by kernel_rfl) rfl (by decide) 24 W5 A0_3 c0_3 l0_3 g3 (Kd.C_below R3.out ((XB.out.trans (HB5.out.mono (by omega))))) F3.out
        have ZC : w.heap.size + 2 ≤ W5.heap.size := by have := HB5.out.size; have := ZB.out; omega
        have HB6 := Aside0.mk (nd_grown_below hG HB5.out ZC z3.out)
        replace P1 := Aside0.mk (P1.out.keep flat48 hG n13.out)
        replace P2 := Aside0.mk (P2.out.keep flatS hG n23.out)
        have P3 := Aside0.mk hP
        clear hP hG ZC HB5 F3
        rw [if_pos (by kernel_rfl)]
        refine oper_append_ran (.tmp 25) (.tmp 27) 24 rfl _ _ _ rfl rfl ap ?_
        simp only [Act.put, List.getElem_toArray, List.getElem_cons_zero, List.getElem_cons_succ, List.setIfInBounds_toArray, List.set_cons_zero, List.set_cons_succ]
        clear ap
        refine hK.out _ _ ?_ (fun hNew => ?_)
        · exact ⟨(HB6.out.cell (p := ⟨w.heap.size, 0, none⟩) (by show w.heap.size < _; omega)).trans B0.out, (HB6.out.cell (p := ⟨w.heap.size, 1, none⟩) (by show w.heap.size < _; omega)).trans B1.out, (HB6.out.cell (p := ⟨w.heap.size, 2, none⟩) (by show w.heap.size < _; omega)).trans B2.out, (HB6.out.cell (p := ⟨w.heap.size, 3, none⟩) (by show w.heap.size < _; omega)).trans B3.out⟩
        clear hK K hHeld
        have hHeld := hNew
        clear hNew
        refine wpAnyH_take (i := 26) (oi := _) (v := _) rfl (by kernel_rfl) (by kernel_rfl) (by kernel_rfl) (fun _ _ _ h => h) (Or.inl ⟨by rfl, by (intro w hSw; (try dsimp only at hSw); go_simp; try with_reducible rfl)⟩) hHeld ?_
        simp only [Act.put, List.getElem_toArray, List.getElem_cons_zero, List.getElem_cons_succ, List.setIfInBounds_toArray, List.set_cons_zero, List.set_cons_succ]
        refine wpAnyH_ready (rs := [27]) (by kernel_rfl) (by simp) ?_
        refine AllReadyH.cons rfl (fun K hK => ?_) AllReadyH.nil
        have t6 : W6.heap[w.heap.size + 1]? = some (.cells #[.bool false, .slice none 0 0, .slice none 0 0, .slice none 0 0] 31 (0, 0)) := (HB6.out.block _ (by omega)).trans TB.out
        have c0 : W6.cell? ⟨w.heap.size + 1, 0, none⟩ = some (.bool false) := blk_cell t6 0
        have c1 : W6.cell? ⟨w.heap.size + 1, 1, none⟩ = some (.slice none 0 0) := blk_cell t6 1
        have c2 : W6.cell? ⟨w.heap.size + 1, 2, none⟩ = some (.slice none 0 0) := blk_cell t6 2
        have c3 : W6.cell? ⟨w.heap.size + 1, 3, none⟩ = some (.slice none 0 0) := blk_cell t6 3
        have f0 : W6.frozen? ⟨w.heap.size + 1, 0, none⟩ = false := blk_frozen t6 0
        have f1 : W6.frozen? ⟨w.heap.size + 1, 1, none⟩ = false := blk_frozen t6 1
        have f2 : W6.frozen? ⟨w.heap.size + 1, 2, none⟩ = false := blk_frozen t6 2
        have f3 : W6.frozen? ⟨w.heap.size + 1, 3, none⟩ = false := blk_frozen t6 3
        go_simp
        obtain ⟨W7, e7, t7, G7⟩ := nd_set4 W6 (w.heap.size + 1) 31 _ _ _ _ (.bool a0_0) (.slice (some ⟨g1, 0, none⟩) l0_1.length (l0_1.length + 1)) (.slice (some ⟨g2, 0, none⟩) l0_2.length (l0_2.length + 1)) (.slice (some ⟨g3, 0, none⟩) l0_3.length (l0_3.length + 1)) t6
        rw [← e7]
        have HB7 := Aside0.mk (nd_grown_below G7 (XB.out.trans (HB6.out.mono (by omega))) (by have := XB.out.size; have := HB6.out.size; omega) (by omega))
        have P1' := Aside0.mk (P1.out.keep flat48 G7 (by have := z1.out; omega))
        have P2' := Aside0.mk (P2.out.keep flatS G7 (by have := z2.out; omega))
        have P3' := Aside0.mk (P3.out.keep flatI G7 (by have := z3.out; omega))
        have r0 : W7.cell? ⟨w.heap.size + 1, 0, none⟩ = some (.bool a0_0) := blk_cell t7 0
        have r1 : W7.cell? ⟨w.heap.size + 1, 1, none⟩ = some (.slice (some ⟨g1, 0, none⟩) l0_1.length (l0_1.length + 1)) := blk_cell t7 1
        have r2 : W7.cell? ⟨w.heap.size + 1, 2, none⟩ = some (.slice (some ⟨g2, 0, none⟩) l0_2.length (l0_2.length + 1)) := blk_cell t7 2
        have r3 : W7.cell? ⟨w.heap.size + 1, 3, none⟩ = some (.slice (some ⟨g3, 0, none⟩) l0_3.length (l0_3.length + 1)) := blk_cell t7 3
        refine hK.out _ _ ⟨nd_grown_cell G7 (by show w.heap.size ≠ _; omega) hHeld.1, nd_grown_cell G7 (by show w.heap.size ≠ _; omega) hHeld.2.1, nd_grown_cell G7 (by show w.heap.size ≠ _; omega) hHeld.2.2.1, nd_grown_cell G7 (by show w.heap.size ≠ _; omega) hHeld.2.2.2⟩ (fun _ => ?_)
        clear hK K hHeld e7 G7 c0 c1 c2 c3 f0 f1 f2 f3 t6 P1 P2 P3 HB6
        refine wpAnyH_done (by kernel_rfl) ?_ _
        go_wp2
        refine bodyPost_ret (results_cell_row rfl _ _ (w.heap.size + 1) 31 #[.bool a0_0, .slice (some ⟨g1, 0, none⟩) l0_1.length (l0_1.length + 1), .slice (some ⟨g2, 0, none⟩) l0_2.length (l0_2.length + 1), .slice (some ⟨g3, 0, none⟩) l0_3.length (l0_3.length + 1)] (0, 0) _ rfl t7 Try.underlying31 rfl (by kernel_rfl)) rfl ?_
        exact ⟨g1, g2, g3, rfl, by have := z1.out; omega, by have := z2.out; omega, by have := z3.out; omega, n12.out, n13.out, n23.out, P1'.out, P2'.out, P3'.out, HB7.out⟩
    · obtain ⟨g2, W2, hg, mk, hF, hG⟩ := makeIn (P := Try.prog) Kd.string 23 9 (.string ⟨#[]⟩) 16 Try.underlying23 (by kernel_rfl) rfl W1 l0_2.length H2.out (by omega)
      have ZC : w.heap.size + 2 ≤ W1.heap.size := by have := HB1.out.size; have := ZB.out; omega
      have z2 : Aside0 (w.heap.size + 2 ≤ g2) := ⟨by omega⟩
      have n12 : Aside0 (g1 ≠ g2) := ⟨by have := F1.out.lt; omega⟩
      have n21 : Aside0 (g2 ≠ g1) := ⟨Ne.symm n12.out⟩
      have HB2 := Aside0.mk (nd_grown_below hG HB1.out ZC z2.out)
      replace F1 := Aside0.mk (F1.out.keep hG n12.out)
      have F2 := Aside0.mk hF
      clear hF hG hg ZC HB1
      go_simp
      clear mk
      refine hK.out _ _ ?_ (fun hNew => ?_)
      · exact ⟨(HB2.out.cell (p := ⟨w.heap.size, 0, none⟩) (by show w.heap.size < _; omega)).trans B0.out, (HB2.out.cell (p := ⟨w.heap.size, 1, none⟩) (by show w.heap.size < _; omega)).trans B1.out, (HB2.out.cell (p := ⟨w.heap.size, 2, none⟩) (by show w.heap.size < _; omega)).trans B2.out, (HB2.out.cell (p := ⟨w.heap.size, 3, none⟩) (by show w.heap.size < _; omega)).trans B3.out⟩
      clear hK K hHeld
      have hHeld := hNew
      clear hNew
      refine wpAnyH_ready (rs := [9, 22]) (by kernel_rfl) (by simp) ?_
      refine (AllReadyH.cons rfl (fun K hK => ?_) (AllReadyH.cons rfl (fun K hK => ?_) AllReadyH.nil))
      · obtain ⟨W3, ap, hP, hG⟩ := appendAt (P := Try.prog) k48 flat48 22 48 (.agg #[(.string ⟨#[]⟩), (.string ⟨#[]⟩)]) 32 Try.underlying22 (by kernel_rfl) rfl (by decide) 22 W2 A0_1 c0_1 l0_1 g1 (Kd.C_below R1.out ((XB.out.trans (HB2.out.mono (by omega))))) F1.out
        have ZC : w.heap.size + 2 ≤ W2.heap.size := by have := HB2.out.size; have := ZB.out; omega
        have HB3 := Aside0.mk (nd_grown_below hG HB2.out ZC z1.out)
        replace F2 := Aside0.mk (F2.out.keep hG n21.out)
        have P1 := Aside0.mk hP
        clear hP hG ZC HB2 F1
        rw [if_pos (by kernel_rfl)]
        refine oper_append_ran (.tmp 9) (.tmp 11) 22 rfl _ _ _ rfl rfl ap ?_
        simp only [Act.put, List.getElem_toArray, List.getElem_cons_zero, List.getElem_cons_succ, List.setIfInBounds_toArray, List.set_cons_zero, List.set_cons_succ]
        clear ap
        refine hK.out _ _ ?_ (fun hNew => ?_)
        · exact ⟨(HB3.out.cell (p := ⟨w.heap.size, 0, none⟩) (by show w.heap.size < _; omega)).trans B0.out, (HB3.out.cell (p := ⟨w.heap.size, 1, none⟩) (by show w.heap.size < _; omega)).trans B1.out, (HB3.out.cell (p := ⟨w.heap.size, 2, none⟩) (by show w.heap.size < _; omega)).trans B2.out, (HB3.out.cell (p := ⟨w.heap.size, 3, none⟩) (by show w.heap.size < _; omega)).trans B3.out⟩
        clear hK K hHeld
        have hHeld := hNew
        clear hNew
        refine wpAnyH_ready (rs := [17, 22]) (by kernel_rfl) (by simp) ?_
        refine (AllReadyH.cons rfl (fun K hK => ?_) (AllReadyH.cons rfl (fun K hK => ?_) AllReadyH.nil))
        · obtain ⟨W4, ap, hP, hG⟩ := appendAt (P := Try.prog) Kd.string flatS 23 9 (.string ⟨#[]⟩) 16 Try.underlying23 (by kernel_rfl) rfl (by decide) 23 W3 A0_2 c0_2 l0_2 g2 (Kd.C_below R2.out ((XB.out.trans (HB3.out.mono (by omega))))) F2.out
          have ZC : w.heap.size + 2 ≤ W3.heap.size := by have := HB3.out.size; have := ZB.out; omega
          have HB4 := Aside0.mk (nd_grown_below hG HB3.out ZC z2.out)
          replace P1 := Aside0.mk (P1.out.keep flat48 hG n12.out)
          have P2 := Aside0.mk hP
          clear hP hG ZC HB3 F2
          rw [if_pos (by kernel_rfl)]
          refine oper_append_ran (.tmp 17) (.tmp 19) 23 rfl _ _ _ rfl rfl ap ?_
          simp only [Act.put, List.getElem_toArray, List.getElem_cons_zero, List.getElem_cons_succ, List.setIfInBounds_toArray, List.set_cons_zero, List.set_cons_succ]
          clear ap
          refine hK.out _ _ ?_ (fun hNew => ?_)
          · exact ⟨(HB4.out.cell (p := ⟨w.heap.size, 0, none⟩) (by show w.heap.size < _; omega)).trans B0.out, (HB4.out.cell (p := ⟨w.heap.size, 1, none⟩) (by show w.heap.size < _; omega)).trans B1.out, (HB4.out.cell (p := ⟨w.heap.size, 2, none⟩) (by show w.heap.size < _; omega)).trans B2.out, (HB4.out.cell (p := ⟨w.heap.size, 3, none⟩) (by show w.heap.size < _; omega)).trans B3.out⟩
          clear hK K hHeld
          have hHeld := hNew
          clear hNew
          refine wpAnyH_ready (rs := [22]) (by kernel_rfl) (by simp) ?_
          refine (AllReadyH.cons rfl (fun K hK => ?_) AllReadyH.nil)
          obtain ⟨g3, W5, hg, mk, hF, hG⟩ := makeIn (P := Try.prog) (Kd.int .i64) 24 3 (.int .i64 0) 8 Try.underlying24 (by kernel_rfl) rfl W4 l0_3.length H3.out (by omega)
          have ZC : w.heap.size + 2 ≤ W4.heap.size := by have := HB4.out.size; have := ZB.out; omega
          have z3 : Aside0 (w.heap.size + 2 ≤ g3) := ⟨by omega⟩
          have n13 : Aside0 (g1 ≠ g3) := ⟨by have := P1.out.lt; omega⟩
          have n23 : Aside0 (g2 ≠ g3) := ⟨by have := P2.out.lt; omega⟩
          have n31 : Aside0 (g3 ≠ g1) := ⟨Ne.symm n13.out⟩
          have n32 : Aside0 (g3 ≠ g2) := ⟨Ne.symm n23.out⟩
          have HB5 := Aside0.mk (nd_grown_below hG HB4.out ZC z3.out)
          replace P1 := Aside0.mk (P1.out.keep flat48 hG n13.out)
          replace P2 := Aside0.mk (P2.out.keep flatS hG n23.out)
          have F3 := Aside0.mk hF
          clear hF hG hg ZC HB4
          go_simp
          clear mk
          refine hK.out _ _ ?_ (fun hNew => ?_)
          · exact ⟨(HB5.out.cell (p := ⟨w.heap.size, 0, none⟩) (by show w.heap.size < _; omega)).trans B0.out, (HB5.out.cell (p := ⟨w.heap.size, 1, none⟩) (by show w.heap.size < _; omega)).trans B1.out, (HB5.out.cell (p := ⟨w.heap.size, 2, none⟩) (by show w.heap.size < _; omega)).trans B2.out, (HB5.out.cell (p := ⟨w.heap.size, 3, none⟩) (by show w.heap.size < _; omega)).trans B3.out⟩
          clear hK K hHeld
          have hHeld := hNew
          clear hNew
          refine wpAnyH_ready (rs := [25]) (by kernel_rfl) (by simp) ?_
          refine (AllReadyH.cons rfl (fun K hK => ?_) AllReadyH.nil)
          obtain ⟨W6, ap, hP, hG⟩ := appendAt (P := Try.prog) (Kd.int .i64) flatI 24 3 (.int .i64 0) 8 Try.underlying24 (by kernel_rfl) rfl (by decide) 24 W5 A0_3 c0_3 l0_3 g3 (Kd.C_below R3.out ((XB.out.trans (HB5.out.mono (by omega))))) F3.out
          have ZC : w.heap.size + 2 ≤ W5.heap.size := by have := HB5.out.size; have := ZB.out; omega
          have HB6 := Aside0.mk (nd_grown_below hG HB5.out ZC z3.out)
          replace P1 := Aside0.mk (P1.out.keep flat48 hG n13.out)
          replace P2 := Aside0.mk (P2.out.keep flatS hG n23.out)
          have P3 := Aside0.mk hP
          clear hP hG ZC HB5 F3
          rw [if_pos (by kernel_rfl)]
          refine oper_append_ran (.tmp 25) (.tmp 27) 24 rfl _ _ _ rfl rfl ap ?_
          simp only [Act.put, List.getElem_toArray, List.getElem_cons_zero, List.getElem_cons_succ, List.setIfInBounds_toArray, List.set_cons_zero, List.set_cons_succ]
          clear ap
          refine hK.out _ _ ?_ (fun hNew => ?_)
          · exact ⟨(HB6.out.cell (p := ⟨w.heap.size, 0, none⟩) (by show w.heap.size < _; omega)).trans B0.out, (HB6.out.cell (p := ⟨w.heap.size, 1, none⟩) (by show w.heap.size < _; omega)).trans B1.out, (HB6.out.cell (p := ⟨w.heap.size, 2, none⟩) (by show w.heap.size < _; omega)).trans B2.out, (HB6.out.cell (p := ⟨w.heap.size, 3, none⟩) (by show w.heap.size < _; omega)).trans B3.out⟩
          clear hK K hHeld
          have hHeld := hNew
          clear hNew
          refine wpAnyH_take (i := 26) (oi := _) (v := _) rfl (by kernel_rfl) (by kernel_rfl) (by kernel_rfl) (fun _ _ _ h => h) (Or.inl ⟨by rfl, by (intro w hSw; (try dsimp only at hSw); go_simp; try with_reducible rfl)⟩) hHeld ?_
          simp only [Act.put, List.getElem_toArray, List.getElem_cons_zero, List.getElem_cons_succ, List.setIfInBounds_toArray, List.set_cons_zero, List.set_cons_succ]
          refine wpAnyH_ready (rs := [27]) (by kernel_rfl) (by simp) ?_
          refine AllReadyH.cons rfl (fun K hK => ?_) AllReadyH.nil
          have t6 : W6.heap[w.heap.size + 1]? = some (.cells #[.bool false, .slice none 0 0, .slice none 0 0, .slice none 0 0] 31 (0, 0)) := (HB6.out.block _ (by omega)).trans TB.out
          have c0 : W6.cell? ⟨w.heap.size + 1, 0, none⟩ = some (.bool false) := blk_cell t6 0
          have c1 : W6.cell? ⟨w.heap.size + 1, 1, none⟩ = some (.slice none 0 0) := blk_cell t6 1
          have c2 : W6.cell? ⟨w.heap.size + 1, 2, none⟩ = some (.slice none 0 0) := blk_cell t6 2
          have c3 : W6.cell? ⟨w.heap.size + 1, 3, none⟩ = some (.slice none 0 0) := blk_cell t6 3
          have f0 : W6.frozen? ⟨w.heap.size + 1, 0, none⟩ = false := blk_frozen t6 0
          have f1 : W6.frozen? ⟨w.heap.size + 1, 1, none⟩ = false := blk_frozen t6 1
          have f2 : W6.frozen? ⟨w.heap.size + 1, 2, none⟩ = false := blk_frozen t6 2
          have f3 : W6.frozen? ⟨w.heap.size + 1, 3, none⟩ = false := blk_frozen t6 3
          go_simp
          obtain ⟨W7, e7, t7, G7⟩ := nd_set4 W6 (w.heap.size + 1) 31 _ _ _ _ (.bool a0_0) (.slice (some ⟨g1, 0, none⟩) l0_1.length (l0_1.length + 1)) (.slice (some ⟨g2, 0, none⟩) l0_2.length (l0_2.length + 1)) (.slice (some ⟨g3, 0, none⟩) l0_3.length (l0_3.length + 1)) t6
          rw [← e7]
          have HB7 := Aside0.mk (nd_grown_below G7 (XB.out.trans (HB6.out.mono (by omega))) (by have := XB.out.size; have := HB6.out.size; omega) (by omega))
          have P1' := Aside0.mk (P1.out.keep flat48 G7 (by have := z1.out; omega))
          have P2' := Aside0.mk (P2.out.keep flatS G7 (by have := z2.out; omega))
          have P3' := Aside0.mk (P3.out.keep flatI G7 (by have := z3.out; omega))
          have r0 : W7.cell? ⟨w.heap.size + 1, 0, none⟩ = some (.bool a0_0) := blk_cell t7 0
          have r1 : W7.cell? ⟨w.heap.size + 1, 1, none⟩ = some (.slice (some ⟨g1, 0, none⟩) l0_1.length (l0_1.length + 1)) := blk_cell t7 1
          have r2 : W7.cell? ⟨w.heap.size + 1, 2, none⟩ = some (.slice (some ⟨g2, 0, none⟩) l0_2.length (l0_2.length + 1)) := blk_cell t7 2
          have r3 : W7.cell? ⟨w.heap.size + 1, 3, none⟩ = some (.slice (some ⟨g3, 0, none⟩) l0_3.length (l0_3.length + 1)) := blk_cell t7 3
          refine hK.out _ _ ⟨nd_grown_cell G7 (by show w.heap.size ≠ _; omega) hHeld.1, nd_grown_cell G7 (by show w.heap.size ≠ _; omega) hHeld.2.1, nd_grown_cell G7 (by show w.heap.size ≠ _; omega) hHeld.2.2.1, nd_grown_cell G7 (by show w.heap.size ≠ _; omega) hHeld.2.2.2⟩ (fun _ => ?_)
          clear hK K hHeld e7 G7 c0 c1 c2 c3 f0 f1 f2 f3 t6 P1 P2 P3 HB6
          refine wpAnyH_done (by kernel_rfl) ?_ _
          go_wp2
          refine bodyPost_ret (results_cell_row rfl _ _ (w.heap.size + 1) 31 #[.bool a0_0, .slice (some ⟨g1, 0, none⟩) l0_1.length (l0_1.length + 1), .slice (some ⟨g2, 0, none⟩) l0_2.length (l0_2.length + 1), .slice (some ⟨g3, 0, none⟩) l0_3.length (l0_3.length + 1)] (0, 0) _ rfl t7 Try.underlying31 rfl (by kernel_rfl)) rfl ?_
          exact ⟨g1, g2, g3, rfl, by have := z1.out; omega, by have := z2.out; omega, by have := z3.out; omega, n12.out, n13.out, n23.out, P1'.out, P2'.out, P3'.out, HB7.out⟩
        · obtain ⟨g3, W4, hg, mk, hF, hG⟩ := makeIn (P := Try.prog) (Kd.int .i64) 24 3 (.int .i64 0) 8 Try.underlying24 (by kernel_rfl) rfl W3 l0_3.length H3.out (by omega)
          have ZC : w.heap.size + 2 ≤ W3.heap.size := by have := HB3.out.size; have := ZB.out; omega
          have z3 : Aside0 (w.heap.size + 2 ≤ g3) := ⟨by omega⟩
          have n13 : Aside0 (g1 ≠ g3) := ⟨by have := P1.out.lt; omega⟩
          have n23 : Aside0 (g2 ≠ g3) := ⟨by have := F2.out.lt; omega⟩
          have n31 : Aside0 (g3 ≠ g1) := ⟨Ne.symm n13.out⟩
          have n32 : Aside0 (g3 ≠ g2) := ⟨Ne.symm n23.out⟩
          have HB4 := Aside0.mk (nd_grown_below hG HB3.out ZC z3.out)
          replace P1 := Aside0.mk (P1.out.keep flat48 hG n13.out)
          replace F2 := Aside0.mk (F2.out.keep hG n23.out)
          have F3 := Aside0.mk hF
          clear hF hG hg ZC HB3
          go_simp
          clear mk
          refine hK.out _ _ ?_ (fun hNew => ?_)
          · exact ⟨(HB4.out.cell (p := ⟨w.heap.size, 0, none⟩) (by show w.heap.size < _; omega)).trans B0.out, (HB4.out.cell (p := ⟨w.heap.size, 1, none⟩) (by show w.heap.size < _; omega)).trans B1.out, (HB4.out.cell (p := ⟨w.heap.size, 2, none⟩) (by show w.heap.size < _; omega)).trans B2.out, (HB4.out.cell (p := ⟨w.heap.size, 3, none⟩) (by show w.heap.size < _; omega)).trans B3.out⟩
          clear hK K hHeld
          have hHeld := hNew
          clear hNew
          refine wpAnyH_ready (rs := [17]) (by kernel_rfl) (by simp) ?_
          refine (AllReadyH.cons rfl (fun K hK => ?_) AllReadyH.nil)
          obtain ⟨W5, ap, hP, hG⟩ := appendAt (P := Try.prog) Kd.string flatS 23 9 (.string ⟨#[]⟩) 16 Try.underlying23 (by kernel_rfl) rfl (by decide) 23 W4 A0_2 c0_2 l0_2 g2 (Kd.C_below R2.out ((XB.out.trans (HB4.out.mono (by omega))))) F2.out
          have ZC : w.heap.size + 2 ≤ W4.heap.size := by have := HB4.out.size; have := ZB.out; omega
          have HB5 := Aside0.mk (nd_grown_below hG HB4.out ZC z2.out)
          replace P1 := Aside0.mk (P1.out.keep flat48 hG n12.out)
          replace F3 := Aside0.mk (F3.out.keep hG n32.out)
          have P2 := Aside0.mk hP
          clear hP hG ZC HB4 F2
          rw [if_pos (by kernel_rfl)]
          refine oper_append_ran (.tmp 17) (.tmp 19) 23 rfl _ _ _ rfl rfl ap ?_
          simp only [Act.put, List.getElem_toArray, List.getElem_cons_zero, List.getElem_cons_succ, List.setIfInBounds_toArray, List.set_cons_zero, List.set_cons_succ]
          clear ap
          refine hK.out _ _ ?_ (fun hNew => ?_)
          · exact ⟨(HB5.out.cell (p := ⟨w.heap.size, 0, none⟩) (by show w.heap.size < _; omega)).trans B0.out, (HB5.out.cell (p := ⟨w.heap.size, 1, none⟩) (by show w.heap.size < _; omega)).trans B1.out, (HB5.out.cell (p := ⟨w.heap.size, 2, none⟩) (by show w.heap.size < _; omega)).trans B2.out, (HB5.out.cell (p := ⟨w.heap.size, 3, none⟩) (by show w.heap.size < _; omega)).trans B3.out⟩
          clear hK K hHeld
          have hHeld := hNew
          clear hNew
          refine wpAnyH_ready (rs := [25]) (by kernel_rfl) (by simp) ?_
          refine (AllReadyH.cons rfl (fun K hK => ?_) AllReadyH.nil)
          obtain ⟨W6, ap, hP, hG⟩ := appendAt (P := Try.prog) (Kd.int .i64) flatI 24 3 (.int .i64 0) 8 Try.underlying24 (by kernel_rfl) rfl (by decide) 24 W5 A0_3 c0_3 l0_3 g3 (Kd.C_below R3.out ((XB.out.trans (HB5.out.mono (by omega))))) F3.out
          have ZC : w.heap.size + 2 ≤ W5.heap.size := by have := HB5.out.size; have := ZB.out; omega
          have HB6 := Aside0.mk (nd_grown_below hG HB5.out ZC z3.out)
          replace P1 := Aside0.mk (P1.out.keep flat48 hG n13.out)
          replace P2 := Aside0.mk (P2.out.keep flatS hG n23.out)
          have P3 := Aside0.mk hP
          clear hP hG ZC HB5 F3
          rw [if_pos (by kernel_rfl)]
          refine oper_append_ran (.tmp 25) (.tmp 27) 24 rfl _ _ _ rfl rfl ap ?_
          simp only [Act.put, List.getElem_toArray, List.getElem_cons_zero, List.getElem_cons_succ, List.setIfInBounds_toArray, List.set_cons_zero, List.set_cons_succ]
          clear ap
          refine hK.out _ _ ?_ (fun hNew => ?_)
          · exact ⟨(HB6.out.cell (p := ⟨w.heap.size, 0, none⟩) (by show w.heap.size < _; omega)).trans B0.out, (HB6.out.cell (p := ⟨w.heap.size, 1, none⟩) (by show w.heap.size < _; omega)).trans B1.out, (HB6.out.cell (p := ⟨w.heap.size, 2, none⟩) (by show w.heap.size < _; omega)).trans B2.out, (HB6.out.cell (p := ⟨w.heap.size, 3, none⟩) (by show w.heap.size < _; omega)).trans B3.out⟩
          clear hK K hHeld
          have hHeld := hNew
          clear hNew
          refine wpAnyH_take (i := 26) (oi := _) (v := _) rfl (by kernel_rfl) (by kernel_rfl) (by kernel_rfl) (fun _ _ _ h => h) (Or.inl ⟨by rfl, by (intro w hSw; (try dsimp only at hSw); go_simp; try with_reducible rfl)⟩) hHeld ?_
          simp only [Act.put, List.getElem_toArray, List.getElem_cons_zero, List.getElem_cons_succ, List.setIfInBounds_toArray, List.set_cons_zero, List.set_cons_succ]
          refine wpAnyH_ready (rs := [27]) (by kernel_rfl) (by simp) ?_
          refine AllReadyH.cons rfl (fun K hK => ?_) AllReadyH.nil
          have t6 : W6.heap[w.heap.size + 1]? = some (.cells #[.bool false, .slice none 0 0, .slice none 0 0, .slice none 0 0] 31 (0, 0)) := (HB6.out.block _ (by omega)).trans TB.out
          have c0 : W6.cell? ⟨w.heap.size + 1, 0, none⟩ = some (.bool false) := blk_cell t6 0
          have c1 : W6.cell? ⟨w.heap.size + 1, 1, none⟩ = some (.slice none 0 0) := blk_cell t6 1
          have c2 : W6.cell? ⟨w.heap.size + 1, 2, none⟩ = some (.slice none 0 0) := blk_cell t6 2
          have c3 : W6.cell? ⟨w.heap.size + 1, 3, none⟩ = some (.slice none 0 0) := blk_cell t6 3
          have f0 : W6.frozen? ⟨w.heap.size + 1, 0, none⟩ = false := blk_frozen t6 0
          have f1 : W6.frozen? ⟨w.heap.size + 1, 1, none⟩ = false := blk_frozen t6 1
          have f2 : W6.frozen? ⟨w.heap.size + 1, 2, none⟩ = false := blk_frozen t6 2
          have f3 : W6.frozen? ⟨w.heap.size + 1, 3, none⟩ = false := blk_frozen t6 3
          go_simp
          obtain ⟨W7, e7, t7, G7⟩ := nd_set4 W6 (w.heap.size + 1) 31 _ _ _ _ (.bool a0_0) (.slice (some ⟨g1, 0, none⟩) l0_1.length (l0_1.length + 1)) (.slice (some ⟨g2, 0, none⟩) l0_2.length (l0_2.length + 1)) (.slice (some ⟨g3, 0, none⟩) l0_3.length (l0_3.length + 1)) t6
          rw [← e7]
          have HB7 := Aside0.mk (nd_grown_below G7 (XB.out.trans (HB6.out.mono (by omega))) (by have := XB.out.size; have := HB6.out.size; omega) (by omega))
          have P1' := Aside0.mk (P1.out.keep flat48 G7 (by have := z1.out; omega))
          have P2' := Aside0.mk (P2.out.keep flatS G7 (by have := z2.out; omega))
          have P3' := Aside0.mk (P3.out.keep flatI G7 (by have := z3.out; omega))
          have r0 : W7.cell? ⟨w.heap.size + 1, 0, none⟩ = some (.bool a0_0) := blk_cell t7 0
          have r1 : W7.cell? ⟨w.heap.size + 1, 1, none⟩ = some (.slice (some ⟨g1, 0, none⟩) l0_1.length (l0_1.length + 1)) := blk_cell t7 1
          have r2 : W7.cell? ⟨w.heap.size + 1, 2, none⟩ = some (.slice (some ⟨g2, 0, none⟩) l0_2.length (l0_2.length + 1)) := blk_cell t7 2
          have r3 : W7.cell? ⟨w.heap.size + 1, 3, none⟩ = some (.slice (some ⟨g3, 0, none⟩) l0_3.length (l0_3.length + 1)) := blk_cell t7 3
          refine hK.out _ _ ⟨nd_grown_cell G7 (by show w.heap.size ≠ _; omega) hHeld.1, nd_grown_cell G7 (by show w.heap.size ≠ _; omega) hHeld.2.1, nd_grown_cell G7 (by show w.heap.size ≠ _; omega) hHeld.2.2.1, nd_grown_cell G7 (by show w.heap.size ≠ _; omega) hHeld.2.2.2⟩ (fun _ => ?_)
          clear hK K hHeld e7 G7 c0 c1 c2 c3 f0 f1 f2 f3 t6 P1 P2 P3 HB6
          refine wpAnyH_done (by kernel_rfl) ?_ _
          go_wp2
          refine bodyPost_ret (results_cell_row rfl _ _ (w.heap.size + 1) 31 #[.bool a0_0, .slice (some ⟨g1, 0, none⟩) l0_1.length (l0_1.length + 1), .slice (some ⟨g2, 0, none⟩) l0_2.length (l0_2.length + 1), .slice (some ⟨g3, 0, none⟩) l0_3.length (l0_3.length + 1)] (0, 0) _ rfl t7 Try.underlying31 rfl (by kernel_rfl)) rfl ?_
          exact ⟨g1, g2, g3, rfl, by have := z1.out; omega, by have := z2.out; omega, by have := z3.out; omega, n12.out, n13.out, n23.out, P1'.out, P2'.out, P3'.out, HB7.out⟩
      · obtain ⟨g3, W3, hg, mk, hF, hG⟩ := makeIn (P := Try.prog) (Kd.int .i64) 24 3 (.int .i64 0) 8 Try.underlying24 (by kernel_rfl) rfl W2 l0_3.length H3.out (by omega)
        have ZC : w.heap.size + 2 ≤ W2.heap.size := by have := HB2.out.size; have := ZB.out; omega
        have z3 : Aside0 (w.heap.size + 2 ≤ g3) := ⟨by omega⟩
        have n13 : Aside0 (g1 ≠ g3) := ⟨by have := F1.out.lt; omega⟩
        have n23 : Aside0 (g2 ≠ g3) := ⟨by have := F2.out.lt; omega⟩
        have n31 : Aside0 (g3 ≠ g1) := ⟨Ne.symm n13.out⟩
        have n32 : Aside0 (g3 ≠ g2) := ⟨Ne.symm n23.out⟩
        have HB3 := Aside0.mk (nd_grown_below hG HB2.out ZC z3.out)
        replace F1 := Aside0.mk (F1.out.keep hG n13.out)
        replace F2 := Aside0.mk (F2.out.keep hG n23.out)
        have F3 := Aside0.mk hF
        clear hF hG hg ZC HB2
        go_simp
        clear mk
        refine hK.out _ _ ?_ (fun hNew => ?_)
        · exact ⟨(HB3.out.cell (p := ⟨w.heap.size, 0, none⟩) (by show w.heap.size < _; omega)).trans B0.out, (HB3.out.cell (p := ⟨w.heap.size, 1, none⟩) (by show w.heap.size < _; omega)).trans B1.out, (HB3.out.cell (p := ⟨w.heap.size, 2, none⟩) (by show w.heap.size < _; omega)).trans B2.out, (HB3.out.cell (p := ⟨w.heap.size, 3, none⟩) (by show w.heap.size < _; omega)).trans B3.out⟩
        clear hK K hHeld
        have hHeld := hNew
        clear hNew
        refine wpAnyH_ready (rs := [9]) (by kernel_rfl) (by simp) ?_
        refine (AllReadyH.cons rfl (fun K hK => ?_) AllReadyH.nil)
        obtain ⟨W4, ap, hP, hG⟩ := appendAt (P := Try.prog) k48 flat48 22 48 (.agg #[(.string ⟨#[]⟩), (.string ⟨#[]⟩)]) 32 Try.underlying22 (by kernel_rfl) rfl (by decide) 22 W3 A0_1 c0_1 l0_1 g1 (Kd.C_below R1.out ((XB.out.trans (HB3.out.mono (by omega))))) F1.out
        have ZC : w.heap.size + 2 ≤ W3.heap.size := by have := HB3.out.size; have := ZB.out; omega
        have HB4 := Aside0.mk (nd_grown_below hG HB3.out ZC z1.out)
        replace F2 := Aside0.mk (F2.out.keep hG n21.out)
        replace F3 := Aside0.mk (F3.out.keep hG n31.out)
        have P1 := Aside0.mk hP
        clear hP hG ZC HB3 F1
        rw [if_pos (by kernel_rfl)]
        refine oper_append_ran (.tmp 9) (.tmp 11) 22 rfl _ _ _ rfl rfl ap ?_
        simp only [Act.put, List.getElem_toArray, List.getElem_cons_zero, List.getElem_cons_succ, List.setIfInBounds_toArray, List.set_cons_zero, List.set_cons_succ]
        clear ap
        refine hK.out _ _ ?_ (fun hNew => ?_)
        · exact ⟨(HB4.out.cell (p := ⟨w.heap.size, 0, none⟩) (by show w.heap.size < _; omega)).trans B0.out, (HB4.out.cell (p := ⟨w.heap.size, 1, none⟩) (by show w.heap.size < _; omega)).trans B1.out, (HB4.out.cell (p := ⟨w.heap.size, 2, none⟩) (by show w.heap.size < _; omega)).trans B2.out, (HB4.out.cell (p := ⟨w.heap.size, 3, none⟩) (by show w.heap.size < _; omega)).trans B3.out⟩
        clear hK K hHeld
        have hHeld := hNew
        clear hNew
        refine wpAnyH_ready (rs := [17]) (by kernel_rfl) (by simp) ?_
        refine (AllReadyH.cons rfl (fun K hK => ?_) AllReadyH.nil)
        obtain ⟨W5, ap, hP, hG⟩ := appendAt (P := Try.prog) Kd.string flatS 23 9 (.string ⟨#[]⟩) 16 Try.underlying23 (by kernel_rfl) rfl (by decide) 23 W4 A0_2 c0_2 l0_2 g2 (Kd.C_below R2.out ((XB.out.trans (HB4.out.mono (by omega))))) F2.out
        have ZC : w.heap.size + 2 ≤ W4.heap.size := by have := HB4.out.size; have := ZB.out; omega
        have HB5 := Aside0.mk (nd_grown_below hG HB4.out ZC z2.out)
        replace P1 := Aside0.mk (P1.out.keep flat48 hG n12.out)
        replace F3 := Aside0.mk (F3.out.keep hG n32.out)
        have P2 := Aside0.mk hP
        clear hP hG ZC HB4 F2
        rw [if_pos (by kernel_rfl)]
        refine oper_append_ran (.tmp 17) (.tmp 19) 23 rfl _ _ _ rfl rfl ap ?_
        simp only [Act.put, List.getElem_toArray, List.getElem_cons_zero, List.getElem_cons_succ, List.setIfInBounds_toArray, List.set_cons_zero, List.set_cons_succ]
        clear ap
        refine hK.out _ _ ?_ (fun hNew => ?_)
        · exact ⟨(HB5.out.cell (p := ⟨w.heap.size, 0, none⟩) (by show w.heap.size < _; omega)).trans B0.out, (HB5.out.cell (p := ⟨w.heap.size, 1, none⟩) (by show w.heap.size < _; omega)).trans B1.out, (HB5.out.cell (p := ⟨w.heap.size, 2, none⟩) (by show w.heap.size < _; omega)).trans B2.out, (HB5.out.cell (p := ⟨w.heap.size, 3, none⟩) (by show w.heap.size < _; omega)).trans B3.out⟩
        clear hK K hHeld
        have hHeld := hNew
        clear hNew
        refine wpAnyH_ready (rs := [25]) (by kernel_rfl) (by simp) ?_
        refine (AllReadyH.cons rfl (fun K hK => ?_) AllReadyH.nil)
        obtain ⟨W6, ap, hP, hG⟩ := appendAt (P := Try.prog) (Kd.int .i64) flatI 24 3 (.int .i64 0) 8 Try.underlying24 (by kernel_rfl) rfl (by decide) 24 W5 A0_3 c0_3 l0_3 g3 (Kd.C_below R3.out ((XB.out.trans (HB5.out.mono (by omega))))) F3.out
        have ZC : w.heap.size + 2 ≤ W5.heap.size := by have := HB5.out.size; have := ZB.out; omega
        have HB6 := Aside0.mk (nd_grown_below hG HB5.out ZC z3.out)
        replace P1 := Aside0.mk (P1.out.keep flat48 hG n13.out)
        replace P2 := Aside0.mk (P2.out.keep flatS hG n23.out)
        have P3 := Aside0.mk hP
        clear hP hG ZC HB5 F3
        rw [if_pos (by kernel_rfl)]
        refine oper_append_ran (.tmp 25) (.tmp 27) 24 rfl _ _ _ rfl rfl ap ?_
        simp only [Act.put, List.getElem_toArray, List.getElem_cons_zero, List.getElem_cons_succ, List.setIfInBounds_toArray, List.set_cons_zero, List.set_cons_succ]
        clear ap
        refine hK.out _ _ ?_ (fun hNew => ?_)
        · exact ⟨(HB6.out.cell (p := ⟨w.heap.size, 0, none⟩) (by show w.heap.size < _; omega)).trans B0.out, (HB6.out.cell (p := ⟨w.heap.size, 1, none⟩) (by show w.heap.size < _; omega)).trans B1.out, (HB6.out.cell (p := ⟨w.heap.size, 2, none⟩) (by show w.heap.size < _; omega)).trans B2.out, (HB6.out.cell (p := ⟨w.heap.size, 3, none⟩) (by show w.heap.size < _; omega)).trans B3.out⟩
        clear hK K hHeld
        have hHeld := hNew
        clear hNew
        refine wpAnyH_take (i := 26) (oi := _) (v := _) rfl (by kernel_rfl) (by kernel_rfl) (by kernel_rfl) (fun _ _ _ h => h) (Or.inl ⟨by rfl, by (intro w hSw; (try dsimp only at hSw); go_simp; try with_reducible rfl)⟩) hHeld ?_
        simp only [Act.put, List.getElem_toArray, List.getElem_cons_zero, List.getElem_cons_succ, List.setIfInBounds_toArray, List.set_cons_zero, List.set_cons_succ]
        refine wpAnyH_ready (rs := [27]) (by kernel_rfl) (by simp) ?_
        refine AllReadyH.cons rfl (fun K hK => ?_) AllReadyH.nil
        have t6 : W6.heap[w.heap.size + 1]? = some (.cells #[.bool false, .slice none 0 0, .slice none 0 0, .slice none 0 0] 31 (0, 0)) := (HB6.out.block _ (by omega)).trans TB.out
        have c0 : W6.cell? ⟨w.heap.size + 1, 0, none⟩ = some (.bool false) := blk_cell t6 0
        have c1 : W6.cell? ⟨w.heap.size + 1, 1, none⟩ = some (.slice none 0 0) := blk_cell t6 1
        have c2 : W6.cell? ⟨w.heap.size + 1, 2, none⟩ = some (.slice none 0 0) := blk_cell t6 2
        have c3 : W6.cell? ⟨w.heap.size + 1, 3, none⟩ = some (.slice none 0 0) := blk_cell t6 3
        have f0 : W6.frozen? ⟨w.heap.size + 1, 0, none⟩ = false := blk_frozen t6 0
        have f1 : W6.frozen? ⟨w.heap.size + 1, 1, none⟩ = false := blk_frozen t6 1
        have f2 : W6.frozen? ⟨w.heap.size + 1, 2, none⟩ = false := blk_frozen t6 2
        have f3 : W6.frozen? ⟨w.heap.size + 1, 3, none⟩ = false := blk_frozen t6 3
        go_simp
        obtain ⟨W7, e7, t7, G7⟩ := nd_set4 W6 (w.heap.size + 1) 31 _ _ _ _ (.bool a0_0) (.slice (some ⟨g1, 0, none⟩) l0_1.length (l0_1.length + 1)) (.slice (some ⟨g2, 0, none⟩) l0_2.length (l0_2.length + 1)) (.slice (some ⟨g3, 0, none⟩) l0_3.length (l0_3.length + 1)) t6
        rw [← e7]
        have HB7 := Aside0.mk (nd_grown_below G7 (XB.out.trans (HB6.out.mono (by omega))) (by have := XB.out.size; have := HB6.out.size; omega) (by omega))
        have P1' := Aside0.mk (P1.out.keep flat48 G7 (by have := z1.out; omega))
        have P2' := Aside0.mk (P2.out.keep flatS G7 (by have := z2.out; omega))
        have P3' := Aside0.mk (P3.out.keep flatI G7 (by have := z3.out; omega))
        have r0 : W7.cell? ⟨w.heap.size + 1, 0, none⟩ = some (.bool a0_0) := blk_cell t7 0
        have r1 : W7.cell? ⟨w.heap.size + 1, 1, none⟩ = some (.slice (some ⟨g1, 0, none⟩) l0_1.length (l0_1.length + 1)) := blk_cell t7 1
        have r2 : W7.cell? ⟨w.heap.size + 1, 2, none⟩ = some (.slice (some ⟨g2, 0, none⟩) l0_2.length (l0_2.length + 1)) := blk_cell t7 2
        have r3 : W7.cell? ⟨w.heap.size + 1, 3, none⟩ = some (.slice (some ⟨g3, 0, none⟩) l0_3.length (l0_3.length + 1)) := blk_cell t7 3
        refine hK.out _ _ ⟨nd_grown_cell G7 (by show w.heap.size ≠ _; omega) hHeld.1, nd_grown_cell G7 (by show w.heap.size ≠ _; omega) hHeld.2.1, nd_grown_cell G7 (by show w.heap.size ≠ _; omega) hHeld.2.2.1, nd_grown_cell G7 (by show w.heap.size ≠ _; omega) hHeld.2.2.2⟩ (fun _ => ?_)
        clear hK K hHeld e7 G7 c0 c1 c2 c3 f0 f1 f2 f3 t6 P1 P2 P3 HB6
        refine wpAnyH_done (by kernel_rfl) ?_ _
        go_wp2
        refine bodyPost_ret (results_cell_row rfl _ _ (w.heap.size + 1) 31 #[.bool a0_0, .slice (some ⟨g1, 0, none⟩) l0_1.length (l0_1.length + 1), .slice (some ⟨g2, 0, none⟩) l0_2.length (l0_2.length + 1), .slice (some ⟨g3, 0, none⟩) l0_3.length (l0_3.length + 1)] (0, 0) _ rfl t7 Try.underlying31 rfl (by kernel_rfl)) rfl ?_
        exact ⟨g1, g2, g3, rfl, by have := z1.out; omega, by have := z2.out; omega, by have := z3.out; omega, n12.out, n13.out, n23.out, P1'.out, P2'.out, P3'.out, HB7.out⟩
    · obtain ⟨g3, W2, hg, mk, hF, hG⟩ := makeIn (P := Try.prog) (Kd.int .i64) 24 3 (.int .i64 0) 8 Try.underlying24 (by kernel_rfl) rfl W1 l0_3.length H3.out (by omega)
      have ZC : w.heap.size + 2 ≤ W1.heap.size := by have := HB1.out.size; have := ZB.out; omega
      have z3 : Aside0 (w.heap.size + 2 ≤ g3) := ⟨by omega⟩
      have n13 : Aside0 (g1 ≠ g3) := ⟨by have := F1.out.lt; omega⟩
      have n31 : Aside0 (g3 ≠ g1) := ⟨Ne.symm n13.out⟩
      have HB2 := Aside0.mk (nd_grown_below hG HB1.out ZC z3.out)
      replace F1 := Aside0.mk (F1.out.keep hG n13.out)
      have F3 := Aside0.mk hF
      clear hF hG hg ZC HB1
      go_simp
      clear mk
      refine hK.out _ _ ?_ (fun hNew => ?_)
      · exact ⟨(HB2.out.cell (p := ⟨w.heap.size, 0, none⟩) (by show w.heap.size < _; omega)).trans B0.out, (HB2.out.cell (p := ⟨w.heap.size, 1, none⟩) (by show w.heap.size < _; omega)).trans B1.out, (HB2.out.cell (p := ⟨w.heap.size, 2, none⟩) (by show w.heap.size < _; omega)).trans B2.out, (HB2.out.cell (p := ⟨w.heap.size, 3, none⟩) (by show w.heap.size < _; omega)).trans B3.out⟩
      clear hK K hHeld
      have hHeld := hNew
      clear hNew
      refine wpAnyH_ready (rs := [9, 14]) (by kernel_rfl) (by simp) ?_
      refine (AllReadyH.cons rfl (fun K hK => ?_) (AllReadyH.cons rfl (fun K hK => ?_) AllReadyH.nil))
      · obtain ⟨W3, ap, hP, hG⟩ := appendAt (P := Try.prog) k48 flat48 22 48 (.agg #[(.string ⟨#[]⟩), (.string ⟨#[]⟩)]) 32 Try.underlying22 (by kernel_rfl) rfl (by decide) 22 W2 A0_1 c0_1 l0_1 g1 (Kd.C_below R1.out ((XB.out.trans (HB2.out.mono (by omega))))) F1.out
        have ZC : w.heap.size + 2 ≤ W2.heap.size := by have := HB2.out.size; have := ZB.out; omega
        have HB3 := Aside0.mk (nd_grown_below hG HB2.out ZC z1.out)
        replace F3 := Aside0.mk (F3.out.keep hG n31.out)
        have P1 := Aside0.mk hP
        clear hP hG ZC HB2 F1
        rw [if_pos (by kernel_rfl)]
        refine oper_append_ran (.tmp 9) (.tmp 11) 22 rfl _ _ _ rfl rfl ap ?_
        simp only [Act.put, List.getElem_toArray, List.getElem_cons_zero, List.getElem_cons_succ, List.setIfInBounds_toArray, List.set_cons_zero, List.set_cons_succ]
        clear ap
        refine hK.out _ _ ?_ (fun hNew => ?_)
        · exact ⟨(HB3.out.cell (p := ⟨w.heap.size, 0, none⟩) (by show w.heap.size < _; omega)).trans B0.out, (HB3.out.cell (p := ⟨w.heap.size, 1, none⟩) (by show w.heap.size < _; omega)).trans B1.out, (HB3.out.cell (p := ⟨w.heap.size, 2, none⟩) (by show w.heap.size < _; omega)).trans B2.out, (HB3.out.cell (p := ⟨w.heap.size, 3, none⟩) (by show w.heap.size < _; omega)).trans B3.out⟩
        clear hK K hHeld
        have hHeld := hNew
        clear hNew
        refine wpAnyH_ready (rs := [14]) (by kernel_rfl) (by simp) ?_
        refine (AllReadyH.cons rfl (fun K hK => ?_) AllReadyH.nil)
        obtain ⟨g2, W4, hg, mk, hF, hG⟩ := makeIn (P := Try.prog) Kd.string 23 9 (.string ⟨#[]⟩) 16 Try.underlying23 (by kernel_rfl) rfl W3 l0_2.length H2.out (by omega)
        have ZC : w.heap.size + 2 ≤ W3.heap.size := by have := HB3.out.size; have := ZB.out; omega
        have z2 : Aside0 (w.heap.size + 2 ≤ g2) := ⟨by omega⟩
        have n12 : Aside0 (g1 ≠ g2) := ⟨by have := P1.out.lt; omega⟩
        have n32 : Aside0 (g3 ≠ g2) := ⟨by have := F3.out.lt; omega⟩
        have n21 : Aside0 (g2 ≠ g1) := ⟨Ne.symm n12.out⟩
        have n23 : Aside0 (g2 ≠ g3) := ⟨Ne.symm n32.out⟩
        have HB4 := Aside0.mk (nd_grown_below hG HB3.out ZC z2.out)
        replace P1 := Aside0.mk (P1.out.keep flat48 hG n12.out)
        replace F3 := Aside0.mk (F3.out.keep hG n32.out)
        have F2 := Aside0.mk hF
        clear hF hG hg ZC HB3
        go_simp
        clear mk
        refine hK.out _ _ ?_ (fun hNew => ?_)
        · exact ⟨(HB4.out.cell (p := ⟨w.heap.size, 0, none⟩) (by show w.heap.size < _; omega)).trans B0.out, (HB4.out.cell (p := ⟨w.heap.size, 1, none⟩) (by show w.heap.size < _; omega)).trans B1.out, (HB4.out.cell (p := ⟨w.heap.size, 2, none⟩) (by show w.heap.size < _; omega)).trans B2.out, (HB4.out.cell (p := ⟨w.heap.size, 3, none⟩) (by show w.heap.size < _; omega)).trans B3.out⟩
        clear hK K hHeld
        have hHeld := hNew
        clear hNew
        refine wpAnyH_ready (rs := [17]) (by kernel_rfl) (by simp) ?_
        refine (AllReadyH.cons rfl (fun K hK => ?_) AllReadyH.nil)
        obtain ⟨W5, ap, hP, hG⟩ := appendAt (P := Try.prog) Kd.string flatS 23 9 (.string ⟨#[]⟩) 16 Try.underlying23 (by kernel_rfl) rfl (by decide) 23 W4 A0_2 c0_2 l0_2 g2 (Kd.C_below R2.out ((XB.out.trans (HB4.out.mono (by omega))))) F2.out
        have ZC : w.heap.size + 2 ≤ W4.heap.size := by have := HB4.out.size; have := ZB.out; omega
        have HB5 := Aside0.mk (nd_grown_below hG HB4.out ZC z2.out)
        replace P1 := Aside0.mk (P1.out.keep flat48 hG n12.out)
        replace F3 := Aside0.mk (F3.out.keep hG n32.out)
        have P2 := Aside0.mk hP
        clear hP hG ZC HB4 F2
        rw [if_pos (by kernel_rfl)]
        refine oper_append_ran (.tmp 17) (.tmp 19) 23 rfl _ _ _ rfl rfl ap ?_
        simp only [Act.put, List.getElem_toArray, List.getElem_cons_zero, List.getElem_cons_succ, List.setIfInBounds_toArray, List.set_cons_zero, List.set_cons_succ]
        clear ap
        refine hK.out _ _ ?_ (fun hNew => ?_)
        · exact ⟨(HB5.out.cell (p := ⟨w.heap.size, 0, none⟩) (by show w.heap.size < _; omega)).trans B0.out, (HB5.out.cell (p := ⟨w.heap.size, 1, none⟩) (by show w.heap.size < _; omega)).trans B1.out, (HB5.out.cell (p := ⟨w.heap.size, 2, none⟩) (by show w.heap.size < _; omega)).trans B2.out, (HB5.out.cell (p := ⟨w.heap.size, 3, none⟩) (by show w.heap.size < _; omega)).trans B3.out⟩
        clear hK K hHeld
        have hHeld := hNew
        clear hNew
        refine wpAnyH_ready (rs := [25]) (by kernel_rfl) (by simp) ?_
        refine (AllReadyH.cons rfl (fun K hK => ?_) AllReadyH.nil)
        obtain ⟨W6, ap, hP, hG⟩ := appendAt (P := Try.prog) (Kd.int .i64) flatI 24 3 (.int .i64 0) 8 Try.underlying24 (by kernel_rfl) rfl (by decide) 24 W5 A0_3 c0_3 l0_3 g3 (Kd.C_below R3.out ((XB.out.trans (HB5.out.mono (by omega))))) F3.out
        have ZC : w.heap.size + 2 ≤ W5.heap.size := by have := HB5.out.size; have := ZB.out; omega
        have HB6 := Aside0.mk (nd_grown_below hG HB5.out ZC z3.out)
        replace P1 := Aside0.mk (P1.out.keep flat48 hG n13.out)
        replace P2 := Aside0.mk (P2.out.keep flatS hG n23.out)
        have P3 := Aside0.mk hP
        clear hP hG ZC HB5 F3
        rw [if_pos (by kernel_rfl)]
        refine oper_append_ran (.tmp 25) (.tmp 27) 24 rfl _ _ _ rfl rfl ap ?_
        simp only [Act.put, List.getElem_toArray, List.getElem_cons_zero, List.getElem_cons_succ, List.setIfInBounds_toArray, List.set_cons_zero, List.set_cons_succ]
        clear ap
        refine hK.out _ _ ?_ (fun hNew => ?_)
        · exact ⟨(HB6.out.cell (p := ⟨w.heap.size, 0, none⟩) (by show w.heap.size < _; omega)).trans B0.out, (HB6.out.cell (p := ⟨w.heap.size, 1, none⟩) (by show w.heap.size < _; omega)).trans B1.out, (HB6.out.cell (p := ⟨w.heap.size, 2, none⟩) (by show w.heap.size < _; omega)).trans B2.out, (HB6.out.cell (p := ⟨w.heap.size, 3, none⟩) (by show w.heap.size < _; omega)).trans B3.out⟩
        clear hK K hHeld
        have hHeld := hNew
        clear hNew
        refine wpAnyH_take (i := 26) (oi := _) (v := _) rfl (by kernel_rfl) (by kernel_rfl) (by kernel_rfl) (fun _ _ _ h => h) (Or.inl ⟨by rfl, by (intro w hSw; (try dsimp only at hSw); go_simp; try with_reducible rfl)⟩) hHeld ?_
        simp only [Act.put, List.getElem_toArray, List.getElem_cons_zero, List.getElem_cons_succ, List.setIfInBounds_toArray, List.set_cons_zero, List.set_cons_succ]
        refine wpAnyH_ready (rs := [27]) (by kernel_rfl) (by simp) ?_
        refine AllReadyH.cons rfl (fun K hK => ?_) AllReadyH.nil
        have t6 : W6.heap[w.heap.size + 1]? = some (.cells #[.bool false, .slice none 0 0, .slice none 0 0, .slice none 0 0] 31 (0, 0)) := (HB6.out.block _ (by omega)).trans TB.out
        have c0 : W6.cell? ⟨w.heap.size + 1, 0, none⟩ = some (.bool false) := blk_cell t6 0
        have c1 : W6.cell? ⟨w.heap.size + 1, 1, none⟩ = some (.slice none 0 0) := blk_cell t6 1
        have c2 : W6.cell? ⟨w.heap.size + 1, 2, none⟩ = some (.slice none 0 0) := blk_cell t6 2
        have c3 : W6.cell? ⟨w.heap.size + 1, 3, none⟩ = some (.slice none 0 0) := blk_cell t6 3
        have f0 : W6.frozen? ⟨w.heap.size + 1, 0, none⟩ = false := blk_frozen t6 0
        have f1 : W6.frozen? ⟨w.heap.size + 1, 1, none⟩ = false := blk_frozen t6 1
        have f2 : W6.frozen? ⟨w.heap.size + 1, 2, none⟩ = false := blk_frozen t6 2
        have f3 : W6.frozen? ⟨w.heap.size + 1, 3, none⟩ = false := blk_frozen t6 3
        go_simp
        obtain ⟨W7, e7, t7, G7⟩ := nd_set4 W6 (w.heap.size + 1) 31 _ _ _ _ (.bool a0_0) (.slice (some ⟨g1, 0, none⟩) l0_1.length (l0_1.length + 1)) (.slice (some ⟨g2, 0, none⟩) l0_2.length (l0_2.length + 1)) (.slice (some ⟨g3, 0, none⟩) l0_3.length (l0_3.length + 1)) t6
        rw [← e7]
        have HB7 := Aside0.mk (nd_grown_below G7 (XB.out.trans (HB6.out.mono (by omega))) (by have := XB.out.size; have := HB6.out.size; omega) (by omega))
        have P1' := Aside0.mk (P1.out.keep flat48 G7 (by have := z1.out; omega))
        have P2' := Aside0.mk (P2.out.keep flatS G7 (by have := z2.out; omega))
        have P3' := Aside0.mk (P3.out.keep flatI G7 (by have := z3.out; omega))
        have r0 : W7.cell? ⟨w.heap.size + 1, 0, none⟩ = some (.bool a0_0) := blk_cell t7 0
        have r1 : W7.cell? ⟨w.heap.size + 1, 1, none⟩ = some (.slice (some ⟨g1, 0, none⟩) l0_1.length (l0_1.length + 1)) := blk_cell t7 1
        have r2 : W7.cell? ⟨w.heap.size + 1, 2, none⟩ = some (.slice (some ⟨g2, 0, none⟩) l0_2.length (l0_2.length + 1)) := blk_cell t7 2
        have r3 : W7.cell? ⟨w.heap.size + 1, 3, none⟩ = some (.slice (some ⟨g3, 0, none⟩) l0_3.length (l0_3.length + 1)) := blk_cell t7 3
        refine hK.out _ _ ⟨nd_grown_cell G7 (by show w.heap.size ≠ _; omega) hHeld.1, nd_grown_cell G7 (by show w.heap.size ≠ _; omega) hHeld.2.1, nd_grown_cell G7 (by show w.heap.size ≠ _; omega) hHeld.2.2.1, nd_grown_cell G7 (by show w.heap.size ≠ _; omega) hHeld.2.2.2⟩ (fun _ => ?_)
        clear hK K hHeld e7 G7 c0 c1 c2 c3 f0 f1 f2 f3 t6 P1 P2 P3 HB6
        refine wpAnyH_done (by kernel_rfl) ?_ _
        go_wp2
        refine bodyPost_ret (results_cell_row rfl _ _ (w.heap.size + 1) 31 #[.bool a0_0, .slice (some ⟨g1, 0, none⟩) l0_1.length (l0_1.length + 1), .slice (some ⟨g2, 0, none⟩) l0_2.length (l0_2.length + 1), .slice (some ⟨g3, 0, none⟩) l0_3.length (l0_3.length + 1)] (0, 0) _ rfl t7 Try.underlying31 rfl (by kernel_rfl)) rfl ?_
        exact ⟨g1, g2, g3, rfl, by have := z1.out; omega, by have := z2.out; omega, by have := z3.out; omega, n12.out, n13.out, n23.out, P1'.out, P2'.out, P3'.out, HB7.out⟩
      · obtain ⟨g2, W3, hg, mk, hF, hG⟩ := makeIn (P := Try.prog) Kd.string 23 9 (.string ⟨#[]⟩) 16 Try.underlying23 (by kernel_rfl) rfl W2 l0_2.length H2.out (by omega)
        have ZC : w.heap.size + 2 ≤ W2.heap.size := by have := HB2.out.size; have := ZB.out; omega
        have z2 : Aside0 (w.heap.size + 2 ≤ g2) := ⟨by omega⟩
        have n12 : Aside0 (g1 ≠ g2) := ⟨by have := F1.out.lt; omega⟩
        have n32 : Aside0 (g3 ≠ g2) := ⟨by have := F3.out.lt; omega⟩
        have n21 : Aside0 (g2 ≠ g1) := ⟨Ne.symm n12.out⟩
        have n23 : Aside0 (g2 ≠ g3) := ⟨Ne.symm n32.out⟩
        have HB3 := Aside0.mk (nd_grown_below hG HB2.out ZC z2.out)
        replace F1 := Aside0.mk (F1.out.keep hG n12.out)
        replace F3 := Aside0.mk (F3.out.keep hG n32.out)
        have F2 := Aside0.mk hF
        clear hF hG hg ZC HB2
        go_simp
        clear mk
        refine hK.out _ _ ?_ (fun hNew => ?_)
        · exact ⟨(HB3.out.cell (p := ⟨w.heap.size, 0, none⟩) (by show w.heap.size < _; omega)).trans B0.out, (HB3.out.cell (p := ⟨w.heap.size, 1, none⟩) (by show w.heap.size < _; omega)).trans B1.out, (HB3.out.cell (p := ⟨w.heap.size, 2, none⟩) (by show w.heap.size < _; omega)).trans B2.out, (HB3.out.cell (p := ⟨w.heap.size, 3, none⟩) (by show w.heap.size < _; omega)).trans B3.out⟩
        clear hK K hHeld
        have hHeld := hNew
        clear hNew
        refine wpAnyH_ready (rs := [9]) (by kernel_rfl) (by simp) ?_
        refine (AllReadyH.cons rfl (fun K hK => ?_) AllReadyH.nil)
        obtain ⟨W4, ap, hP, hG⟩ := appendAt (P := Try.prog) k48 flat48 22 48 (.agg #[(.string ⟨#[]⟩), (.string ⟨#[]⟩)]) 32 Try.underlying22 (by kernel_rfl) rfl (by decide) 22 W3 A0_1 c0_1 l0_1 g1 (Kd.C_below R1.out ((XB.out.trans (HB3.out.mono (by omega))))) F1.out
        have ZC : w.heap.size + 2 ≤ W3.heap.size := by have := HB3.out.size; have := ZB.out; omega
        have HB4 := Aside0.mk (nd_grown_below hG HB3.out ZC z1.out)
        replace F2 := Aside0.mk (F2.out.keep hG n21.out)
        replace F3 := Aside0.mk (F3.out.keep hG n31.out)
        have P1 := Aside0.mk hP
        clear hP hG ZC HB3 F1
        rw [if_pos (by kernel_rfl)]
        refine oper_append_ran (.tmp 9) (.tmp 11) 22 rfl _ _ _ rfl rfl ap ?_
        simp only [Act.put, List.getElem_toArray, List.getElem_cons_zero, List.getElem_cons_succ, List.setIfInBounds_toArray, List.set_cons_zero, List.set_cons_succ]
        clear ap
        refine hK.out _ _ ?_ (fun hNew => ?_)
        · exact ⟨(HB4.out.cell (p := ⟨w.heap.size, 0, none⟩) (by show w.heap.size < _; omega)).trans B0.out, (HB4.out.cell (p := ⟨w.heap.size, 1, none⟩) (by show w.heap.size < _; omega)).trans B1.out, (HB4.out.cell (p := ⟨w.heap.size, 2, none⟩) (by show w.heap.size < _; omega)).trans B2.out, (HB4.out.cell (p := ⟨w.heap.size, 3, none⟩) (by show w.heap.size < _; omega)).trans B3.out⟩
        clear hK K hHeld
        have hHeld := hNew
        clear hNew
        refine wpAnyH_ready (rs := [17]) (by kernel_rfl) (by simp) ?_
        refine (AllReadyH.cons rfl (fun K hK => ?_) AllReadyH.nil)
        obtain ⟨W5, ap, hP, hG⟩ := appendAt (P := Try.prog) Kd.string flatS 23 9 (.string ⟨#[]⟩) 16 Try.underlying23 (by kernel_rfl) rfl (by decide) 23 W4 A0_2 c0_2 l0_2 g2 (Kd.C_below R2.out ((XB.out.trans (HB4.out.mono (by omega))))) F2.out
        have ZC : w.heap.size + 2 ≤ W4.heap.size := by have := HB4.out.size; have := ZB.out; omega
        have HB5 := Aside0.mk (nd_grown_below hG HB4.out ZC z2.out)
        replace P1 := Aside0.mk (P1.out.keep flat48 hG n12.out)
        replace F3 := Aside0.mk (F3.out.keep hG n32.out)
        have P2 := Aside0.mk hP
        clear hP hG ZC HB4 F2
        rw [if_pos (by kernel_rfl)]
        refine oper_append_ran (.tmp 17) (.tmp 19) 23 rfl _ _ _ rfl rfl ap ?_
        simp only [Act.put, List.getElem_toArray, List.getElem_cons_zero, List.getElem_cons_succ, List.setIfInBounds_toArray, List.set_cons_zero, List.set_cons_succ]
        clear ap
        refine hK.out _ _ ?_ (fun hNew => ?_)
        · exact ⟨(HB5.out.cell (p := ⟨w.heap.size, 0, none⟩) (by show w.heap.size < _; omega)).trans B0.out, (HB5.out.cell (p := ⟨w.heap.size, 1, none⟩) (by show w.heap.size < _; omega)).trans B1.out, (HB5.out.cell (p := ⟨w.heap.size, 2, none⟩) (by show w.heap.size < _; omega)).trans B2.out, (HB5.out.cell (p := ⟨w.heap.size, 3, none⟩) (by show w.heap.size < _; omega)).trans B3.out⟩
        clear hK K hHeld
        have hHeld := hNew
        clear hNew
        refine wpAnyH_ready (rs := [25]) (by kernel_rfl) (by simp) ?_
        refine (AllReadyH.cons rfl (fun K hK => ?_) AllReadyH.nil)
        obtain ⟨W6, ap, hP, hG⟩ := appendAt (P := Try.prog) (Kd.int .i64) flatI 24 3 (.int .i64 0) 8 Try.underlying24 (by kernel_rfl) rfl (by decide) 24 W5 A0_3 c0_3 l0_3 g3 (Kd.C_below R3.out ((XB.out.trans (HB5.out.mono (by omega))))) F3.out
        have ZC : w.heap.size + 2 ≤ W5.heap.size := by have := HB5.out.size; have := ZB.out; omega
        have HB6 := Aside0.mk (nd_grown_below hG HB5.out ZC z3.out)
        replace P1 := Aside0.mk (P1.out.keep flat48 hG n13.out)
        replace P2 := Aside0.mk (P2.out.keep flatS hG n23.out)
        have P3 := Aside0.mk hP
        clear hP hG ZC HB5 F3
        rw [if_pos (by kernel_rfl)]
        refine oper_append_ran (.tmp 25) (.tmp 27) 24 rfl _ _ _ rfl rfl ap ?_
        simp only [Act.put, List.getElem_toArray, List.getElem_cons_zero, List.getElem_cons_succ, List.setIfInBounds_toArray, List.set_cons_zero, List.set_cons_succ]
        clear ap
        refine hK.out _ _ ?_ (fun hNew => ?_)
        · exact ⟨(HB6.out.cell (p := ⟨w.heap.size, 0, none⟩) (by show w.heap.size < _; omega)).trans B0.out, (HB6.out.cell (p := ⟨w.heap.size, 1, none⟩) (by show w.heap.size < _; omega)).trans B1.out, (HB6.out.cell (p := ⟨w.heap.size, 2, none⟩) (by show w.heap.size < _; omega)).trans B2.out, (HB6.out.cell (p := ⟨w.heap.size, 3, none⟩) (by show w.heap.size < _; omega)).trans B3.out⟩
        clear hK K hHeld
        have hHeld := hNew
        clear hNew
        refine wpAnyH_take (i := 26) (oi := _) (v := _) rfl (by kernel_rfl) (by kernel_rfl) (by kernel_rfl) (fun _ _ _ h => h) (Or.inl ⟨by rfl, by (intro w hSw; (try dsimp only at hSw); go_simp; try with_reducible rfl)⟩) hHeld ?_
        simp only [Act.put, List.getElem_toArray, List.getElem_cons_zero, List.getElem_cons_succ, List.setIfInBounds_toArray, List.set_cons_zero, List.set_cons_succ]
        refine wpAnyH_ready (rs := [27]) (by kernel_rfl) (by simp) ?_
        refine AllReadyH.cons rfl (fun K hK => ?_) AllReadyH.nil
        have t6 : W6.heap[w.heap.size + 1]? = some (.cells #[.bool false, .slice none 0 0, .slice none 0 0, .slice none 0 0] 31 (0, 0)) := (HB6.out.block _ (by omega)).trans TB.out
        have c0 : W6.cell? ⟨w.heap.size + 1, 0, none⟩ = some (.bool false) := blk_cell t6 0
        have c1 : W6.cell? ⟨w.heap.size + 1, 1, none⟩ = some (.slice none 0 0) := blk_cell t6 1
        have c2 : W6.cell? ⟨w.heap.size + 1, 2, none⟩ = some (.slice none 0 0) := blk_cell t6 2
        have c3 : W6.cell? ⟨w.heap.size + 1, 3, none⟩ = some (.slice none 0 0) := blk_cell t6 3
        have f0 : W6.frozen? ⟨w.heap.size + 1, 0, none⟩ = false := blk_frozen t6 0
        have f1 : W6.frozen? ⟨w.heap.size + 1, 1, none⟩ = false := blk_frozen t6 1
        have f2 : W6.frozen? ⟨w.heap.size + 1, 2, none⟩ = false := blk_frozen t6 2
        have f3 : W6.frozen? ⟨w.heap.size + 1, 3, none⟩ = false := blk_frozen t6 3
        go_simp
        obtain ⟨W7, e7, t7, G7⟩ := nd_set4 W6 (w.heap.size + 1) 31 _ _ _ _ (.bool a0_0) (.slice (some ⟨g1, 0, none⟩) l0_1.length (l0_1.length + 1)) (.slice (some ⟨g2, 0, none⟩) l0_2.length (l0_2.length + 1)) (.slice (some ⟨g3, 0, none⟩) l0_3.length (l0_3.length + 1)) t6
        rw [← e7]
        have HB7 := Aside0.mk (nd_grown_below G7 (XB.out.trans (HB6.out.mono (by omega))) (by have := XB.out.size; have := HB6.out.size; omega) (by omega))
        have P1' := Aside0.mk (P1.out.keep flat48 G7 (by have := z1.out; omega))
        have P2' := Aside0.mk (P2.out.keep flatS G7 (by have := z2.out; omega))
        have P3' := Aside0.mk (P3.out.keep flatI G7 (by have := z3.out; omega))
        have r0 : W7.cell? ⟨w.heap.size + 1, 0, none⟩ = some (.bool a0_0) := blk_cell t7 0
        have r1 : W7.cell? ⟨w.heap.size + 1, 1, none⟩ = some (.slice (some ⟨g1, 0, none⟩) l0_1.length (l0_1.length + 1)) := blk_cell t7 1
        have r2 : W7.cell? ⟨w.heap.size + 1, 2, none⟩ = some (.slice (some ⟨g2, 0, none⟩) l0_2.length (l0_2.length + 1)) := blk_cell t7 2
        have r3 : W7.cell? ⟨w.heap.size + 1, 3, none⟩ = some (.slice (some ⟨g3, 0, none⟩) l0_3.length (l0_3.length + 1)) := blk_cell t7 3
        refine hK.out _ _ ⟨nd_grown_cell G7 (by show w.heap.size ≠ _; omega) hHeld.1, nd_grown_cell G7 (by show w.heap.size ≠ _; omega) hHeld.2.1, nd_grown_cell G7 (by show w.heap.size ≠ _; omega) hHeld.2.2.1, nd_grown_cell G7 (by show w.heap.size ≠ _; omega) hHeld.2.2.2⟩ (fun _ => ?_)
        clear hK K hHeld e7 G7 c0 c1 c2 c3 f0 f1 f2 f3 t6 P1 P2 P3 HB6
        refine wpAnyH_done (by kernel_rfl) ?_ _
        go_wp2
        refine bodyPost_ret (results_cell_row rfl _ _ (w.heap.size + 1) 31 #[.bool a0_0, .slice (some ⟨g1, 0, none⟩) l0_1.length (l0_1.length + 1), .slice (some ⟨g2, 0, none⟩) l0_2.length (l0_2.length + 1), .slice (some ⟨g3, 0, none⟩) l0_3.length (l0_3.length + 1)] (0, 0) _ rfl t7 Try.underlying31 rfl (by kernel_rfl)) rfl ?_
        exact ⟨g1, g2, g3, rfl, by have := z1.out; omega, by have := z2.out; omega, by have := z3.out; omega, n12.out, n13.out, n23.out, P1'.out, P2'.out, P3'.out, HB7.out⟩
  · obtain ⟨g2, W1, hg, mk, hF, hG⟩ := makeIn (P := Try.prog) Kd.string 23 9 (.string ⟨#[]⟩) 16 Try.underlying23 (by kernel_rfl) rfl W0 l0_2.length H2.out (by omega)
    have ZC : w.heap.size + 2 ≤ W0.heap.size := by have := HB0.out.size; have := ZB.out; omega
    have z2 : Aside0 (w.heap.size + 2 ≤ g2) := ⟨by omega⟩
    have HB1 := Aside0.mk (nd_grown_below hG HB0.out ZC z2.out)
    have F2 := Aside0.mk hF
    clear hF hG hg ZC HB0
    go_simp
    clear mk
    refine hK.out _ _ ?_ (fun hNew => ?_)
    · exact ⟨(HB1.out.cell (p := ⟨w.heap.size, 0, none⟩) (by show w.heap.size < _; omega)).trans B0.out, (HB1.out.cell (p := ⟨w.heap.size, 1, none⟩) (by show w.heap.size < _; omega)).trans B1.out, (HB1.out.cell (p := ⟨w.heap.size, 2, none⟩) (by show w.heap.size < _; omega)).trans B2.out, (HB1.out.cell (p := ⟨w.heap.size, 3, none⟩) (by show w.heap.size < _; omega)).trans B3.out⟩
    clear hK K hHeld
    have hHeld := hNew
    clear hNew
    refine wpAnyH_ready (rs := [6, 22]) (by kernel_rfl) (by simp) ?_
    refine (AllReadyH.cons rfl (fun K hK => ?_) (AllReadyH.cons rfl (fun K hK => ?_) AllReadyH.nil))
    · obtain ⟨g1, W2, hg, mk, hF, hG⟩ := makeIn (P := Try.prog) k48 22 48 (.agg #[(.string ⟨#[]⟩), (.string ⟨#[]⟩)]) 32 Try.underlying22 (by kernel_rfl) rfl W1 l0_1.length H1.out (by omega)
      have ZC : w.heap.size + 2 ≤ W1.heap.size := by have := HB1.out.size; have := ZB.out; omega
      have z1 : Aside0 (w.heap.size + 2 ≤ g1) := ⟨by omega⟩
      have n21 : Aside0 (g2 ≠ g1) := ⟨by have := F2.out.lt; omega⟩
      have n12 : Aside0 (g1 ≠ g2) := ⟨Ne.symm n21.out⟩
      have HB2 := Aside0.mk (nd_grown_below hG HB1.out ZC z1.out)
      replace F2 := Aside0.mk (F2.out.keep hG n21.out)
      have F1 := Aside0.mk hF
      clear hF hG hg ZC HB1
      go_simp
      clear mk
      refine hK.out _ _ ?_ (fun hNew => ?_)
      · exact ⟨(HB2.out.cell (p := ⟨w.heap.size, 0, none⟩) (by show w.heap.size < _; omega)).trans B0.out, (HB2.out.cell (p := ⟨w.heap.size, 1, none⟩) (by show w.heap.size < _; omega)).trans B1.out, (HB2.out.cell (p := ⟨w.heap.size, 2, none⟩) (by show w.heap.size < _; omega)).trans B2.out, (HB2.out.cell (p := ⟨w.heap.size, 3, none⟩) (by show w.heap.size < _; omega)).trans B3.out⟩
      clear hK K hHeld
      have hHeld := hNew
      clear hNew
      refine wpAnyH_ready (rs := [9, 22]) (by kernel_rfl) (by simp) ?_
      refine (AllReadyH.cons rfl (fun K hK => ?_) (AllReadyH.cons rfl (fun K hK => ?_) AllReadyH.nil))
      · obtain ⟨W3, ap, hP, hG⟩ := appendAt (P := Try.prog) k48 flat48 22 48 (.agg #[(.string ⟨#[]⟩), (.string ⟨#[]⟩)]) 32 Try.underlying22 (by kernel_rfl) rfl (by decide) 22 W2 A0_1 c0_1 l0_1 g1 (Kd.C_below R1.out ((XB.out.trans (HB2.out.mono (by omega))))) F1.out
        have ZC : w.heap.size + 2 ≤ W2.heap.size := by have := HB2.out.size; have := ZB.out; omega
        have HB3 := Aside0.mk (nd_grown_below hG HB2.out ZC z1.out)
        replace F2 := Aside0.mk (F2.out.keep hG n21.out)
        have P1 := Aside0.mk hP
        clear hP hG ZC HB2 F1
        rw [if_pos (by kernel_rfl)]
        refine oper_append_ran (.tmp 9) (.tmp 11) 22 rfl _ _ _ rfl rfl ap ?_
        simp only [Act.put, List.getElem_toArray, List.getElem_cons_zero, List.getElem_cons_succ, List.setIfInBounds_toArray, List.set_cons_zero, List.set_cons_succ]
        clear ap
        refine hK.out _ _ ?_ (fun hNew => ?_)
        · exact ⟨(HB3.out.cell (p := ⟨w.heap.size, 0, none⟩) (by show w.heap.size < _; omega)).trans B0.out, (HB3.out.cell (p := ⟨w.heap.size, 1, none⟩) (by show w.heap.size < _; omega)).trans B1.out, (HB3.out.cell (p := ⟨w.heap.size, 2, none⟩) (by show w.heap.size < _; omega)).trans B2.out, (HB3.out.cell (p := ⟨w.heap.size, 3, none⟩) (by show w.heap.size < _; omega)).trans B3.out⟩
        clear hK K hHeld
        have hHeld := hNew
        clear hNew
        refine wpAnyH_ready (rs := [17, 22]) (by kernel_rfl) (by simp) ?_
        refine (AllReadyH.cons rfl (fun K hK => ?_) (AllReadyH.cons rfl (fun K hK => ?_) AllReadyH.nil))
        · obtain ⟨W4, ap, hP, hG⟩ := appendAt (P := Try.prog) Kd.string flatS 23 9 (.string ⟨#[]⟩) 16 Try.underlying23 (by kernel_rfl) rfl (by decide) 23 W3 A0_2 c0_2 l0_2 g2 (Kd.C_below R2.out ((XB.out.trans (HB3.out.mono (by omega))))) F2.out
          have ZC : w.heap.size + 2 ≤ W3.heap.size := by have := HB3.out.size; have := ZB.out; omega
          have HB4 := Aside0.mk (nd_grown_below hG HB3.out ZC z2.out)
          replace P1 := Aside0.mk (P1.out.keep flat48 hG n12.out)
          have P2 := Aside0.mk hP
          clear hP hG ZC HB3 F2
          rw [if_pos (by kernel_rfl)]
          refine oper_append_ran (.tmp 17) (.tmp 19) 23 rfl _ _ _ rfl rfl ap ?_
          simp only [Act.put, List.getElem_toArray, List.getElem_cons_zero, List.getElem_cons_succ, List.setIfInBounds_toArray, List.set_cons_zero, List.set_cons_succ]
          clear ap
          refine hK.out _ _ ?_ (fun hNew => ?_)
          · exact ⟨(HB4.out.cell (p := ⟨w.heap.size, 0, none⟩) (by show w.heap.size < _; omega)).trans B0.out, (HB4.out.cell (p := ⟨w.heap.size, 1, none⟩) (by show w.heap.size < _; omega)).trans B1.out, (HB4.out.cell (p := ⟨w.heap.size, 2, none⟩) (by show w.heap.size < _; omega)).trans B2.out, (HB4.out.cell (p := ⟨w.heap.size, 3, none⟩) (by show w.heap.size < _; omega)).trans B3.out⟩
          clear hK K hHeld
          have hHeld := hNew
          clear hNew
          refine wpAnyH_ready (rs := [22]) (by kernel_rfl) (by simp) ?_
          refine (AllReadyH.cons rfl (fun K hK => ?_) AllReadyH.nil)
          obtain ⟨g3, W5, hg, mk, hF, hG⟩ := makeIn (P := Try.prog) (Kd.int .i64) 24 3 (.int .i64 0) 8 Try.underlying24 (by kernel_rfl) rfl W4 l0_3.length H3.out (by omega)
          have ZC : w.heap.size + 2 ≤ W4.heap.size := by have := HB4.out.size; have := ZB.out; omega
          have z3 : Aside0 (w.heap.size + 2 ≤ g3) := ⟨by omega⟩
          have n13 : Aside0 (g1 ≠ g3) := ⟨by have := P1.out.lt; omega⟩
          have n23 : Aside0 (g2 ≠ g3) := ⟨by have := P2.out.lt; omega⟩
          have n31 : Aside0 (g3 ≠ g1) := ⟨Ne.symm n13.out⟩
          have n32 : Aside0 (g3 ≠ g2) := ⟨Ne.symm n23.out⟩
          have HB5 := Aside0.mk (nd_grown_below hG HB4.out ZC z3.out)
          replace P1 := Aside0.mk (P1.out.keep flat48 hG n13.out)
          replace P2 := Aside0.mk (P2.out.keep flatS hG n23.out)
          have F3 := Aside0.mk hF
          clear hF hG hg ZC HB4
          go_simp
          clear mk
          refine hK.out _ _ ?_ (fun hNew => ?_)
          · exact ⟨(HB5.out.cell (p := ⟨w.heap.size, 0, none⟩) (by show w.heap.size < _; omega)).trans B0.out, (HB5.out.cell (p := ⟨w.heap.size, 1, none⟩) (by show w.heap.size < _; omega)).trans B1.out, (HB5.out.cell (p := ⟨w.heap.size, 2, none⟩) (by show w.heap.size < _; omega)).trans B2.out, (HB5.out.cell (p := ⟨w.heap.size, 3, none⟩) (by show w.heap.size < _; omega)).trans B3.out⟩
          clear hK K hHeld
          have hHeld := hNew
          clear hNew
          refine wpAnyH_ready (rs := [25]) (by kernel_rfl) (by simp) ?_
          refine (AllReadyH.cons rfl (fun K hK => ?_) AllReadyH.nil)
          obtain ⟨W6, ap, hP, hG⟩ := appendAt (P := Try.prog) (Kd.int .i64) flatI 24 3 (.int .i64 0) 8 Try.underlying24 (by kernel_rfl) rfl (by decide) 24 W5 A0_3 c0_3 l0_3 g3 (Kd.C_below R3.out ((XB.out.trans (HB5.out.mono (by omega))))) F3.out
          have ZC : w.heap.size + 2 ≤ W5.heap.size := by have := HB5.out.size; have := ZB.out; omega
          have HB6 := Aside0.mk (nd_grown_below hG HB5.out ZC z3.out)
          replace P1 := Aside0.mk (P1.out.keep flat48 hG n13.out)
          replace P2 := Aside0.mk (P2.out.keep flatS hG n23.out)
          have P3 := Aside0.mk hP
          clear hP hG ZC HB5 F3
          rw [if_pos (by kernel_rfl)]
          refine oper_append_ran (.tmp 25) (.tmp 27) 24 rfl _ _ _ rfl rfl ap ?_
          simp only [Act.put, List.getElem_toArray, List.getElem_cons_zero, List.getElem_cons_succ, List.setIfInBounds_toArray, List.set_cons_zero, List.set_cons_succ]
          clear ap
          refine hK.out _ _ ?_ (fun hNew => ?_)
          · exact ⟨(HB6.out.cell (p := ⟨w.heap.size, 0, none⟩) (by show w.heap.size < _; omega)).trans B0.out, (HB6.out.cell (p := ⟨w.heap.size, 1, none⟩) (by show w.heap.size < _; omega)).trans B1.out, (HB6.out.cell (p := ⟨w.heap.size, 2, none⟩) (by show w.heap.size < _; omega)).trans B2.out, (HB6.out.cell (p := ⟨w.heap.size, 3, none⟩) (by show w.heap.size < _; omega)).trans B3.out⟩
          clear hK K hHeld
          have hHeld := hNew
          clear hNew
          refine wpAnyH_take (i := 26) (oi := _) (v := _) rfl (by kernel_rfl) (by kernel_rfl) (by kernel_rfl) (fun _ _ _ h => h) (Or.inl ⟨by rfl, by (intro w hSw; (try dsimp only at hSw); go_simp; try with_reducible rfl)⟩) hHeld ?_
          simp only [Act.put, List.getElem_toArray, List.getElem_cons_zero, List.getElem_cons_succ, List.setIfInBounds_toArray, List.set_cons_zero, List.set_cons_succ]
          refine wpAnyH_ready (rs := [27]) (by kernel_rfl) (by simp) ?_
          refine AllReadyH.cons rfl (fun K hK => ?_) AllReadyH.nil
          have t6 : W6.heap[w.heap.size + 1]? = some (.cells #[.bool false, .slice none 0 0, .slice none 0 0, .slice none 0 0] 31 (0, 0)) := (HB6.out.block _ (by omega)).trans TB.out
          have c0 : W6.cell? ⟨w.heap.size + 1, 0, none⟩ = some (.bool false) := blk_cell t6 0
          have c1 : W6.cell? ⟨w.heap.size + 1, 1, none⟩ = some (.slice none 0 0) := blk_cell t6 1
          have c2 : W6.cell? ⟨w.heap.size + 1, 2, none⟩ = some (.slice none 0 0) := blk_cell t6 2
          have c3 : W6.cell? ⟨w.heap.size + 1, 3, none⟩ = some (.slice none 0 0) := blk_cell t6 3
          have f0 : W6.frozen? ⟨w.heap.size + 1, 0, none⟩ = false := blk_frozen t6 0
          have f1 : W6.frozen? ⟨w.heap.size + 1, 1, none⟩ = false := blk_frozen t6 1
          have f2 : W6.frozen? ⟨w.heap.size + 1, 2, none⟩ = false := blk_frozen t6 2
          have f3 : W6.frozen? ⟨w.heap.size + 1, 3, none⟩ = false := blk_frozen t6 3
          go_simp
          obtain ⟨W7, e7, t7, G7⟩ := nd_set4 W6 (w.heap.size + 1) 31 _ _ _ _ (.bool a0_0) (.slice (some ⟨g1, 0, none⟩) l0_1.length (l0_1.length + 1)) (.slice (some ⟨g2, 0, none⟩) l0_2.length (l0_2.length + 1)) (.slice (some ⟨g3, 0, none⟩) l0_3.length (l0_3.length + 1)) t6
          rw [← e7]
          have HB7 := Aside0.mk (nd_grown_below G7 (XB.out.trans (HB6.out.mono (by omega))) (by have := XB.out.size; have := HB6.out.size; omega) (by omega))
          have P1' := Aside0.mk (P1.out.keep flat48 G7 (by have := z1.out; omega))
          have P2' := Aside0.mk (P2.out.keep flatS G7 (by have := z2.out; omega))
          have P3' := Aside0.mk (P3.out.keep flatI G7 (by have := z3.out; omega))
          have r0 : W7.cell? ⟨w.heap.size + 1, 0, none⟩ = some (.bool a0_0) := blk_cell t7 0
          have r1 : W7.cell? ⟨w.heap.size + 1, 1, none⟩ = some (.slice (some ⟨g1, 0, none⟩) l0_1.length (l0_1.length + 1)) := blk_cell t7 1
          have r2 : W7.cell? ⟨w.heap.size + 1, 2, none⟩ = some (.slice (some ⟨g2, 0, none⟩) l0_2.length (l0_2.length + 1)) := blk_cell t7 2
          have r3 : W7.cell? ⟨w.heap.size + 1, 3, none⟩ = some (.slice (some ⟨g3, 0, none⟩) l0_3.length (l0_3.length + 1)) := blk_cell t7 3
          refine hK.out _ _ ⟨nd_grown_cell G7 (by show w.heap.size ≠ _; omega) hHeld.1, nd_grown_cell G7 (by show w.heap.size ≠ _; omega) hHeld.2.1, nd_grown_cell G7 (by show w.heap.size ≠ _; omega) hHeld.2.2.1, nd_grown_cell G7 (by show w.heap.size ≠ _; omega) hHeld.2.2.2⟩ (fun _ => ?_)
          clear hK K hHeld e7 G7 c0 c1 c2 c3 f0 f1 f2 f3 t6 P1 P2 P3 HB6
          refine wpAnyH_done (by kernel_rfl) ?_ _
          go_wp2
          refine bodyPost_ret (results_cell_row rfl _ _ (w.heap.size + 1) 31 #[.bool a0_0, .slice (some ⟨g1, 0, none⟩) l0_1.length (l0_1.length + 1), .slice (some ⟨g2, 0, none⟩) l0_2.length (l0_2.length + 1), .slice (some ⟨g3, 0, none⟩) l0_3.length (l0_3.length + 1)] (0, 0) _ rfl t7 Try.underlying31 rfl (by kernel_rfl)) rfl ?_
          exact ⟨g1, g2, g3, rfl, by have := z1.out; omega, by have := z2.out; omega, by have := z3.out; omega, n12.out, n13.out, n23.out, P1'.out, P2'.out, P3'.out, HB7.out⟩
        · obtain ⟨g3, W4, hg, mk, hF, hG⟩ := makeIn (P := Try.prog) (Kd.int .i64) 24 3 (.int .i64 0) 8 Try.underlying24 (by kernel_rfl) rfl W3 l0_3.length H3.out (by omega)
          have ZC : w.heap.size + 2 ≤ W3.heap.size := by have := HB3.out.size; have := ZB.out; omega
          have z3 : Aside0 (w.heap.size + 2 ≤ g3) := ⟨by omega⟩
          have n13 : Aside0 (g1 ≠ g3) := ⟨by have := P1.out.lt; omega⟩
          have n23 : Aside0 (g2 ≠ g3) := ⟨by have := F2.out.lt; omega⟩
          have n31 : Aside0 (g3 ≠ g1) := ⟨Ne.symm n13.out⟩
          have n32 : Aside0 (g3 ≠ g2) := ⟨Ne.symm n23.out⟩
          have HB4 := Aside0.mk (nd_grown_below hG HB3.out ZC z3.out)
          replace P1 := Aside0.mk (P1.out.keep flat48 hG n13.out)
          replace F2 := Aside0.mk (F2.out.keep hG n23.out)
          have F3 := Aside0.mk hF
          clear hF hG hg ZC HB3
          go_simp
          clear mk
          refine hK.out _ _ ?_ (fun hNew => ?_)
          · exact ⟨(HB4.out.cell (p := ⟨w.heap.size, 0, none⟩) (by show w.heap.size < _; omega)).trans B0.out, (HB4.out.cell (p := ⟨w.heap.size, 1, none⟩) (by show w.heap.size < _; omega)).trans B1.out, (HB4.out.cell (p := ⟨w.heap.size, 2, none⟩) (by show w.heap.size < _; omega)).trans B2.out, (HB4.out.cell (p := ⟨w.heap.size, 3, none⟩) (by show w.heap.size < _; omega)).trans B3.out⟩
          clear hK K hHeld
          have hHeld := hNew
          clear hNew
          refine wpAnyH_ready (rs := [17]) (by kernel_rfl) (by simp) ?_
          refine (AllReadyH.cons rfl (fun K hK => ?_) AllReadyH.nil)
          obtain ⟨W5, ap, hP, hG⟩ := appendAt (P := Try.prog) Kd.string flatS 23 9 (.string ⟨#[]⟩) 16 Try.underlying23 (by kernel_rfl) rfl (by decide) 23 W4 A0_2 c0_2 l0_2 g2 (Kd.C_below R2.out ((XB.out.trans (HB4.out.mono (by omega))))) F2.out
          have ZC : w.heap.size + 2 ≤ W4.heap.size := by have := HB4.out.size; have := ZB.out; omega
          have HB5 := Aside0.mk (nd_grown_below hG HB4.out ZC z2.out)
          replace P1 := Aside0.mk (P1.out.keep flat48 hG n12.out)
          replace F3 := Aside0.mk (F3.out.keep hG n32.out)
          have P2 := Aside0.mk hP
          clear hP hG ZC HB4 F2
          rw [if_pos (by kernel_rfl)]
          refine oper_append_ran (.tmp 17) (.tmp 19) 23 rfl _ _ _ rfl rfl ap ?_
          simp only [Act.put, List.getElem_toArray, List.getElem_cons_zero, List.getElem_cons_succ, List.setIfInBounds_toArray, List.set_cons_zero, List.set_cons_succ]
          clear ap
          refine hK.out _ _ ?_ (fun hNew => ?_)
          · exact ⟨(HB5.out.cell (p := ⟨w.heap.size, 0, none⟩) (by show w.heap.size < _; omega)).trans B0.out, (HB5.out.cell (p := ⟨w.heap.size, 1, none⟩) (by show w.heap.size < _; omega)).trans B1.out, (HB5.out.cell (p := ⟨w.heap.size, 2, none⟩) (by show w.heap.size < _; omega)).trans B2.out, (HB5.out.cell (p := ⟨w.heap.size, 3, none⟩) (by show w.heap.size < _; omega)).trans B3.out⟩
          clear hK K hHeld
          have hHeld := hNew
          clear hNew
          refine wpAnyH_ready (rs := [25]) (by kernel_rfl) (by simp) ?_
          refine (AllReadyH.cons rfl (fun K hK => ?_) AllReadyH.nil)
          obtain ⟨W6, ap, hP, hG⟩ := appendAt (P := Try.prog) (Kd.int .i64) flatI 24 3 (.int .i64 0) 8 Try.underlying24 (by kernel_rfl) rfl (by decide) 24 W5 A0_3 c0_3 l0_3 g3 (Kd.C_below R3.out ((XB.out.trans (HB5.out.mono (by omega))))) F3.out
          have ZC : w.heap.size + 2 ≤ W5.heap.size := by have := HB5.out.size; have := ZB.out; omega
          have HB6 := Aside0.mk (nd_grown_below hG HB5.out ZC z3.out)
          replace P1 := Aside0.mk (P1.out.keep flat48 hG n13.out)
          replace P2 := Aside0.mk (P2.out.keep flatS hG n23.out)
          have P3 := Aside0.mk hP
          clear hP hG ZC HB5 F3
          rw [if_pos (by kernel_rfl)]
          refine oper_append_ran (.tmp 25) (.tmp 27) 24 rfl _ _ _ rfl rfl ap ?_
          simp only [Act.put, List.getElem_toArray, List.getElem_cons_zero, List.getElem_cons_succ, List.setIfInBounds_toArray, List.set_cons_zero, List.set_cons_succ]
          clear ap
          refine hK.out _ _ ?_ (fun hNew => ?_)
          · exact ⟨(HB6.out.cell (p := ⟨w.heap.size, 0, none⟩) (by show w.heap.size < _; omega)).trans B0.out, (HB6.out.cell (p := ⟨w.heap.size, 1, none⟩) (by show w.heap.size < _; omega)).trans B1.out, (HB6.out.cell (p := ⟨w.heap.size, 2, none⟩) (by show w.heap.size < _; omega)).trans B2.out, (HB6.out.cell (p := ⟨w.heap.size, 3, none⟩) (by show w.heap.size < _; omega)).trans B3.out⟩
          clear hK K hHeld
          have hHeld := hNew
          clear hNew
          refine wpAnyH_take (i := 26) (oi := _) (v := _) rfl (by kernel_rfl) (by kernel_rfl) (by kernel_rfl) (fun _ _ _ h => h) (Or.inl ⟨by rfl, by (intro w hSw; (try dsimp only at hSw); go_simp; try with_reducible rfl)⟩) hHeld ?_
          simp only [Act.put, List.getElem_toArray, List.getElem_cons_zero, List.getElem_cons_succ, List.setIfInBounds_toArray, List.set_cons_zero, List.set_cons_succ]
          refine wpAnyH_ready (rs := [27]) (by kernel_rfl) (by simp) ?_
          refine AllReadyH.cons rfl (fun K hK => ?_) AllReadyH.nil
          have t6 : W6.heap[w.heap.size + 1]? = some (.cells #[.bool false, .slice none 0 0, .slice none 0 0, .slice none 0 0] 31 (0, 0)) := (HB6.out.block _ (by omega)).trans TB.out
          have c0 : W6.cell? ⟨w.heap.size + 1, 0, none⟩ = some (.bool false) := blk_cell t6 0
          have c1 : W6.cell? ⟨w.heap.size + 1, 1, none⟩ = some (.slice none 0 0) := blk_cell t6 1
          have c2 : W6.cell? ⟨w.heap.size + 1, 2, none⟩ = some (.slice none 0 0) := blk_cell t6 2
          have c3 : W6.cell? ⟨w.heap.size + 1, 3, none⟩ = some (.slice none 0 0) := blk_cell t6 3
          have f0 : W6.frozen? ⟨w.heap.size + 1, 0, none⟩ = false := blk_frozen t6 0
          have f1 : W6.frozen? ⟨w.heap.size + 1, 1, none⟩ = false := blk_frozen t6 1
          have f2 : W6.frozen? ⟨w.heap.size + 1, 2, none⟩ = false := blk_frozen t6 2
          have f3 : W6.frozen? ⟨w.heap.size + 1, 3, none⟩ = false := blk_frozen t6 3
          go_simp
          obtain ⟨W7, e7, t7, G7⟩ := nd_set4 W6 (w.heap.size + 1) 31 _ _ _ _ (.bool a0_0) (.slice (some ⟨g1, 0, none⟩) l0_1.length (l0_1.length + 1)) (.slice (some ⟨g2, 0, none⟩) l0_2.length (l0_2.length + 1)) (.slice (some ⟨g3, 0, none⟩) l0_3.length (l0_3.length + 1)) t6
          rw [← e7]
          have HB7 := Aside0.mk (nd_grown_below G7 (XB.out.trans (HB6.out.mono (by omega))) (by have := XB.out.size; have := HB6.out.size; omega) (by omega))
          have P1' := Aside0.mk (P1.out.keep flat48 G7 (by have := z1.out; omega))
          have P2' := Aside0.mk (P2.out.keep flatS G7 (by have := z2.out; omega))
          have P3' := Aside0.mk (P3.out.keep flatI G7 (by have := z3.out; omega))
          have r0 : W7.cell? ⟨w.heap.size + 1, 0, none⟩ = some (.bool a0_0) := blk_cell t7 0
          have r1 : W7.cell? ⟨w.heap.size + 1, 1, none⟩ = some (.slice (some ⟨g1, 0, none⟩) l0_1.length (l0_1.length + 1)) := blk_cell t7 1
          have r2 : W7.cell? ⟨w.heap.size + 1, 2, none⟩ = some (.slice (some ⟨g2, 0, none⟩) l0_2.length (l0_2.length + 1)) := blk_cell t7 2
          have r3 : W7.cell? ⟨w.heap.size + 1, 3, none⟩ = some (.slice (some ⟨g3, 0, none⟩) l0_3.length (l0_3.length + 1)) := blk_cell t7 3
          refine hK.out _ _ ⟨nd_grown_cell G7 (by show w.heap.size ≠ _; omega) hHeld.1, nd_grown_cell G7 (by show w.heap.size ≠ _; omega) hHeld.2.1, nd_grown_cell G7 (by show w.heap.size ≠ _; omega) hHeld.2.2.1, nd_grown_cell G7 (by show w.heap.size ≠ _; omega) hHeld.2.2.2⟩ (fun _ => ?_)
          clear hK K hHeld e7 G7 c0 c1 c2 c3 f0 f1 f2 f3 t6 P1 P2 P3 HB6
          refine wpAnyH_done (by kernel_rfl) ?_ _
          go_wp2
          refine bodyPost_ret (results_cell_row rfl _ _ (w.heap.size + 1) 31 #[.bool a0_0, .slice (some ⟨g1, 0, none⟩) l0_1.length (l0_1.length + 1), .slice (some ⟨g2, 0, none⟩) l0_2.length (l0_2.length + 1), .slice (some ⟨g3, 0, none⟩) l0_3.length (l0_3.length + 1)] (0, 0) _ rfl t7 Try.underlying31 rfl (by kernel_rfl)) rfl ?_
          exact ⟨g1, g2, g3, rfl, by have := z1.out; omega, by have := z2.out; omega, by have := z3.out; omega, n12.out, n13.out, n23.out, P1'.out, P2'.out, P3'.out, HB7.out⟩
      · obtain ⟨g3, W3, hg, mk, hF, hG⟩ := makeIn (P := Try.prog) (Kd.int .i64) 24 3 (.int .i64 0) 8 Try.underlying24 (by kernel_rfl) rfl W2 l0_3.length H3.out (by omega)
        have ZC : w.heap.size + 2 ≤ W2.heap.size := by have := HB2.out.size; have := ZB.out; omega
        have z3 : Aside0 (w.heap.size + 2 ≤ g3) := ⟨by omega⟩
        have n13 : Aside0 (g1 ≠ g3) := ⟨by have := F1.out.lt; omega⟩
        have n23 : Aside0 (g2 ≠ g3) := ⟨by have := F2.out.lt; omega⟩
        have n31 : Aside0 (g3 ≠ g1) := ⟨Ne.symm n13.out⟩
        have n32 : Aside0 (g3 ≠ g2) := ⟨Ne.symm n23.out⟩
        have HB3 := Aside0.mk (nd_grown_below hG HB2.out ZC z3.out)
        replace F1 := Aside0.mk (F1.out.keep hG n13.out)
        replace F2 := Aside0.mk (F2.out.keep hG n23.out)
        have F3 := Aside0.mk hF
        clear hF hG hg ZC HB2
        go_simp
        clear mk
        refine hK.out _ _ ?_ (fun hNew => ?_)
        · exact ⟨(HB3.out.cell (p := ⟨w.heap.size, 0, none⟩) (by show w.heap.size < _; omega)).trans B0.out, (HB3.out.cell (p := ⟨w.heap.size, 1, none⟩) (by show w.heap.size < _; omega)).trans B1.out, (HB3.out.cell (p := ⟨w.heap.size, 2, none⟩) (by show w.heap.size < _; omega)).trans B2.out, (HB3.out.cell (p := ⟨w.heap.size, 3, none⟩) (by show w.heap.size < _; omega)).trans B3.out⟩
        clear hK K hHeld
        have hHeld := hNew
        clear hNew
        refine wpAnyH_ready (rs := [9]) (by kernel_rfl) (by simp) ?_
        refine (AllReadyH.cons rfl (fun K hK => ?_) AllReadyH.nil)
        obtain ⟨W4, ap, hP, hG⟩ := appendAt (P := Try.prog) k48 flat48 22 48 (.agg #[(.string ⟨#[]⟩), (.string ⟨#[]⟩)]) 32 Try.underlying22 (by kernel_rfl) rfl (by decide) 22 W3 A0_1 c0_1 l0_1 g1 (Kd.C_below R1.out ((XB.out.trans (HB3.out.mono (by omega))))) F1.out
        have ZC : w.heap.size + 2 ≤ W3.heap.size := by have := HB3.out.size; have := ZB.out; omega
        have HB4 := Aside0.mk (nd_grown_below hG HB3.out ZC z1.out)
        replace F2 := Aside0.mk (F2.out.keep hG n21.out)
        replace F3 := Aside0.mk (F3.out.keep hG n31.out)
        have P1 := Aside0.mk hP
        clear hP hG ZC HB3 F1
        rw [if_pos (by kernel_rfl)]
        refine oper_append_ran (.tmp 9) (.tmp 11) 22 rfl _ _ _ rfl rfl ap ?_
        simp only [Act.put, List.getElem_toArray, List.getElem_cons_zero, List.getElem_cons_succ, List.setIfInBounds_toArray, List.set_cons_zero, List.set_cons_succ]
        clear ap
        refine hK.out _ _ ?_ (fun hNew => ?_)
        · exact ⟨(HB4.out.cell (p := ⟨w.heap.size, 0, none⟩) (by show w.heap.size < _; omega)).trans B0.out, (HB4.out.cell (p := ⟨w.heap.size, 1, none⟩) (by show w.heap.size < _; omega)).trans B1.out, (HB4.out.cell (p := ⟨w.heap.size, 2, none⟩) (by show w.heap.size < _; omega)).trans B2.out, (HB4.out.cell (p := ⟨w.heap.size, 3, none⟩) (by show w.heap.size < _; omega)).trans B3.out⟩
        clear hK K hHeld
        have hHeld := hNew
        clear hNew
        refine wpAnyH_ready (rs := [17]) (by kernel_rfl) (by simp) ?_
        refine (AllReadyH.cons rfl (fun K hK => ?_) AllReadyH.nil)
        obtain ⟨W5, ap, hP, hG⟩ := appendAt (P := Try.prog) Kd.string flatS 23 9 (.string ⟨#[]⟩) 16 Try.underlying23 (by kernel_rfl) rfl (by decide) 23 W4 A0_2 c0_2 l0_2 g2 (Kd.C_below R2.out ((XB.out.trans (HB4.out.mono (by omega))))) F2.out
        have ZC : w.heap.size + 2 ≤ W4.heap.size := by have := HB4.out.size; have := ZB.out; omega
        have HB5 := Aside0.mk (nd_grown_below hG HB4.out ZC z2.out)
        replace P1 := Aside0.mk (P1.out.keep flat48 hG n12.out)
        replace F3 := Aside0.mk (F3.out.keep hG n32.out)
        have P2 := Aside0.mk hP
        clear hP hG ZC HB4 F2
        rw [if_pos (by kernel_rfl)]
        refine oper_append_ran (.tmp 17) (.tmp 19) 23 rfl _ _ _ rfl rfl ap ?_
        simp only [Act.put, List.getElem_toArray, List.getElem_cons_zero, List.getElem_cons_succ, List.setIfInBounds_toArray, List.set_cons_zero, List.set_cons_succ]
        clear ap
        refine hK.out _ _ ?_ (fun hNew => ?_)
        · exact ⟨(HB5.out.cell (p := ⟨w.heap.size, 0, none⟩) (by show w.heap.size < _; omega)).trans B0.out, (HB5.out.cell (p := ⟨w.heap.size, 1, none⟩) (by show w.heap.size < _; omega)).trans B1.out, (HB5.out.cell (p := ⟨w.heap.size, 2, none⟩) (by show w.heap.size < _; omega)).trans B2.out, (HB5.out.cell (p := ⟨w.heap.size, 3, none⟩) (by show w.heap.size < _; omega)).trans B3.out⟩
        clear hK K hHeld
        have hHeld := hNew
        clear hNew
        refine wpAnyH_ready (rs := [25]) (by kernel_rfl) (by simp) ?_
        refine (AllReadyH.cons rfl (fun K hK => ?_) AllReadyH.nil)
        obtain ⟨W6, ap, hP, hG⟩ := appendAt (P := Try.prog) (Kd.int .i64) flatI 24 3 (.int .i64 0) 8 Try.underlying24 (by kernel_rfl) rfl (by decide) 24 W5 A0_3 c0_3 l0_3 g3 (Kd.C_below R3.out ((XB.out.trans (HB5.out.mono (by omega))))) F3.out
        have ZC : w.heap.size + 2 ≤ W5.heap.size := by have := HB5.out.size; have := ZB.out; omega
        have HB6 := Aside0.mk (nd_grown_below hG HB5.out ZC z3.out)
        replace P1 := Aside0.mk (P1.out.keep flat48 hG n13.out)
        replace P2 := Aside0.mk (P2.out.keep flatS hG n23.out)
        have P3 := Aside0.mk hP
        clear hP hG ZC HB5 F3
        rw [if_pos (by kernel_rfl)]
        refine oper_append_ran (.tmp 25) (.tmp 27) 24 rfl _ _ _ rfl rfl ap ?_
        simp only [Act.put, List.getElem_toArray, List.getElem_cons_zero, List.getElem_cons_succ, List.setIfInBounds_toArray, List.set_cons_zero, List.set_cons_succ]
        clear ap
        refine hK.out _ _ ?_ (fun hNew => ?_)
        · exact ⟨(HB6.out.cell (p := ⟨w.heap.size, 0, none⟩) (by show w.heap.size < _; omega)).trans B0.out, (HB6.out.cell (p := ⟨w.heap.size, 1, none⟩) (by show w.heap.size < _; omega)).trans B1.out, (HB6.out.cell (p := ⟨w.heap.size, 2, none⟩) (by show w.heap.size < _; omega)).trans B2.out, (HB6.out.cell (p := ⟨w.heap.size, 3, none⟩) (by show w.heap.size < _; omega)).trans B3.out⟩
        clear hK K hHeld
        have hHeld := hNew
        clear hNew
        refine wpAnyH_take (i := 26) (oi := _) (v := _) rfl (by kernel_rfl) (by kernel_rfl) (by kernel_rfl) (fun _ _ _ h => h) (Or.inl ⟨by rfl, by (intro w hSw; (try dsimp only at hSw); go_simp; try with_reducible rfl)⟩) hHeld ?_
        simp only [Act.put, List.getElem_toArray, List.getElem_cons_zero, List.getElem_cons_succ, List.setIfInBounds_toArray, List.set_cons_zero, List.set_cons_succ]
        refine wpAnyH_ready (rs := [27]) (by kernel_rfl) (by simp) ?_
        refine AllReadyH.cons rfl (fun K hK => ?_) AllReadyH.nil
        have t6 : W6.heap[w.heap.size + 1]? = some (.cells #[.bool false, .slice none 0 0, .slice none 0 0, .slice none 0 0] 31 (0, 0)) := (HB6.out.block _ (by omega)).trans TB.out
        have c0 : W6.cell? ⟨w.heap.size + 1, 0, none⟩ = some (.bool false) := blk_cell t6 0
        have c1 : W6.cell? ⟨w.heap.size + 1, 1, none⟩ = some (.slice none 0 0) := blk_cell t6 1
        have c2 : W6.cell? ⟨w.heap.size + 1, 2, none⟩ = some (.slice none 0 0) := blk_cell t6 2
        have c3 : W6.cell? ⟨w.heap.size + 1, 3, none⟩ = some (.slice none 0 0) := blk_cell t6 3
        have f0 : W6.frozen? ⟨w.heap.size + 1, 0, none⟩ = false := blk_frozen t6 0
        have f1 : W6.frozen? ⟨w.heap.size + 1, 1, none⟩ = false := blk_frozen t6 1
        have f2 : W6.frozen? ⟨w.heap.size + 1, 2, none⟩ = false := blk_frozen t6 2
        have f3 : W6.frozen? ⟨w.heap.size + 1, 3, none⟩ = false := blk_frozen t6 3
        go_simp
        obtain ⟨W7, e7, t7, G7⟩ := nd_set4 W6 (w.heap.size + 1) 31 _ _ _ _ (.bool a0_0) (.slice (some ⟨g1, 0, none⟩) l0_1.length (l0_1.length + 1)) (.slice (some ⟨g2, 0, none⟩) l0_2.length (l0_2.length + 1)) (.slice (some ⟨g3, 0, none⟩) l0_3.length (l0_3.length + 1)) t6
        rw [← e7]
        have HB7 := Aside0.mk (nd_grown_below G7 (XB.out.trans (HB6.out.mono (by omega))) (by have := XB.out.size; have := HB6.out.size; omega) (by omega))
        have P1' := Aside0.mk (P1.out.keep flat48 G7 (by have := z1.out; omega))
        have P2' := Aside0.mk (P2.out.keep flatS G7 (by have := z2.out; omega))
        have P3' := Aside0.mk (P3.out.keep flatI G7 (by have := z3.out; omega))
        have r0 : W7.cell? ⟨w.heap.size + 1, 0, none⟩ = some (.bool a0_0) := blk_cell t7 0
        have r1 : W7.cell? ⟨w.heap.size + 1, 1, none⟩ = some (.slice (some ⟨g1, 0, none⟩) l0_1.length (l0_1.length + 1)) := blk_cell t7 1
        have r2 : W7.cell? ⟨w.heap.size + 1, 2, none⟩ = some (.slice (some ⟨g2, 0, none⟩) l0_2.length (l0_2.length + 1)) := blk_cell t7 2
        have r3 : W7.cell? ⟨w.heap.size + 1, 3, none⟩ = some (.slice (some ⟨g3, 0, none⟩) l0_3.length (l0_3.length + 1)) := blk_cell t7 3
        refine hK.out _ _ ⟨nd_grown_cell G7 (by show w.heap.size ≠ _; omega) hHeld.1, nd_grown_cell G7 (by show w.heap.size ≠ _; omega) hHeld.2.1, nd_grown_cell G7 (by show w.heap.size ≠ _; omega) hHeld.2.2.1, nd_grown_cell G7 (by show w.heap.size ≠ _; omega) hHeld.2.2.2⟩ (fun _ => ?_)
        clear hK K hHeld e7 G7 c0 c1 c2 c3 f0 f1 f2 f3 t6 P1 P2 P3 HB6
        refine wpAnyH_done (by kernel_rfl) ?_ _
        go_wp2
        refine bodyPost_ret (results_cell_row rfl _ _ (w.heap.size + 1) 31 #[.bool a0_0, .slice (some ⟨g1, 0, none⟩) l0_1.length (l0_1.length + 1), .slice (some ⟨g2, 0, none⟩) l0_2.length (l0_2.length + 1), .slice (some ⟨g3, 0, none⟩) l0_3.length (l0_3.length + 1)] (0, 0) _ rfl t7 Try.underlying31 rfl (by kernel_rfl)) rfl ?_
        exact ⟨g1, g2, g3, rfl, by have := z1.out; omega, by have := z2.out; omega, by have := z3.out; omega, n12.out, n13.out, n23.out, P1'.out, P2'.out, P3'.out, HB7.out⟩
    · obtain ⟨g3, W2, hg, mk, hF, hG⟩ := makeIn (P := Try.prog) (Kd.int .i64) 24 3 (.int .i64 0) 8 Try.underlying24 (by kernel_rfl) rfl W1 l0_3.length H3.out (by omega)
      have ZC : w.heap.size + 2 ≤ W1.heap.size := by have := HB1.out.size; have := ZB.out; omega
      have z3 : Aside0 (w.heap.size + 2 ≤ g3) := ⟨by omega⟩
      have n23 : Aside0 (g2 ≠ g3) := ⟨by have := F2.out.lt; omega⟩
      have n32 : Aside0 (g3 ≠ g2) := ⟨Ne.symm n23.out⟩
      have HB2 := Aside0.mk (nd_grown_below hG HB1.out ZC z3.out)
      replace F2 := Aside0.mk (F2.out.keep hG n23.out)
      have F3 := Aside0.mk hF
      clear hF hG hg ZC HB1
      go_simp
      clear mk
      refine hK.out _ _ ?_ (fun hNew => ?_)
      · exact ⟨(HB2.out.cell (p := ⟨w.heap.size, 0, none⟩) (by show w.heap.size < _; omega)).trans B0.out, (HB2.out.cell (p := ⟨w.heap.size, 1, none⟩) (by show w.heap.size < _; omega)).trans B1.out, (HB2.out.cell (p := ⟨w.heap.size, 2, none⟩) (by show w.heap.size < _; omega)).trans B2.out, (HB2.out.cell (p := ⟨w.heap.size, 3, none⟩) (by show w.heap.size < _; omega)).trans B3.out⟩
      clear hK K hHeld
      have hHeld := hNew
      clear hNew
      refine wpAnyH_ready (rs := [6]) (by kernel_rfl) (by simp) ?_
      refine (AllReadyH.cons rfl (fun K hK => ?_) AllReadyH.nil)
      obtain ⟨g1, W3, hg, mk, hF, hG⟩ := makeIn (P := Try.prog) k48 22 48 (.agg #[(.string ⟨#[]⟩), (.string ⟨#[]⟩)]) 32 Try.underlying22 (by kernel_rfl) rfl W2 l0_1.length H1.out (by omega)
      have ZC : w.heap.size + 2 ≤ W2.heap.size := by have := HB2.out.size; have := ZB.out; omega
      have z1 : Aside0 (w.heap.size + 2 ≤ g1) := ⟨by omega⟩
      have n21 : Aside0 (g2 ≠ g1) := ⟨by have := F2.out.lt; omega⟩
      have n31 : Aside0 (g3 ≠ g1) := ⟨by have := F3.out.lt; omega⟩
      have n12 : Aside0 (g1 ≠ g2) := ⟨Ne.symm n21.out⟩
      have n13 : Aside0 (g1 ≠ g3) := ⟨Ne.symm n31.out⟩
      have HB3 := Aside0.mk (nd_grown_below hG HB2.out ZC z1.out)
      replace F2 := Aside0.mk (F2.out.keep hG n21.out)
      replace F3 := Aside0.mk (F3.out.keep hG n31.out)
      have F1 := Aside0.mk hF
      clear hF hG hg ZC HB2
      go_simp
      clear mk
      refine hK.out _ _ ?_ (fun hNew => ?_)
      · exact ⟨(HB3.out.cell (p := ⟨w.heap.size, 0, none⟩) (by show w.heap.size < _; omega)).trans B0.out, (HB3.out.cell (p := ⟨w.heap.size, 1, none⟩) (by show w.heap.size < _; omega)).trans B1.out, (HB3.out.cell (p := ⟨w.heap.size, 2, none⟩) (by show w.heap.size < _; omega)).trans B2.out, (HB3.out.cell (p := ⟨w.heap.size, 3, none⟩) (by show w.heap.size < _; omega)).trans B3.out⟩
      clear hK K hHeld
      have hHeld := hNew
      clear hNew
      refine wpAnyH_ready (rs := [9]) (by kernel_rfl) (by simp) ?_
      refine (AllReadyH.cons rfl (fun K hK => ?_) AllReadyH.nil)
      obtain ⟨W4, ap, hP, hG⟩ := appendAt (P := Try.prog) k48 flat48 22 48 (.agg #[(.string ⟨#[]⟩), (.string ⟨#[]⟩)]) 32 Try.underlying22 (by kernel_rfl) rfl (by decide) 22 W3 A0_1 c0_1 l0_1 g1 (Kd.C_below R1.out ((XB.out.trans (HB3.out.mono (by omega))))) F1.out
      have ZC : w.heap.size + 2 ≤ W3.heap.size := by have := HB3.out.size; have := ZB.out; omega
      have HB4 := Aside0.mk (nd_grown_below hG HB3.out ZC z1.out)
      replace F2 := Aside0.mk (F2.out.keep hG n21.out)
      replace F3 := Aside0.mk (F3.out.keep hG n31.out)
      have P1 := Aside0.mk hP
      clear hP hG ZC HB3 F1
      rw [if_pos (by kernel_rfl)]
      refine oper_append_ran (.tmp 9) (.tmp 11) 22 rfl _ _ _ rfl rfl ap ?_
      simp only [Act.put, List.getElem_toArray, List.getElem_cons_zero, List.getElem_cons_succ, List.setIfInBounds_toArray, List.set_cons_zero, List.set_cons_succ]
      clear ap
      refine hK.out _ _ ?_ (fun hNew => ?_)
      · exact ⟨(HB4.out.cell (p := ⟨w.heap.size, 0, none⟩) (by show w.heap.size < _; omega)).trans B0.out, (HB4.out.cell (p := ⟨w.heap.size, 1, none⟩) (by show w.heap.size < _; omega)).trans B1.out, (HB4.out.cell (p := ⟨w.heap.size, 2, none⟩) (by show w.heap.size < _; omega)).trans B2.out, (HB4.out.cell (p := ⟨w.heap.size, 3, none⟩) (by show w.heap.size < _; omega)).trans B3.out⟩
      clear hK K hHeld
      have hHeld := hNew
      clear hNew
      refine wpAnyH_ready (rs := [17]) (by kernel_rfl) (by simp) ?_
      refine (AllReadyH.cons rfl (fun K hK => ?_) AllReadyH.nil)
      obtain ⟨W5, ap, hP, hG⟩ := appendAt (P := Try.prog) Kd.string flatS 23 9 (.string ⟨#[]⟩) 16 Try.underlying23 (by kernel_rfl) rfl (by decide) 23 W4 A0_2 c0_2 l0_2 g2 (Kd.C_below R2.out ((XB.out.trans (HB4.out.mono (by omega))))) F2.out
      have ZC : w.heap.size + 2 ≤ W4.heap.size := by have := HB4.out.size; have := ZB.out; omega
      have HB5 := Aside0.mk (nd_grown_below hG HB4.out ZC z2.out)
      replace P1 := Aside0.mk (P1.out.keep flat48 hG n12.out)
      replace F3 := Aside0.mk (F3.out.keep hG n32.out)
      have P2 := Aside0.mk hP
      clear hP hG ZC HB4 F2
      rw [if_pos (by kernel_rfl)]
      refine oper_append_ran (.tmp 17) (.tmp 19) 23 rfl _ _ _ rfl rfl ap ?_
      simp only [Act.put, List.getElem_toArray, List.getElem_cons_zero, List.getElem_cons_succ, List.setIfInBounds_toArray, List.set_cons_zero, List.set_cons_succ]
      clear ap
      refine hK.out _ _ ?_ (fun hNew => ?_)
      · exact ⟨(HB5.out.cell (p := ⟨w.heap.size, 0, none⟩) (by show w.heap.size < _; omega)).trans B0.out, (HB5.out.cell (p := ⟨w.heap.size, 1, none⟩) (by show w.heap.size < _; omega)).trans B1.out, (HB5.out.cell (p := ⟨w.heap.size, 2, none⟩) (by show w.heap.size < _; omega)).trans B2.out, (HB5.out.cell (p := ⟨w.heap.size, 3, none⟩) (by show w.heap.size < _; omega)).trans B3.out⟩
      clear hK K hHeld
      have hHeld := hNew
      clear hNew
      refine wpAnyH_ready (rs := [25]) (by kernel_rfl) (by simp) ?_
      refine (AllReadyH.cons rfl (fun K hK => ?_) AllReadyH.nil)
      obtain ⟨W6, ap, hP, hG⟩ := appendAt (P := Try.prog) (Kd.int .i64) flatI 24 3 (.int .i64 0) 8 Try.underlying24 (by kernel_rfl) rfl (by decide) 24 W5 A0_3 c0_3 l0_3 g3 (Kd.C_below R3.out ((XB.out.trans (HB5.out.mono (by omega))))) F3.out
      have ZC : w.heap.size + 2 ≤ W5.heap.size := by have := HB5.out.size; have := ZB.out; omega
      have HB6 := Aside0.mk (nd_grown_below hG HB5.out ZC z3.out)
      replace P1 := Aside0.mk (P1.out.keep flat48 hG n13.out)
      replace P2 := Aside0.mk (P2.out.keep flatS hG n23.out)
      have P3 := Aside0.mk hP
      clear hP hG ZC HB5 F3
      rw [if_pos (by kernel_rfl)]
      refine oper_append_ran (.tmp 25) (.tmp 27) 24 rfl _ _ _ rfl rfl ap ?_
      simp only [Act.put, List.getElem_toArray, List.getElem_cons_zero, List.getElem_cons_succ, List.setIfInBounds_toArray, List.set_cons_zero, List.set_cons_succ]
      clear ap
      refine hK.out _ _ ?_ (fun hNew => ?_)
      · exact ⟨(HB6.out.cell (p := ⟨w.heap.size, 0, none⟩) (by show w.heap.size < _; omega)).trans B0.out, (HB6.out.cell (p := ⟨w.heap.size, 1, none⟩) (by show w.heap.size < _; omega)).trans B1.out, (HB6.out.cell (p := ⟨w.heap.size, 2, none⟩) (by show w.heap.size < _; omega)).trans B2.out, (HB6.out.cell (p := ⟨w.heap.size, 3, none⟩) (by show w.heap.size < _; omega)).trans B3.out⟩
      clear hK K hHeld
      have hHeld := hNew
      clear hNew
      refine wpAnyH_take (i := 26) (oi := _) (v := _) rfl (by kernel_rfl) (by kernel_rfl) (by kernel_rfl) (fun _ _ _ h => h) (Or.inl ⟨by rfl, by (intro w hSw; (try dsimp only at hSw); go_simp; try with_reducible rfl)⟩) hHeld ?_
      simp only [Act.put, List.getElem_toArray, List.getElem_cons_zero, List.getElem_cons_succ, List.setIfInBounds_toArray, List.set_cons_zero, List.set_cons_succ]
      refine wpAnyH_ready (rs := [27]) (by kernel_rfl) (by simp) ?_
      refine AllReadyH.cons rfl (fun K hK => ?_) AllReadyH.nil
      have t6 : W6.heap[w.heap.size + 1]? = some (.cells #[.bool false, .slice none 0 0, .slice none 0 0, .slice none 0 0] 31 (0, 0)) := (HB6.out.block _ (by omega)).trans TB.out
      have c0 : W6.cell? ⟨w.heap.size + 1, 0, none⟩ = some (.bool false) := blk_cell t6 0
      have c1 : W6.cell? ⟨w.heap.size + 1, 1, none⟩ = some (.slice none 0 0) := blk_cell t6 1
      have c2 : W6.cell? ⟨w.heap.size + 1, 2, none⟩ = some (.slice none 0 0) := blk_cell t6 2
      have c3 : W6.cell? ⟨w.heap.size + 1, 3, none⟩ = some (.slice none 0 0) := blk_cell t6 3
      have f0 : W6.frozen? ⟨w.heap.size + 1, 0, none⟩ = false := blk_frozen t6 0
      have f1 : W6.frozen? ⟨w.heap.size + 1, 1, none⟩ = false := blk_frozen t6 1
      have f2 : W6.frozen? ⟨w.heap.size + 1, 2, none⟩ = false := blk_frozen t6 2
      have f3 : W6.frozen? ⟨w.heap.size + 1, 3, none⟩ = false := blk_frozen t6 3
      go_simp
      obtain ⟨W7, e7, t7, G7⟩ := nd_set4 W6 (w.heap.size + 1) 31 _ _ _ _ (.bool a0_0) (.slice (some ⟨g1, 0, none⟩) l0_1.length (l0_1.length + 1)) (.slice (some ⟨g2, 0, none⟩) l0_2.length (l0_2.length + 1)) (.slice (some ⟨g3, 0, none⟩) l0_3.length (l0_3.length + 1)) t6
      rw [← e7]
      have HB7 := Aside0.mk (nd_grown_below G7 (XB.out.trans (HB6.out.mono (by omega))) (by have := XB.out.size; have := HB6.out.size; omega) (by omega))
      have P1' := Aside0.mk (P1.out.keep flat48 G7 (by have := z1.out; omega))
      have P2' := Aside0.mk (P2.out.keep flatS G7 (by have := z2.out; omega))
      have P3' := Aside0.mk (P3.out.keep flatI G7 (by have := z3.out; omega))
      have r0 : W7.cell? ⟨w.heap.size + 1, 0, none⟩ = some (.bool a0_0) := blk_cell t7 0
      have r1 : W7.cell? ⟨w.heap.size + 1, 1, none⟩ = some (.slice (some ⟨g1, 0, none⟩) l0_1.length (l0_1.length + 1)) := blk_cell t7 1
      have r2 : W7.cell? ⟨w.heap.size + 1, 2, none⟩ = some (.slice (some ⟨g2, 0, none⟩) l0_2.length (l0_2.length + 1)) := blk_cell t7 2
      have r3 : W7.cell? ⟨w.heap.size + 1, 3, none⟩ = some (.slice (some ⟨g3, 0, none⟩) l0_3.length (l0_3.length + 1)) := blk_cell t7 3
      refine hK.out _ _ ⟨nd_grown_cell G7 (by show w.heap.size ≠ _; omega) hHeld.1, nd_grown_cell G7 (by show w.heap.size ≠ _; omega) hHeld.2.1, nd_grown_cell G7 (by show w.heap.size ≠ _; omega) hHeld.2.2.1, nd_grown_cell G7 (by show w.heap.size ≠ _; omega) hHeld.2.2.2⟩ (fun _ => ?_)
      clear hK K hHeld e7 G7 c0 c1 c2 c3 f0 f1 f2 f3 t6 P1 P2 P3 HB6
      refine wpAnyH_done (by kernel_rfl) ?_ _
      go_wp2
      refine bodyPost_ret (results_cell_row rfl _ _ (w.heap.size + 1) 31 #[.bool a0_0, .slice (some ⟨g1, 0, none⟩) l0_1.length (l0_1.length + 1), .slice (some ⟨g2, 0, none⟩) l0_2.length (l0_2.length + 1), .slice (some ⟨g3, 0, none⟩) l0_3.length (l0_3.length + 1)] (0, 0) _ rfl t7 Try.underlying31 rfl (by kernel_rfl)) rfl ?_
      exact ⟨g1, g2, g3, rfl, by have := z1.out; omega, by have := z2.out; omega, by have := z3.out; omega, n12.out, n13.out, n23.out, P1'.out, P2'.out, P3'.out, HB7.out⟩
  · obtain ⟨g3, W1, hg, mk, hF, hG⟩ := makeIn (P := Try.prog) (Kd.int .i64) 24 3 (.int .i64 0) 8 Try.underlying24 (by kernel_rfl) rfl W0 l0_3.length H3.out (by omega)
    have ZC : w.heap.size + 2 ≤ W0.heap.size := by have := HB0.out.size; have := ZB.out; omega
    have z3 : Aside0 (w.heap.size + 2 ≤ g3) := ⟨by omega⟩
    have HB1 := Aside0.mk (nd_grown_below hG HB0.out ZC z3.out)
    have F3 := Aside0.mk hF
    clear hF hG hg ZC HB0
    go_simp
    clear mk
    refine hK.out _ _ ?_ (fun hNew => ?_)
    · exact ⟨(HB1.out.cell (p := ⟨w.heap.size, 0, none⟩) (by show w.heap.size < _; omega)).trans B0.out, (HB1.out.cell (p := ⟨w.heap.size, 1, none⟩) (by show w.heap.size < _; omega)).trans B1.out, (HB1.out.cell (p := ⟨w.heap.size, 2, none⟩) (by show w.heap.size < _; omega)).trans B2.out, (HB1.out.cell (p := ⟨w.heap.size, 3, none⟩) (by show w.heap.size < _; omega)).trans B3.out⟩
    clear hK K hHeld
    have hHeld := hNew
    clear hNew
    refine wpAnyH_ready (rs := [6, 14]) (by kernel_rfl) (by simp) ?_
    refine (AllReadyH.cons rfl (fun K hK => ?_) (AllReadyH.cons rfl (fun K hK => ?_) AllReadyH.nil))
    · obtain ⟨g1, W2, hg, mk, hF, hG⟩ := makeIn (P := Try.prog) k48 22 48 (.agg #[(.string ⟨#[]⟩), (.string ⟨#[]⟩)]) 32 Try.underlying22 (by kernel_rfl) rfl W1 l0_1.length H1.out (by omega)
      have ZC : w.heap.size + 2 ≤ W1.heap.size := by have := HB1.out.size; have := ZB.out; omega
      have z1 : Aside0 (w.heap.size + 2 ≤ g1) := ⟨by omega⟩
      have n31 : Aside0 (g3 ≠ g1) := ⟨by have := F3.out.lt; omega⟩
      have n13 : Aside0 (g1 ≠ g3) := ⟨Ne.symm n31.out⟩
      have HB2 := Aside0.mk (nd_grown_below hG HB1.out ZC z1.out)
      replace F3 := Aside0.mk (F3.out.keep hG n31.out)
      have F1 := Aside0.mk hF
      clear hF hG hg ZC HB1
      go_simp
      clear mk
      refine hK.out _ _ ?_ (fun hNew => ?_)
      · exact ⟨(HB2.out.cell (p := ⟨w.heap.size, 0, none⟩) (by show w.heap.size < _; omega)).trans B0.out, (HB2.out.cell (p := ⟨w.heap.size, 1, none⟩) (by show w.heap.size < _; omega)).trans B1.out, (HB2.out.cell (p := ⟨w.heap.size, 2, none⟩) (by show w.heap.size < _; omega)).trans B2.out, (HB2.out.cell (p := ⟨w.heap.size, 3, none⟩) (by show w.heap.size < _; omega)).trans B3.out⟩
      clear hK K hHeld
      have hHeld := hNew
      clear hNew
      refine wpAnyH_ready (rs := [9, 14]) (by kernel_rfl) (by simp) ?_
      refine (AllReadyH.cons rfl (fun K hK => ?_) (AllReadyH.cons rfl (fun K hK => ?_) AllReadyH.nil))
      · obtain ⟨W3, ap, hP, hG⟩ := appendAt (P := Try.prog) k48 flat48 22 48 (.agg #[(.string ⟨#[]⟩), (.string ⟨#[]⟩)]) 32 Try.underlying22 (by kernel_rfl) rfl (by decide) 22 W2 A0_1 c0_1 l0_1 g1 (Kd.C_below R1.out ((XB.out.trans (HB2.out.mono (by omega))))) F1.out
        have ZC : w.heap.size + 2 ≤ W2.heap.size := by have := HB2.out.size; have := ZB.out; omega
        have HB3 := Aside0.mk (nd_grown_below hG HB2.out ZC z1.out)
        replace F3 := Aside0.mk (F3.out.keep hG n31.out)
        have P1 := Aside0.mk hP
        clear hP hG ZC HB2 F1
        rw [if_pos (by kernel_rfl)]
        refine oper_append_ran (.tmp 9) (.tmp 11) 22 rfl _ _ _ rfl rfl ap ?_
        simp only [Act.put, List.getElem_toArray, List.getElem_cons_zero, List.getElem_cons_succ, List.setIfInBounds_toArray, List.set_cons_zero, List.set_cons_succ]
        clear ap
        refine hK.out _ _ ?_ (fun hNew => ?_)
        · exact ⟨(HB3.out.cell (p := ⟨w.heap.size, 0, none⟩) (by show w.heap.size < _; omega)).trans B0.out, (HB3.out.cell (p := ⟨w.heap.size, 1, none⟩) (by show w.heap.size < _; omega)).trans B1.out, (HB3.out.cell (p := ⟨w.heap.size, 2, none⟩) (by show w.heap.size < _; omega)).trans B2.out, (HB3.out.cell (p := ⟨w.heap.size, 3, none⟩) (by show w.heap.size < _; omega)).trans B3.out⟩
        clear hK K hHeld
        have hHeld := hNew
        clear hNew
        refine wpAnyH_ready (rs := [14]) (by kernel_rfl) (by simp) ?_
        refine (AllReadyH.cons rfl (fun K hK => ?_) AllReadyH.nil)
        obtain ⟨g2, W4, hg, mk, hF, hG⟩ := makeIn (P := Try.prog) Kd.string 23 9 (.string ⟨#[]⟩) 16 Try.underlying23 (by kernel_rfl) rfl W3 l0_2.length H2.out (by omega)
        have ZC : w.heap.size + 2 ≤ W3.heap.size := by have := HB3.out.size; have := ZB.out; omega
        have z2 : Aside0 (w.heap.size + 2 ≤ g2) := ⟨by omega⟩
        have n12 : Aside0 (g1 ≠ g2) := ⟨by have := P1.out.lt; omega⟩
        have n32 : Aside0 (g3 ≠ g2) := ⟨by have := F3.out.lt; omega⟩
        have n21 : Aside0 (g2 ≠ g1) := ⟨Ne.symm n12.out⟩
        have n23 : Aside0 (g2 ≠ g3) := ⟨Ne.symm n32.out⟩
        have HB4 := Aside0.mk (nd_grown_below hG HB3.out ZC z2.out)
        replace P1 := Aside0.mk (P1.out.keep flat48 hG n12.out)
        replace F3 := Aside0.mk (F3.out.keep hG n32.out)
        have F2 := Aside0.mk hF
        clear hF hG hg ZC HB3
        go_simp
        clear mk
        refine hK.out _ _ ?_ (fun hNew => ?_)
        · exact ⟨(HB4.out.cell (p := ⟨w.heap.size, 0, none⟩) (by show w.heap.size < _; omega)).trans B0.out, (HB4.out.cell (p := ⟨w.heap.size, 1, none⟩) (by show w.heap.size < _; omega)).trans B1.out, (HB4.out.cell (p := ⟨w.heap.size, 2, none⟩) (by show w.heap.size < _; omega)).trans B2.out, (HB4.out.cell (p := ⟨w.heap.size, 3, none⟩) (by show w.heap.size < _; omega)).trans B3.out⟩
        clear hK K hHeld
        have hHeld := hNew
        clear hNew
        refine wpAnyH_ready (rs := [17]) (by kernel_rfl) (by simp) ?_
        refine (AllReadyH.cons rfl (fun K hK => ?_) AllReadyH.nil)
        obtain ⟨W5, ap, hP, hG⟩ := appendAt (P := Try.prog) Kd.string flatS 23 9 (.string ⟨#[]⟩) 16 Try.underlying23 (by kernel_rfl) rfl (by decide) 23 W4 A0_2 c0_2 l0_2 g2 (Kd.C_below R2.out ((XB.out.trans (HB4.out.mono (by omega))))) F2.out
        have ZC : w.heap.size + 2 ≤ W4.heap.size := by have := HB4.out.size; have := ZB.out; omega
        have HB5 := Aside0.mk (nd_grown_below hG HB4.out ZC z2.out)
        replace P1 := Aside0.mk (P1.out.keep flat48 hG n12.out)
        replace F3 := Aside0.mk (F3.out.keep hG n32.out)
        have P2 := Aside0.mk hP
        clear hP hG ZC HB4 F2
        rw [if_pos (by kernel_rfl)]
        refine oper_append_ran (.tmp 17) (.tmp 19) 23 rfl _ _ _ rfl rfl ap ?_
        simp only [Act.put, List.getElem_toArray, List.getElem_cons_zero, List.getElem_cons_succ, List.setIfInBounds_toArray, List.set_cons_zero, List.set_cons_succ]
        clear ap
        refine hK.out _ _ ?_ (fun hNew => ?_)
        · exact ⟨(HB5.out.cell (p := ⟨w.heap.size, 0, none⟩) (by show w.heap.size < _; omega)).trans B0.out, (HB5.out.cell (p := ⟨w.heap.size, 1, none⟩) (by show w.heap.size < _; omega)).trans B1.out, (HB5.out.cell (p := ⟨w.heap.size, 2, none⟩) (by show w.heap.size < _; omega)).trans B2.out, (HB5.out.cell (p := ⟨w.heap.size, 3, none⟩) (by show w.heap.size < _; omega)).trans B3.out⟩
        clear hK K hHeld
        have hHeld := hNew
        clear hNew
        refine wpAnyH_ready (rs := [25]) (by kernel_rfl) (by simp) ?_
        refine (AllReadyH.cons rfl (fun K hK => ?_) AllReadyH.nil)
        obtain ⟨W6, ap, hP, hG⟩ := appendAt (P := Try.prog) (Kd.int .i64) flatI 24 3 (.int .i64 0) 8 Try.underlying24 (by kernel_rfl) rfl (by decide) 24 W5 A0_3 c0_3 l0_3 g3 (Kd.C_below R3.out ((XB.out.trans (HB5.out.mono (by omega))))) F3.out
        have ZC : w.heap.size + 2 ≤ W5.heap.size := by have := HB5.out.size; have := ZB.out; omega
        have HB6 := Aside0.mk (nd_grown_below hG HB5.out ZC z3.out)
        replace P1 := Aside0.mk (P1.out.keep flat48 hG n13.out)
        replace P2 := Aside0.mk (P2.out.keep flatS hG n23.out)
        have P3 := Aside0.mk hP
        clear hP hG ZC HB5 F3
        rw [if_pos (by kernel_rfl)]
        refine oper_append_ran (.tmp 25) (.tmp 27) 24 rfl _ _ _ rfl rfl ap ?_
        simp only [Act.put, List.getElem_toArray, List.getElem_cons_zero, List.getElem_cons_succ, List.setIfInBounds_toArray, List.set_cons_zero, List.set_cons_succ]
        clear ap
        refine hK.out _ _ ?_ (fun hNew => ?_)
        · exact ⟨(HB6.out.cell (p := ⟨w.heap.size, 0, none⟩) (by show w.heap.size < _; omega)).trans B0.out, (HB6.out.cell (p := ⟨w.heap.size, 1, none⟩) (by show w.heap.size < _; omega)).trans B1.out, (HB6.out.cell (p := ⟨w.heap.size, 2, none⟩) (by show w.heap.size < _; omega)).trans B2.out, (HB6.out.cell (p := ⟨w.heap.size, 3, none⟩) (by show w.heap.size < _; omega)).trans B3.out⟩
        clear hK K hHeld
        have hHeld := hNew
        clear hNew
        refine wpAnyH_take (i := 26) (oi := _) (v := _) rfl (by kernel_rfl) (by kernel_rfl) (by kernel_rfl) (fun _ _ _ h => h) (Or.inl ⟨by rfl, by (intro w hSw; (try dsimp only at hSw); go_simp; try with_reducible rfl)⟩) hHeld ?_
        simp only [Act.put, List.getElem_toArray, List.getElem_cons_zero, List.getElem_cons_succ, List.setIfInBounds_toArray, List.set_cons_zero, List.set_cons_succ]
        refine wpAnyH_ready (rs := [27]) (by kernel_rfl) (by simp) ?_
        refine AllReadyH.cons rfl (fun K hK => ?_) AllReadyH.nil
        have t6 : W6.heap[w.heap.size + 1]? = some (.cells #[.bool false, .slice none 0 0, .slice none 0 0, .slice none 0 0] 31 (0, 0)) := (HB6.out.block _ (by omega)).trans TB.out
        have c0 : W6.cell? ⟨w.heap.size + 1, 0, none⟩ = some (.bool false) := blk_cell t6 0
        have c1 : W6.cell? ⟨w.heap.size + 1, 1, none⟩ = some (.slice none 0 0) := blk_cell t6 1
        have c2 : W6.cell? ⟨w.heap.size + 1, 2, none⟩ = some (.slice none 0 0) := blk_cell t6 2
        have c3 : W6.cell? ⟨w.heap.size + 1, 3, none⟩ = some (.slice none 0 0) := blk_cell t6 3
        have f0 : W6.frozen? ⟨w.heap.size + 1, 0, none⟩ = false := blk_frozen t6 0
        have f1 : W6.frozen? ⟨w.heap.size + 1, 1, none⟩ = false := blk_frozen t6 1
        have f2 : W6.frozen? ⟨w.heap.size + 1, 2, none⟩ = false := blk_frozen t6 2
        have f3 : W6.frozen? ⟨w.heap.size + 1, 3, none⟩ = false := blk_frozen t6 3
        go_simp
        obtain ⟨W7, e7, t7, G7⟩ := nd_set4 W6 (w.heap.size + 1) 31 _ _ _ _ (.bool a0_0) (.slice (some ⟨g1, 0, none⟩) l0_1.length (l0_1.length + 1)) (.slice (some ⟨g2, 0, none⟩) l0_2.length (l0_2.length + 1)) (.slice (some ⟨g3, 0, none⟩) l0_3.length (l0_3.length + 1)) t6
        rw [← e7]
        have HB7 := Aside0.mk (nd_grown_below G7 (XB.out.trans (HB6.out.mono (by omega))) (by have := XB.out.size; have := HB6.out.size; omega) (by omega))
        have P1' := Aside0.mk (P1.out.keep flat48 G7 (by have := z1.out; omega))
        have P2' := Aside0.mk (P2.out.keep flatS G7 (by have := z2.out; omega))
        have P3' := Aside0.mk (P3.out.keep flatI G7 (by have := z3.out; omega))
        have r0 : W7.cell? ⟨w.heap.size + 1, 0, none⟩ = some (.bool a0_0) := blk_cell t7 0
        have r1 : W7.cell? ⟨w.heap.size + 1, 1, none⟩ = some (.slice (some ⟨g1, 0, none⟩) l0_1.length (l0_1.length + 1)) := blk_cell t7 1
        have r2 : W7.cell? ⟨w.heap.size + 1, 2, none⟩ = some (.slice (some ⟨g2, 0, none⟩) l0_2.length (l0_2.length + 1)) := blk_cell t7 2
        have r3 : W7.cell? ⟨w.heap.size + 1, 3, none⟩ = some (.slice (some ⟨g3, 0, none⟩) l0_3.length (l0_3.length + 1)) := blk_cell t7 3
        refine hK.out _ _ ⟨nd_grown_cell G7 (by show w.heap.size ≠ _; omega) hHeld.1, nd_grown_cell G7 (by show w.heap.size ≠ _; omega) hHeld.2.1, nd_grown_cell G7 (by show w.heap.size ≠ _; omega) hHeld.2.2.1, nd_grown_cell G7 (by show w.heap.size ≠ _; omega) hHeld.2.2.2⟩ (fun _ => ?_)
        clear hK K hHeld e7 G7 c0 c1 c2 c3 f0 f1 f2 f3 t6 P1 P2 P3 HB6
        refine wpAnyH_done (by kernel_rfl) ?_ _
        go_wp2
        refine bodyPost_ret (results_cell_row rfl _ _ (w.heap.size + 1) 31 #[.bool a0_0, .slice (some ⟨g1, 0, none⟩) l0_1.length (l0_1.length + 1), .slice (some ⟨g2, 0, none⟩) l0_2.length (l0_2.length + 1), .slice (some ⟨g3, 0, none⟩) l0_3.length (l0_3.length + 1)] (0, 0) _ rfl t7 Try.underlying31 rfl (by kernel_rfl)) rfl ?_
        exact ⟨g1, g2, g3, rfl, by have := z1.out; omega, by have := z2.out; omega, by have := z3.out; omega, n12.out, n13.out, n23.out, P1'.out, P2'.out, P3'.out, HB7.out⟩
      · obtain ⟨g2, W3, hg, mk, hF, hG⟩ := makeIn (P := Try.prog) Kd.string 23 9 (.string ⟨#[]⟩) 16 Try.underlying23 (by kernel_rfl) rfl W2 l0_2.length H2.out (by omega)
        have ZC : w.heap.size + 2 ≤ W2.heap.size := by have := HB2.out.size; have := ZB.out; omega
        have z2 : Aside0 (w.heap.size + 2 ≤ g2) := ⟨by omega⟩
        have n12 : Aside0 (g1 ≠ g2) := ⟨by have := F1.out.lt; omega⟩
        have n32 : Aside0 (g3 ≠ g2) := ⟨by have := F3.out.lt; omega⟩
        have n21 : Aside0 (g2 ≠ g1) := ⟨Ne.symm n12.out⟩
        have n23 : Aside0 (g2 ≠ g3) := ⟨Ne.symm n32.out⟩
        have HB3 := Aside0.mk (nd_grown_below hG HB2.out ZC z2.out)
        replace F1 := Aside0.mk (F1.out.keep hG n12.out)
        replace F3 := Aside0.mk (F3.out.keep hG n32.out)
        have F2 := Aside0.mk hF
        clear hF hG hg ZC HB2
        go_simp
        clear mk
        refine hK.out _ _ ?_ (fun hNew => ?_)
        · exact ⟨(HB3.out.cell (p := ⟨w.heap.size, 0, none⟩) (by show w.heap.size < _; omega)).trans B0.out, (HB3.out.cell (p := ⟨w.heap.size, 1, none⟩) (by show w.heap.size < _; omega)).trans B1.out, (HB3.out.cell (p := ⟨w.heap.size, 2, none⟩) (by show w.heap.size < _; omega)).trans B2.out, (HB3.out.cell (p := ⟨w.heap.size, 3, none⟩) (by show w.heap.size < _; omega)).trans B3.out⟩
        clear hK K hHeld
        have hHeld := hNew
        clear hNew
        refine wpAnyH_ready (rs := [9]) (by kernel_rfl) (by simp) ?_
        refine (AllReadyH.cons rfl (fun K hK => ?_) AllReadyH.nil)
        obtain ⟨W4, ap, hP, hG⟩ := appendAt (P := Try.prog) k48 flat48 22 48 (.agg #[(.string ⟨#[]⟩), (.string ⟨#[]⟩)]) 32 Try.underlying22 (by kernel_rfl) rfl (by decide) 22 W3 A0_1 c0_1 l0_1 g1 (Kd.C_below R1.out ((XB.out.trans (HB3.out.mono (by omega))))) F1.out
        have ZC : w.heap.size + 2 ≤ W3.heap.size := by have := HB3.out.size; have := ZB.out; omega
        have HB4 := Aside0.mk (nd_grown_below hG HB3.out ZC z1.out)
        replace F2 := Aside0.mk (F2.out.keep hG n21.out)
        replace F3 := Aside0.mk (F3.out.keep hG n31.out)
        have P1 := Aside0.mk hP
        clear hP hG ZC HB3 F1
        rw [if_pos (by kernel_rfl)]
        refine oper_append_ran (.tmp 9) (.tmp 11) 22 rfl _ _ _ rfl rfl ap ?_
        simp only [Act.put, List.getElem_toArray, List.getElem_cons_zero, List.getElem_cons_succ, List.setIfInBounds_toArray, List.set_cons_zero, List.set_cons_succ]
        clear ap
        refine hK.out _ _ ?_ (fun hNew => ?_)
        · exact ⟨(HB4.out.cell (p := ⟨w.heap.size, 0, none⟩) (by show w.heap.size < _; omega)).trans B0.out, (HB4.out.cell (p := ⟨w.heap.size, 1, none⟩) (by show w.heap.size < _; omega)).trans B1.out, (HB4.out.cell (p := ⟨w.heap.size, 2, none⟩) (by show w.heap.size < _; omega)).trans B2.out, (HB4.out.cell (p := ⟨w.heap.size, 3, none⟩) (by show w.heap.size < _; omega)).trans B3.out⟩
        clear hK K hHeld
        have hHeld := hNew
        clear hNew
        refine wpAnyH_ready (rs := [17]) (by kernel_rfl) (by simp) ?_
        refine (AllReadyH.cons rfl (fun K hK => ?_) AllReadyH.nil)
        obtain ⟨W5, ap, hP, hG⟩ := appendAt (P := Try.prog) Kd.string flatS 23 9 (.string ⟨#[]⟩) 16 Try.underlying23 (by kernel_rfl) rfl (by decide) 23 W4 A0_2 c0_2 l0_2 g2 (Kd.C_below R2.out ((XB.out.trans (HB4.out.mono (by omega))))) F2.out
        have ZC : w.heap.size + 2 ≤ W4.heap.size := by have := HB4.out.size; have := ZB.out; omega
        have HB5 := Aside0.mk (nd_grown_below hG HB4.out ZC z2.out)
        replace P1 := Aside0.mk (P1.out.keep flat48 hG n12.out)
        replace F3 := Aside0.mk (F3.out.keep hG n32.out)
        have P2 := Aside0.mk hP
        clear hP hG ZC HB4 F2
        rw [if_pos (by kernel_rfl)]
        refine oper_append_ran (.tmp 17) (.tmp 19) 23 rfl _ _ _ rfl rfl ap ?_
        simp only [Act.put, List.getElem_toArray, List.getElem_cons_zero, List.getElem_cons_succ, List.setIfInBounds_toArray, List.set_cons_zero, List.set_cons_succ]
        clear ap
        refine hK.out _ _ ?_ (fun hNew => ?_)
        · exact ⟨(HB5.out.cell (p := ⟨w.heap.size, 0, none⟩) (by show w.heap.size < _; omega)).trans B0.out, (HB5.out.cell (p := ⟨w.heap.size, 1, none⟩) (by show w.heap.size < _; omega)).trans B1.out, (HB5.out.cell (p := ⟨w.heap.size, 2, none⟩) (by show w.heap.size < _; omega)).trans B2.out, (HB5.out.cell (p := ⟨w.heap.size, 3, none⟩) (by show w.heap.size < _; omega)).trans B3.out⟩
        clear hK K hHeld
        have hHeld := hNew
        clear hNew
        refine wpAnyH_ready (rs := [25]) (by kernel_rfl) (by simp) ?_
        refine (AllReadyH.cons rfl (fun K hK => ?_) AllReadyH.nil)
        obtain ⟨W6, ap, hP, hG⟩ := appendAt (P := Try.prog) (Kd.int .i64) flatI 24 3 (.int .i64 0) 8 Try.underlying24 (by kernel_rfl) rfl (by decide) 24 W5 A0_3 c0_3 l0_3 g3 (Kd.C_below R3.out ((XB.out.trans (HB5.out.mono (by omega))))) F3.out
        have ZC : w.heap.size + 2 ≤ W5.heap.size := by have := HB5.out.size; have := ZB.out; omega
        have HB6 := Aside0.mk (nd_grown_below hG HB5.out ZC z3.out)
        replace P1 := Aside0.mk (P1.out.keep flat48 hG n13.out)
        replace P2 := Aside0.mk (P2.out.keep flatS hG n23.out)
        have P3 := Aside0.mk hP
        clear hP hG ZC HB5 F3
        rw [if_pos (by kernel_rfl)]
        refine oper_append_ran (.tmp 25) (.tmp 27) 24 rfl _ _ _ rfl rfl ap ?_
        simp only [Act.put, List.getElem_toArray, List.getElem_cons_zero, List.getElem_cons_succ, List.setIfInBounds_toArray, List.set_cons_zero, List.set_cons_succ]
        clear ap
        refine hK.out _ _ ?_ (fun hNew => ?_)
        · exact ⟨(HB6.out.cell (p := ⟨w.heap.size, 0, none⟩) (by show w.heap.size < _; omega)).trans B0.out, (HB6.out.cell (p := ⟨w.heap.size, 1, none⟩) (by show w.heap.size < _; omega)).trans B1.out, (HB6.out.cell (p := ⟨w.heap.size, 2, none⟩) (by show w.heap.size < _; omega)).trans B2.out, (HB6.out.cell (p := ⟨w.heap.size, 3, none⟩) (by show w.heap.size < _; omega)).trans B3.out⟩
        clear hK K hHeld
        have hHeld := hNew
        clear hNew
        refine wpAnyH_take (i := 26) (oi := _) (v := _) rfl (by kernel_rfl) (by kernel_rfl) (by kernel_rfl) (fun _ _ _ h => h) (Or.inl ⟨by rfl, by (intro w hSw; (try dsimp only at hSw); go_simp; try with_reducible rfl)⟩) hHeld ?_
        simp only [Act.put, List.getElem_toArray, List.getElem_cons_zero, List.getElem_cons_succ, List.setIfInBounds_toArray, List.set_cons_zero, List.set_cons_succ]
        refine wpAnyH_ready (rs := [27]) (by kernel_rfl) (by simp) ?_
        refine AllReadyH.cons rfl (fun K hK => ?_) AllReadyH.nil
        have t6 : W6.heap[w.heap.size + 1]? = some (.cells #[.bool false, .slice none 0 0, .slice none 0 0, .slice none 0 0] 31 (0, 0)) := (HB6.out.block _ (by omega)).trans TB.out
        have c0 : W6.cell? ⟨w.heap.size + 1, 0, none⟩ = some (.bool false) := blk_cell t6 0
        have c1 : W6.cell? ⟨w.heap.size + 1, 1, none⟩ = some (.slice none 0 0) := blk_cell t6 1
        have c2 : W6.cell? ⟨w.heap.size + 1, 2, none⟩ = some (.slice none 0 0) := blk_cell t6 2
        have c3 : W6.cell? ⟨w.heap.size + 1, 3, none⟩ = some (.slice none 0 0) := blk_cell t6 3
        have f0 : W6.frozen? ⟨w.heap.size + 1, 0, none⟩ = false := blk_frozen t6 0
        have f1 : W6.frozen? ⟨w.heap.size + 1, 1, none⟩ = false := blk_frozen t6 1
        have f2 : W6.frozen? ⟨w.heap.size + 1, 2, none⟩ = false := blk_frozen t6 2
        have f3 : W6.frozen? ⟨w.heap.size + 1, 3, none⟩ = false := blk_frozen t6 3
        go_simp
        obtain ⟨W7, e7, t7, G7⟩ := nd_set4 W6 (w.heap.size + 1) 31 _ _ _ _ (.bool a0_0) (.slice (some ⟨g1, 0, none⟩) l0_1.length (l0_1.length + 1)) (.slice (some ⟨g2, 0, none⟩) l0_2.length (l0_2.length + 1)) (.slice (some ⟨g3, 0, none⟩) l0_3.length (l0_3.length + 1)) t6
        rw [← e7]
        have HB7 := Aside0.mk (nd_grown_below G7 (XB.out.trans (HB6.out.mono (by omega))) (by have := XB.out.size; have := HB6.out.size; omega) (by omega))
        have P1' := Aside0.mk (P1.out.keep flat48 G7 (by have := z1.out; omega))
        have P2' := Aside0.mk (P2.out.keep flatS G7 (by have := z2.out; omega))
        have P3' := Aside0.mk (P3.out.keep flatI G7 (by have := z3.out; omega))
        have r0 : W7.cell? ⟨w.heap.size + 1, 0, none⟩ = some (.bool a0_0) := blk_cell t7 0
        have r1 : W7.cell? ⟨w.heap.size + 1, 1, none⟩ = some (.slice (some ⟨g1, 0, none⟩) l0_1.length (l0_1.length + 1)) := blk_cell t7 1
        have r2 : W7.cell? ⟨w.heap.size + 1, 2, none⟩ = some (.slice (some ⟨g2, 0, none⟩) l0_2.length (l0_2.length + 1)) := blk_cell t7 2
        have r3 : W7.cell? ⟨w.heap.size + 1, 3, none⟩ = some (.slice (some ⟨g3, 0, none⟩) l0_3.length (l0_3.length + 1)) := blk_cell t7 3
        refine hK.out _ _ ⟨nd_grown_cell G7 (by show w.heap.size ≠ _; omega) hHeld.1, nd_grown_cell G7 (by show w.heap.size ≠ _; omega) hHeld.2.1, nd_grown_cell G7 (by show w.heap.size ≠ _; omega) hHeld.2.2.1, nd_grown_cell G7 (by show w.heap.size ≠ _; omega) hHeld.2.2.2⟩ (fun _ => ?_)
        clear hK K hHeld e7 G7 c0 c1 c2 c3 f0 f1 f2 f3 t6 P1 P2 P3 HB6
        refine wpAnyH_done (by kernel_rfl) ?_ _
        go_wp2
        refine bodyPost_ret (results_cell_row rfl _ _ (w.heap.size + 1) 31 #[.bool a0_0, .slice (some ⟨g1, 0, none⟩) l0_1.length (l0_1.length + 1), .slice (some ⟨g2, 0, none⟩) l0_2.length (l0_2.length + 1), .slice (some ⟨g3, 0, none⟩) l0_3.length (l0_3.length + 1)] (0, 0) _ rfl t7 Try.underlying31 rfl (by kernel_rfl)) rfl ?_
        exact ⟨g1, g2, g3, rfl, by have := z1.out; omega, by have := z2.out; omega, by have := z3.out; omega, n12.out, n13.out, n23.out, P1'.out, P2'.out, P3'.out, HB7.out⟩
    · obtain ⟨g2, W2, hg, mk, hF, hG⟩ := makeIn (P := Try.prog) Kd.string 23 9 (.string ⟨#[]⟩) 16 Try.underlying23 (by kernel_rfl) rfl W1 l0_2.length H2.out (by omega)
      have ZC : w.heap.size + 2 ≤ W1.heap.size := by have := HB1.out.size; have := ZB.out; omega
      have z2 : Aside0 (w.heap.size + 2 ≤ g2) := ⟨by omega⟩
      have n32 : Aside0 (g3 ≠ g2) := ⟨by have := F3.out.lt; omega⟩
      have n23 : Aside0 (g2 ≠ g3) := ⟨Ne.symm n32.out⟩
      have HB2 := Aside0.mk (nd_grown_below hG HB1.out ZC z2.out)
      replace F3 := Aside0.mk (F3.out.keep hG n32.out)
      have F2 := Aside0.mk hF
      clear hF hG hg ZC HB1
      go_simp
      clear mk
      refine hK.out _ _ ?_ (fun hNew => ?_)
      · exact ⟨(HB2.out.cell (p := ⟨w.heap.size, 0, none⟩) (by show w.heap.size < _; omega)).trans B0.out, (HB2.out.cell (p := ⟨w.heap.size, 1, none⟩) (by show w.heap.size < _; omega)).trans B1.out, (HB2.out.cell (p := ⟨w.heap.size, 2, none⟩) (by show w.heap.size < _; omega)).trans B2.out, (HB2.out.cell (p := ⟨w.heap.size, 3, none⟩) (by show w.heap.size < _; omega)).trans B3.out⟩
      clear hK K hHeld
      have hHeld := hNew
      clear hNew
      refine wpAnyH_ready (rs := [6]) (by kernel_rfl) (by simp) ?_
      refine (AllReadyH.cons rfl (fun K hK => ?_) AllReadyH.nil)
      obtain ⟨g1, W3, hg, mk, hF, hG⟩ := makeIn (P := Try.prog) k48 22 48 (.agg #[(.string ⟨#[]⟩), (.string ⟨#[]⟩)]) 32 Try.underlying22 (by kernel_rfl) rfl W2 l0_1.length H1.out (by omega)
      have ZC : w.heap.size + 2 ≤ W2.heap.size := by have := HB2.out.size; have := ZB.out; omega
      have z1 : Aside0 (w.heap.size + 2 ≤ g1) := ⟨by omega⟩
      have n21 : Aside0 (g2 ≠ g1) := ⟨by have := F2.out.lt; omega⟩
      have n31 : Aside0 (g3 ≠ g1) := ⟨by have := F3.out.lt; omega⟩
      have n12 : Aside0 (g1 ≠ g2) := ⟨Ne.symm n21.out⟩
      have n13 : Aside0 (g1 ≠ g3) := ⟨Ne.symm n31.out⟩
      have HB3 := Aside0.mk (nd_grown_below hG HB2.out ZC z1.out)
      replace F2 := Aside0.mk (F2.out.keep hG n21.out)
      replace F3 := Aside0.mk (F3.out.keep hG n31.out)
      have F1 := Aside0.mk hF
      clear hF hG hg ZC HB2
      go_simp
      clear mk
      refine hK.out _ _ ?_ (fun hNew => ?_)
      · exact ⟨(HB3.out.cell (p := ⟨w.heap.size, 0, none⟩) (by show w.heap.size < _; omega)).trans B0.out, (HB3.out.cell (p := ⟨w.heap.size, 1, none⟩) (by show w.heap.size < _; omega)).trans B1.out, (HB3.out.cell (p := ⟨w.heap.size, 2, none⟩) (by show w.heap.size < _; omega)).trans B2.out, (HB3.out.cell (p := ⟨w.heap.size, 3, none⟩) (by show w.heap.size < _; omega)).trans B3.out⟩
      clear hK K hHeld
      have hHeld := hNew
      clear hNew
      refine wpAnyH_ready (rs := [9]) (by kernel_rfl) (by simp) ?_
      refine (AllReadyH.cons rfl (fun K hK => ?_) AllReadyH.nil)
      obtain ⟨W4, ap, hP, hG⟩ := appendAt (P := Try.prog) k48 flat48 22 48 (.agg #[(.string ⟨#[]⟩), (.string ⟨#[]⟩)]) 32 Try.underlying22 (by kernel_rfl) rfl (by decide) 22 W3 A0_1 c0_1 l0_1 g1 (Kd.C_below R1.out ((XB.out.trans (HB3.out.mono (by omega))))) F1.out
      have ZC : w.heap.size + 2 ≤ W3.heap.size := by have := HB3.out.size; have := ZB.out; omega
      have HB4 := Aside0.mk (nd_grown_below hG HB3.out ZC z1.out)
      replace F2 := Aside0.mk (F2.out.keep hG n21.out)
      replace F3 := Aside0.mk (F3.out.keep hG n31.out)
      have P1 := Aside0.mk hP
      clear hP hG ZC HB3 F1
      rw [if_pos (by kernel_rfl)]
      refine oper_append_ran (.tmp 9) (.tmp 11) 22 rfl _ _ _ rfl rfl ap ?_
      simp only [Act.put, List.getElem_toArray, List.getElem_cons_zero, List.getElem_cons_succ, List.setIfInBounds_toArray, List.set_cons_zero, List.set_cons_succ]
      clear ap
      refine hK.out _ _ ?_ (fun hNew => ?_)
      · exact ⟨(HB4.out.cell (p := ⟨w.heap.size, 0, none⟩) (by show w.heap.size < _; omega)).trans B0.out, (HB4.out.cell (p := ⟨w.heap.size, 1, none⟩) (by show w.heap.size < _; omega)).trans B1.out, (HB4.out.cell (p := ⟨w.heap.size, 2, none⟩) (by show w.heap.size < _; omega)).trans B2.out, (HB4.out.cell (p := ⟨w.heap.size, 3, none⟩) (by show w.heap.size < _; omega)).trans B3.out⟩
      clear hK K hHeld
      have hHeld := hNew
      clear hNew
      refine wpAnyH_ready (rs := [17]) (by kernel_rfl) (by simp) ?_
      refine (AllReadyH.cons rfl (fun K hK => ?_) AllReadyH.nil)
      obtain ⟨W5, ap, hP, hG⟩ := appendAt (P := Try.prog) Kd.string flatS 23 9 (.string ⟨#[]⟩) 16 Try.underlying23 (by kernel_rfl) rfl (by decide) 23 W4 A0_2 c0_2 l0_2 g2 (Kd.C_below R2.out ((XB.out.trans (HB4.out.mono (by omega))))) F2.out
      have ZC : w.heap.size + 2 ≤ W4.heap.size := by have := HB4.out.size; have := ZB.out; omega
      have HB5 := Aside0.mk (nd_grown_below hG HB4.out ZC z2.out)
      replace P1 := Aside0.mk (P1.out.keep flat48 hG n12.out)
      replace F3 := Aside0.mk (F3.out.keep hG n32.out)
      have P2 := Aside0.mk hP
      clear hP hG ZC HB4 F2
      rw [if_pos (by kernel_rfl)]
      refine oper_append_ran (.tmp 17) (.tmp 19) 23 rfl _ _ _ rfl rfl ap ?_
      simp only [Act.put, List.getElem_toArray, List.getElem_cons_zero, List.getElem_cons_succ, List.setIfInBounds_toArray, List.set_cons_zero, List.set_cons_succ]
      clear ap
      refine hK.out _ _ ?_ (fun hNew => ?_)
      · exact ⟨(HB5.out.cell (p := ⟨w.heap.size, 0, none⟩) (by show w.heap.size < _; omega)).trans B0.out, (HB5.out.cell (p := ⟨w.heap.size, 1, none⟩) (by show w.heap.size < _; omega)).trans B1.out, (HB5.out.cell (p := ⟨w.heap.size, 2, none⟩) (by show w.heap.size < _; omega)).trans B2.out, (HB5.out.cell (p := ⟨w.heap.size, 3, none⟩) (by show w.heap.size < _; omega)).trans B3.out⟩
      clear hK K hHeld
      have hHeld := hNew
      clear hNew
      refine wpAnyH_ready (rs := [25]) (by kernel_rfl) (by simp) ?_
      refine (AllReadyH.cons rfl (fun K hK => ?_) AllReadyH.nil)
      obtain ⟨W6, ap, hP, hG⟩ := appendAt (P := Try.prog) (Kd.int .i64) flatI 24 3 (.int .i64 0) 8 Try.underlying24 (by kernel_rfl) rfl (by decide) 24 W5 A0_3 c0_3 l0_3 g3 (Kd.C_below R3.out ((XB.out.trans (HB5.out.mono (by omega))))) F3.out
      have ZC : w.heap.size + 2 ≤ W5.heap.size := by have := HB5.out.size; have := ZB.out; omega
      have HB6 := Aside0.mk (nd_grown_below hG HB5.out ZC z3.out)
      replace P1 := Aside0.mk (P1.out.keep flat48 hG n13.out)
      replace P2 := Aside0.mk (P2.out.keep flatS hG n23.out)
      have P3 := Aside0.mk hP
      clear hP hG ZC HB5 F3
      rw [if_pos (by kernel_rfl)]
      refine oper_append_ran (.tmp 25) (.tmp 27) 24 rfl _ _ _ rfl rfl ap ?_
      simp only [Act.put, List.getElem_toArray, List.getElem_cons_zero, List.getElem_cons_succ, List.setIfInBounds_toArray, List.set_cons_zero, List.set_cons_succ]
      clear ap
      refine hK.out _ _ ?_ (fun hNew => ?_)
      · exact ⟨(HB6.out.cell (p := ⟨w.heap.size, 0, none⟩) (by show w.heap.size < _; omega)).trans B0.out, (HB6.out.cell (p := ⟨w.heap.size, 1, none⟩) (by show w.heap.size < _; omega)).trans B1.out, (HB6.out.cell (p := ⟨w.heap.size, 2, none⟩) (by show w.heap.size < _; omega)).trans B2.out, (HB6.out.cell (p := ⟨w.heap.size, 3, none⟩) (by show w.heap.size < _; omega)).trans B3.out⟩
      clear hK K hHeld
      have hHeld := hNew
      clear hNew
      refine wpAnyH_take (i := 26) (oi := _) (v := _) rfl (by kernel_rfl) (by kernel_rfl) (by kernel_rfl) (fun _ _ _ h => h) (Or.inl ⟨by rfl, by (intro w hSw; (try dsimp only at hSw); go_simp; try with_reducible rfl)⟩) hHeld ?_
      simp only [Act.put, List.getElem_toArray, List.getElem_cons_zero, List.getElem_cons_succ, List.setIfInBounds_toArray, List.set_cons_zero, List.set_cons_succ]
      refine wpAnyH_ready (rs := [27]) (by kernel_rfl) (by simp) ?_
      refine AllReadyH.cons rfl (fun K hK => ?_) AllReadyH.nil
      have t6 : W6.heap[w.heap.size + 1]? = some (.cells #[.bool false, .slice none 0 0, .slice none 0 0, .slice none 0 0] 31 (0, 0)) := (HB6.out.block _ (by omega)).trans TB.out
      have c0 : W6.cell? ⟨w.heap.size + 1, 0, none⟩ = some (.bool false) := blk_cell t6 0
      have c1 : W6.cell? ⟨w.heap.size + 1, 1, none⟩ = some (.slice none 0 0) := blk_cell t6 1
      have c2 : W6.cell? ⟨w.heap.size + 1, 2, none⟩ = some (.slice none 0 0) := blk_cell t6 2
      have c3 : W6.cell? ⟨w.heap.size + 1, 3, none⟩ = some (.slice none 0 0) := blk_cell t6 3
      have f0 : W6.frozen? ⟨w.heap.size + 1, 0, none⟩ = false := blk_frozen t6 0
      have f1 : W6.frozen? ⟨w.heap.size + 1, 1, none⟩ = false := blk_frozen t6 1
      have f2 : W6.frozen? ⟨w.heap.size + 1, 2, none⟩ = false := blk_frozen t6 2
      have f3 : W6.frozen? ⟨w.heap.size + 1, 3, none⟩ = false := blk_frozen t6 3
      go_simp
      obtain ⟨W7, e7, t7, G7⟩ := nd_set4 W6 (w.heap.size + 1) 31 _ _ _ _ (.bool a0_0) (.slice (some ⟨g1, 0, none⟩) l0_1.length (l0_1.length + 1)) (.slice (some ⟨g2, 0, none⟩) l0_2.length (l0_2.length + 1)) (.slice (some ⟨g3, 0, none⟩) l0_3.length (l0_3.length + 1)) t6
      rw [← e7]
      have HB7 := Aside0.mk (nd_grown_below G7 (XB.out.trans (HB6.out.mono (by omega))) (by have := XB.out.size; have := HB6.out.size; omega) (by omega))
      have P1' := Aside0.mk (P1.out.keep flat48 G7 (by have := z1.out; omega))
      have P2' := Aside0.mk (P2.out.keep flatS G7 (by have := z2.out; omega))
      have P3' := Aside0.mk (P3.out.keep flatI G7 (by have := z3.out; omega))
      have r0 : W7.cell? ⟨w.heap.size + 1, 0, none⟩ = some (.bool a0_0) := blk_cell t7 0
      have r1 : W7.cell? ⟨w.heap.size + 1, 1, none⟩ = some (.slice (some ⟨g1, 0, none⟩) l0_1.length (l0_1.length + 1)) := blk_cell t7 1
      have r2 : W7.cell? ⟨w.heap.size + 1, 2, none⟩ = some (.slice (some ⟨g2, 0, none⟩) l0_2.length (l0_2.length + 1)) := blk_cell t7 2
      have r3 : W7.cell? ⟨w.heap.size + 1, 3, none⟩ = some (.slice (some ⟨g3, 0, none⟩) l0_3.length (l0_3.length + 1)) := blk_cell t7 3
      refine hK.out _ _ ⟨nd_grown_cell G7 (by show w.heap.size ≠ _; omega) hHeld.1, nd_grown_cell G7 (by show w.heap.size ≠ _; omega) hHeld.2.1, nd_grown_cell G7 (by show w.heap.size ≠ _; omega) hHeld.2.2.1, nd_grown_cell G7 (by show w.heap.size ≠ _; omega) hHeld.2.2.2⟩ (fun _ => ?_)
      clear hK K hHeld e7 G7 c0 c1 c2 c3 f0 f1 f2 f3 t6 P1 P2 P3 HB6
      refine wpAnyH_done (by kernel_rfl) ?_ _
      go_wp2
      refine bodyPost_ret (results_cell_row rfl _ _ (w.heap.size + 1) 31 #[.bool a0_0, .slice (some ⟨g1, 0, none⟩) l0_1.length (l0_1.length + 1), .slice (some ⟨g2, 0, none⟩) l0_2.length (l0_2.length + 1), .slice (some ⟨g3, 0, none⟩) l0_3.length (l0_3.length + 1)] (0, 0) _ rfl t7 Try.underlying31 rfl (by kernel_rfl)) rfl ?_
      exact ⟨g1, g2, g3, rfl, by have := z1.out; omega, by have := z2.out; omega, by have := z3.out; omega, n12.out, n13.out, n23.out, P1'.out, P2'.out, P3'.out, HB7.out⟩
end
end Go.Proofs.Ytjjfeoigjhbbpaa.PA
namespace Go.Proofs.Ytjjfeoigjhbbpaa.PA
section

open Go.RowKit Go.Proofs.YtjjfeoigjhbbpaaW.PrintWords Go.Proofs.YtjjfeoigjhbbpaaW.PrintLast Go.Proofs.YtjjfeoigjhbbpaaW.PrintMore
attribute [local go_sem] pr_leq pr_geq pr_gtr max2_int min2_int max_two min_two max_three min_three max_four min_four
set_option linter.unusedVariables false
set_option linter.unusedSimpArgs false

-- NOT PRINTED: function 17 (cisternref11_DocSplit)
theorem R_empty {α : Type} (d : Kd α) (e : Nat) (w : World) : d.R e (w.alloc (.cells #[] e)) w.heap.size (fun _ => True) (.slice (some ⟨w.heap.size, 0, none⟩) 0 0) [] :=
  ⟨fun _ _ => trivial, [], ⟨by simp, Or.inr ⟨w.heap.size, 0, #[], rfl, Nat.le_refl _, heap_alloc_new w _, Nat.le_refl _, by decide, by simp, by simp⟩⟩, Reps.none _ _⟩
def api_Pair_44.f (l0 : List (S48)) : Option (List (S48)) := if l0.length * 32 ≤ 140737488355328 then some l0 else none
set_option maxHeartbeats 2000000 in
set_option maxRecDepth 100000 in
theorem api_Pair_44.calls (A0 : Option Addr) (c0 : Nat) (l0 : List (S48)) (r : List (S48)) (w : World) (hr0 : Kd.C k48 w A0 l0.length l0) (hc0 : l0.length ≤ c0) (h : api_Pair_44.f l0 = some r) :
    Calls Try.prog 44 #[.slice A0 l0.length c0] w fun e w' => ∃ v0_ : Value, e = .returned (v0_) ∧ Kd.R k48 48 w' w.heap.size (fun _ => True) v0_ r ∧ Below w.heap.size w w' := by
  unfold api_Pair_44.f at h
  split at h
  · rename_i hb
    cases h
    cases A0 with
    | none =>
      have h0 : l0 = [] := by
        rcases Nat.eq_zero_or_pos l0.length with h0 | h0
        · exact List.eq_nil_of_length_eq_zero h0
        · obtain ⟨ad, h, _⟩ := hr0.2.2 h0
          cases h
      subst h0
      clear hr0 hc0 hb
      have q : ∀ (w : World) (a : Option Addr) (n c n' c' : Nat), (binOp .eql 22 (.slice a n c) (.slice none n' c')).run Try.prog w = .ok (.bool a.isNone) w := fun w a n c n' c' => Lib.run_eql_slice_nil w _ _ a n c n' c' Try.underlying22
      go_enter Try.func44, Try.ntmps44
      go_wp2
      go_ret
      exact ⟨_, rfl, Kd.R_nil _ _ _ _ _, Below.refl _ _⟩
    | some ad =>
      have HR := Aside0.mk hr0
      have HB := Aside0.mk hb
      have RE := Aside0.mk (R_empty k48 48 w)
      have BA := Aside0.mk (below_alloc (Below.refl w.heap.size w) (.cells #[] 48))
      have SA : Aside0 (w.heap.size ≤ (w.alloc (.cells #[] 48)).heap.size) := ⟨BA.out.size⟩
      clear hr0 hc0 hb
      have q : ∀ (w : World) (a : Option Addr) (n c n' c' : Nat), (binOp .eql 22 (.slice a n c) (.slice none n' c')).run Try.prog w = .ok (.bool a.isNone) w := fun w a n c n' c' => Lib.run_eql_slice_nil w _ _ a n c n' c' Try.underlying22
      go_enter Try.func44, Try.ntmps44
      go_wp2_with (first | (at_builtin; refine Kd.R_append_rows k48 (Rr := Kd.K k48 w) (w0 := w) w.heap.size rfl (.tmp 5) (.tmp 6) 22 48 (.agg #[(.string ⟨#[]⟩), (.string ⟨#[]⟩)]) 32 rfl Try.underlying22 (by kernel_rfl) rfl (by decide) (by decide) _ [] l0 (some ad) l0.length c0 (fun _ => True) (fun k => k < w.heap.size) rfl rfl RE.out ?aR ?aK ?aO (fun _ _ => trivial) BA.out SA.out ?aL ?_) | fail)
      case aR => exact (Kd.C_below HR.out BA.out)
      case aK => exact fun x cs hx => flat48 _ _ _ _ _ _ hx
      case aO => exact fun k hk => ⟨trivial, fun e => by have := Option.some.inj e; simp at this; omega⟩
      case aL => simpa using HB.out
      intro v1 w1 hR hB _ _
      have H1 := Aside0.mk hR
      have H2 := Aside0.mk hB
      clear hR hB
      go_wp2
      go_ret
      exact ⟨_, rfl, H1.out, H2.out⟩
  · cases h
def slices_Clone_int_int.f (l0 : List Int) : Option (List Int) := if l0.length * 8 ≤ 140737488355328 then some l0 else none
set_option maxHeartbeats 2000000 in
set_option maxRecDepth 100000 in
theorem slices_Clone_int_int.calls (A0 : Option Addr) (c0 : Nat) (l0 : List Int) (r : List Int) (w : World) (hr0 : Kd.C (Kd.int .i64) w A0 l0.length l0) (hc0 : l0.length ≤ c0) (h : slices_Clone_int_int.f l0 = some r) :
    Calls Try.prog 42 #[.slice A0 l0.length c0] w fun e w' => ∃ v0_ : Value, e = .returned (v0_) ∧ Kd.R (Kd.int .i64) 3 w' w.heap.size (fun _ => True) v0_ r ∧ Below w.heap.size w w' := by
  unfold slices_Clone_int_int.f at h
  split at h
  · rename_i hb
    cases h
    cases A0 with
    | none =>
      have h0 : l0 = [] := by
        rcases Nat.eq_zero_or_pos l0.length with h0 | h0
        · exact List.eq_nil_of_length_eq_zero h0
        · obtain ⟨ad, h, _⟩ := hr0.2.2 h0
          cases h
      subst h0
      clear hr0 hc0 hb
      have q : ∀ (w : World) (a : Option Addr) (n c n' c' : Nat), (binOp .eql 24 (.slice a n c) (.slice none n' c')).run Try.prog w = .ok (.bool a.isNone) w := fun w a n c n' c' => Lib.run_eql_slice_nil w _ _ a n c n' c' Try.underlying24
      go_enter Try.func42, Try.ntmps42
      go_wp2
      go_ret
      exact ⟨_, rfl, Kd.R_nil _ _ _ _ _, Below.refl _ _⟩
    | some ad =>
      have HR := Aside0.mk hr0
      have HB := Aside0.mk hb
      have RE := Aside0.mk (R_empty (Kd.int .i64) 3 w)
      have BA := Aside0.mk (below_alloc (Below.refl w.heap.size w) (.cells #[] 3))
      have SA : Aside0 (w.heap.size ≤ (w.alloc (.cells #[] 3)).heap.size) := ⟨BA.out.size⟩
      clear hr0 hc0 hb
      have q : ∀ (w : World) (a : Option Addr) (n c n' c' : Nat), (binOp .eql 24 (.slice a n c) (.slice none n' c')).run Try.prog w = .ok (.bool a.isNone) w := fun w a n c n' c' => Lib.run_eql_slice_nil w _ _ a n c n' c' Try.underlying24
      go_enter Try.func42, Try.ntmps42
      go_wp2_with (first | (at_builtin; refine Kd.R_append_rows (Kd.int .i64) (Rr := Kd.K (Kd.int .i64) w) (w0 := w) w.heap.size rfl (.tmp 5) (.tmp 6) 24 3 (.int .i64 0) 8 rfl Try.underlying24 (by kernel_rfl) rfl (by decide) (by decide) _ [] l0 (some ad) l0.length c0 (fun _ => True) (fun k => k < w.heap.size) rfl rfl RE.out ?aR ?aK ?aO (fun _ _ => trivial) BA.out SA.out ?aL ?_) | fail)
      case aR => exact (Kd.C_below HR.out BA.out)
      case aK => exact fun x cs hx => flatI _ _ _ _ _ _ hx
      case aO => exact fun k hk => ⟨trivial, fun e => by have := Option.some.inj e; simp at this; omega⟩
      case aL => simpa using HB.out
      intro v1 w1 hR hB _ _
      have H1 := Aside0.mk hR
      have H2 := Aside0.mk hB
      clear hR hB
      go_wp2
      go_ret
      exact ⟨_, rfl, H1.out, H2.out⟩
  · cases h
def slices_Clone_string_string.f (l0 : List ByteArray) : Option (List ByteArray) := if l0.length * 16 ≤ 140737488355328 then some l0 else none
set_option maxHeartbeats 2000000 in
set_option maxRecDepth 100000 in
theorem slices_Clone_string_string.calls (A0 : Option Addr) (c0 : Nat) (l0 : List ByteArray) (r : List ByteArray) (w : World) (hr0 : Kd.C Kd.string w A0 l0.length l0) (hc0 : l0.length ≤ c0) (h : slices_Clone_string_string.f l0 = some r) :
    Calls Try.prog 43 #[.slice A0 l0.length c0] w fun e w' => ∃ v0_ : Value, e = .returned (v0_) ∧ Kd.R Kd.string 9 w' w.heap.size (fun _ => True) v0_ r ∧ Below w.heap.size w w' := by
  unfold slices_Clone_string_string.f at h
  split at h
  · rename_i hb
    cases h
    cases A0 with
    | none =>
      have h0 : l0 = [] := by
        rcases Nat.eq_zero_or_pos l0.length with h0 | h0
        · exact List.eq_nil_of_length_eq_zero h0
        · obtain ⟨ad, h, _⟩ := hr0.2.2 h0
          cases h
      subst h0
      clear hr0 hc0 hb
      have q : ∀ (w : World) (a : Option Addr) (n c n' c' : Nat), (binOp .eql 23 (.slice a n c) (.slice none n' c')).run Try.prog w = .ok (.bool a.isNone) w := fun w a n c n' c' => Lib.run_eql_slice_nil w _ _ a n c n' c' Try.underlying23
      go_enter Try.func43, Try.ntmps43
      go_wp2
      go_ret
      exact ⟨_, rfl, Kd.R_nil _ _ _ _ _, Below.refl _ _⟩
    | some ad =>
      have HR := Aside0.mk hr0
      have HB := Aside0.mk hb
      have RE := Aside0.mk (R_empty Kd.string 9 w)
      have BA := Aside0.mk (below_alloc (Below.refl w.heap.size w) (.cells #[] 9))
      have SA : Aside0 (w.heap.size ≤ (w.alloc (.cells #[] 9)).heap.size) := ⟨BA.out.size⟩
      clear hr0 hc0 hb
      have q : ∀ (w : World) (a : Option Addr) (n c n' c' : Nat), (binOp .eql 23 (.slice a n c) (.slice none n' c')).run Try.prog w = .ok (.bool a.isNone) w := fun w a n c n' c' => Lib.run_eql_slice_nil w _ _ a n c n' c' Try.underlying23
      go_enter Try.func43, Try.ntmps43
      go_wp2_with (first | (at_builtin; refine Kd.R_append_rows Kd.string (Rr := Kd.K Kd.string w) (w0 := w) w.heap.size rfl (.tmp 5) (.tmp 6) 23 9 (.string ⟨#[]⟩) 16 rfl Try.underlying23 (by kernel_rfl) rfl (by decide) (by decide) _ [] l0 (some ad) l0.length c0 (fun _ => True) (fun k => k < w.heap.size) rfl rfl RE.out ?aR ?aK ?aO (fun _ _ => trivial) BA.out SA.out ?aL ?_) | fail)
      case aR => exact (Kd.C_below HR.out BA.out)
      case aK => exact fun x cs hx => flatS _ _ _ _ _ _ hx
      case aO => exact fun k hk => ⟨trivial, fun e => by have := Option.some.inj e; simp at this; omega⟩
      case aL => simpa using HB.out
      intro v1 w1 hR hB _ _
      have H1 := Aside0.mk hR
      have H2 := Aside0.mk hB
      clear hR hB
      go_wp2
      go_ret
      exact ⟨_, rfl, H1.out, H2.out⟩
  · cases h


-- NOT PRINTED: function 18 (node_Split)
end
end Go.Proofs.Ytjjfeoigjhbbpaa.PA
namespace Go.Proofs.Ytjjfeoigjhbbpaa.PA
section

open Go.RowKit Go.Proofs.YtjjfeoigjhbbpaaW.PrintWords Go.Proofs.YtjjfeoigjhbbpaaW.PrintLast Go.Proofs.YtjjfeoigjhbbpaaW.PrintMore
attribute [local go_sem] pr_leq pr_geq pr_gtr max2_int min2_int max_two min_two max_three min_three max_four min_four
set_option linter.unusedVariables false
set_option linter.unusedSimpArgs false
def cmpV (a b : ByteArray) : Int := if Op.bytesLess a.toList b.toList = true then -1 else if Op.bytesLess b.toList a.toList = true then 1 else 0
theorem isNaN_false (a : ByteArray) : cmp_isNaN_string.f a = some false := by
  unfold cmp_isNaN_string.f
  simp
set_option maxHeartbeats 1000000 in
set_option maxRecDepth 100000 in
theorem compareW (a b : ByteArray) (w : World) : Calls Try.prog 76 #[.string a, .string b] w fun e w' => e = .returned (.int .i64 (cmpV a b)) ∧ Below w.heap.size w w' := by
  have N1 := Aside0.mk (fun W => cmp_isNaN_string.calls a false W (isNaN_false a))
  have N2 := Aside0.mk (fun W => cmp_isNaN_string.calls b false W (isNaN_false b))
  unfold cmpV
  by_cases h1 : Op.bytesLess a.toList b.toList = true
  · rw [if_pos h1]
    go_enter Try.func76, Try.ntmps76
    go_wp2_with (first | (go_at_call 86; refine (N1.out _).mono ?_; rintro e w1 ⟨rfl, hd⟩) | fail)
    have B1 := Aside0.mk hd.below
    clear hd
    go_wp2_with (first | (go_at_call 86; refine (N2.out _).mono ?_; rintro e w2 ⟨rfl, hd⟩) | fail)
    have B2 := Aside0.mk (B1.out.trans (hd.below.mono B1.out.size))
    clear hd
    go_wp2
    go_ret
    exact ⟨rfl, B2.out⟩
  · rw [if_neg h1]
    rw [Bool.not_eq_true] at h1
    by_cases h2 : Op.bytesLess b.toList a.toList = true
    · rw [if_pos h2]
      go_enter Try.func76, Try.ntmps76
      go_wp2_with (first | (go_at_call 86; refine (N1.out _).mono ?_; rintro e w1 ⟨rfl, hd⟩) | fail)
      have B1 := Aside0.mk hd.below
      clear hd
      go_wp2_with (first | (go_at_call 86; refine (N2.out _).mono ?_; rintro e w2 ⟨rfl, hd⟩) | fail)
      have B2 := Aside0.mk (B1.out.trans (hd.below.mono B1.out.size))
      clear hd
      go_wp2
      go_ret
      exact ⟨rfl, B2.out⟩
    · rw [if_neg h2]
      rw [Bool.not_eq_true] at h2
      go_enter Try.func76, Try.ntmps76
      go_wp2_with (first | (go_at_call 86; refine (N1.out _).mono ?_; rintro e w1 ⟨rfl, hd⟩) | fail)
      have B1 := Aside0.mk hd.below
      clear hd
      go_wp2_with (first | (go_at_call 86; refine (N2.out _).mono ?_; rintro e w2 ⟨rfl, hd⟩) | fail)
      have B2 := Aside0.mk (B1.out.trans (hd.below.mono B1.out.size))
      clear hd
      go_wp2
      go_ret
      exact ⟨rfl, B2.out⟩
theorem cmp1W (x : S48) (k : ByteArray) (w : World) : Calls Try.prog 75 #[.agg #[.string x.f0, .string x.f1], .string k] w fun e w' => e = .returned (.int .i64 (cmpV x.f0 k)) ∧ Below w.heap.size w w' := by
  obtain ⟨a, b⟩ := x
  have hN := Aside0.mk (fun W => compareW a k W)
  have HB := Aside0.mk (below_alloc (Below.refl w.heap.size w) (.cells #[.string a, .string b] 48))
  have hbx := heap_alloc_new w (.cells #[.string a, .string b] 48)
  have b0 := (blk_cell hbx 0).trans rfl
  have b1 := (blk_cell hbx 1).trans rfl
  clear hbx
  go_enter Try.func75, Try.ntmps75
  go_wp2_with fail
  refine (hN.out _).mono ?_
  rintro e w' ⟨rfl, hd⟩
  have BW := Aside0.mk (HB.out.trans (hd.mono HB.out.size))
  clear hd b0 b1
  go_wp2
  go_ret
  exact ⟨rfl, BW.out⟩
theorem nd_u64_i64 (x : Int) (h0 : 0 ≤ x) (h1 : x < 18446744073709551616) : IntKind.u64.wrap (wrap64 x) = x := by
  have : ∀ y, IntKind.u64.wrap y = y % 18446744073709551616 := fun y => by simp [IntKind.wrap, IntKind.signed, IntKind.bits]
  rw [this]; unfold wrap64; omega
theorem u64_half (i j : Nat) (hi : i ≤ 9223372036854775807) (hj : j ≤ 9223372036854775807) : wrap64 (IntKind.u64.wrap (wrap64 ((i : Int) + (j : Int))) / 2) = (((i + j) / 2 : Nat) : Int) := by
  have e : IntKind.u64.wrap (wrap64 ((i : Int) + (j : Int))) = (i : Int) + (j : Int) := nd_u64_i64 _ (by omega) (by omega)
  rw [e]
  have e2 : ((i : Int) + (j : Int)) / 2 = (((i + j) / 2 : Nat) : Int) := by omega
  rw [e2]
  have e3 : (i + j) / 2 ≤ 9223372036854775807 := by omega
  unfold wrap64
  omega
def srch (lt : Nat → Bool) (i j : Nat) : Nat :=
  if _h : i < j then (if lt ((i + j) / 2) then srch lt ((i + j) / 2 + 1) j else srch lt i ((i + j) / 2)) else i
termination_by j - i
theorem srch_step (lt : Nat → Bool) {i j : Nat} (h : i < j) : srch lt i j = if lt ((i + j) / 2) then srch lt ((i + j) / 2 + 1) j else srch lt i ((i + j) / 2) := by
  conv => lhs; unfold srch
  rw [dif_pos h]
theorem srch_bounds (lt : Nat → Bool) : ∀ (n i j : Nat), j - i ≤ n → i ≤ j → i ≤ srch lt i j ∧ srch lt i j ≤ j
  | 0, i, j, h, hij => by
    unfold srch
    rw [dif_neg (by omega)]
    omega
  | n + 1, i, j, h, hij => by
    unfold srch
    split
    · split
      · have := srch_bounds lt n ((i + j) / 2 + 1) j (by omega) (by omega)
        omega
      · have := srch_bounds lt n i ((i + j) / 2) (by omega) (by omega)
        omega
    · omega
def ltP (l : List S48) (k : ByteArray) (m : Nat) : Bool := Op.bytesLess (l.getD m z48).f0.toList k.toList
def atP (l : List S48) (k : ByteArray) : Nat := srch (ltP l k) 0 l.length
def isP (l : List S48) (k : ByteArray) : Bool := decide (atP l k < l.length) && (cmpV (l.getD (atP l k) z48).f0 k == 0)
theorem cmp_lt (a b : ByteArray) : decide (cmpV a b < 0) = Op.bytesLess a.toList b.toList := by
  unfold cmpV
  cases h : Op.bytesLess a.toList b.toList
  · rw [if_neg (by decide)]
    split <;> rfl
  · rfl
set_option maxHeartbeats 4000000 in
set_option maxRecDepth 100000 in
theorem searchW (A0 : Option Addr) (c0 : Nat) (l0 : List S48) (key : ByteArray) (w : World) (hr0 : Kd.C k48 w A0 l0.length l0) (r1 : Nat) (r2 : Bool) (hr1 : r1 = atP l0 key) (hr2 : r2 = isP l0 key) :
    Calls Try.prog 74 #[.slice A0 l0.length c0, .string key, .func (.func 75) #[] #[]] w fun e w' => e = .returned (.tuple #[.int .i64 (r1 : Int), .bool r2]) ∧ Below w.heap.size w w' := by
  have L0 : l0.length ≤ 9223372036854775807 := hr0.2.1
  have R0 := Aside0.mk hr0
  have E1 := Aside0.mk hr1
  have E2 := Aside0.mk hr2
  have CM := Aside0.mk (fun x W => cmp1W x key W)
  clear hr0 hr1 hr2
  go_enter Try.func74, Try.ntmps74
  go_wp2_with fail
  go_loopw [9, 10] (fun v9 v10 w' => ∃ i j : Nat, i ≤ j ∧ j ≤ l0.length ∧ v9 = .int .i64 (i : Int) ∧ v10 = .int .i64 (j : Int) ∧ Aside0 (srch (ltP l0 key) i j = atP l0 key) ∧ Aside0 (Below w.heap.size w w')) (fun v9 v10 _ => (intOf v10 - intOf v9).toNat)
  case atStart => exact ⟨0, l0.length, by omega, by omega, rfl, rfl, ⟨rfl⟩, ⟨Below.refl _ _⟩⟩
  case round =>
    obtain ⟨i, j, hij, hj, rfl, rfl, HS, HB⟩ := hrel
    by_cases h : i < j
    · have d1 : decide (i < j) = true := decide_eq_true h
      have d1' : decide ((i : Int) < (j : Int)) = true := decide_eq_true (by omega)
      obtain ⟨m, hm⟩ : ∃ m, m = (i + j) / 2 := ⟨_, rfl⟩
      have hmj : m < l0.length := by omega
      have em : wrap64 (IntKind.u64.wrap (wrap64 ((i : Int) + (j : Int))) / 2) = (m : Int) := by rw [hm, u64_half i j (by omega) (by omega)]
      have p1 : (0 : Int) ≤ (m : Int) := by omega
      have q1 : (m : Int) < (l0.length : Int) := by omega
      obtain ⟨ad, rfl, hx0, hx1⟩ := at_T48 (Kd.C_below R0.out HB.out) (m : Int) p1 q1
      obtain ⟨x, hxx⟩ : ∃ x, x = rd_T48 l0 (m : Int) := ⟨_, rfl⟩
      rw [← hxx] at hx0 hx1
      rw [Int.toNat_natCast] at hx0 hx1
      have HX : Aside0 (x = l0.getD m z48) := ⟨by rw [hxx]; unfold rd_T48; rw [Int.toNat_natCast]⟩
      clear hxx
      have HM := Aside0.mk hm
      clear hm
      have HLT : Aside0 (decide (cmpV x.f0 key < 0) = ltP l0 key m) := ⟨by rw [cmp_lt, HX.out]; rfl⟩
      obtain ⟨lt, hlt⟩ : ∃ b, b = ltP l0 key m := ⟨_, rfl⟩
      rw [← hlt] at HLT
      have HL := Aside0.mk hlt
      clear hlt
      have hw1 : wrap64 ((m : Int) + 1) = ((m + 1 : Nat) : Int) := by unfold wrap64; omega
      go_wp2_with fail
      refine (CM.out x _).mono ?_
      rintro e w1 ⟨rfl, hB⟩
      have B1 := Aside0.mk (HB.out.trans (hB.mono HB.out.size))
      clear hB hx0 hx1
      have dl : decide (cmpV x.f0 key < 0) = lt := HLT.out
      cases lt
      · go_wp2_with fail
        go_roundw
        case rel => exact ⟨i, m, by have := HM.out; omega, by omega, rfl, by first | rfl | go_num, ⟨by rw [← HS.out, srch_step _ h, ← HM.out, ← HL.out]; rfl⟩, B1⟩
        case measure => have := HM.out; simp [intOf]; omega
      · go_wp2_with fail
        go_roundw
        case rel => exact ⟨m + 1, j, by have := HM.out; omega, by omega, by first | rfl | go_num, rfl, ⟨by rw [← HS.out, srch_step _ h, ← HM.out, ← HL.out]; rfl⟩, B1⟩
        case measure => have := HM.out; simp [intOf]; omega
    · have hd : decide ((i : Int) < (j : Int)) = false := decide_eq_false (by omega)
      have hd' : decide (i < j) = false := decide_eq_false h
      obtain rfl : i = j := by omega
      have hr : i = r1 := by have := HS.out; unfold srch at this; rw [dif_neg (by omega)] at this; rw [this, E1.out]
      have HR := Aside0.mk hr
      by_cases hl : i < l0.length
      · have p1 : (0 : Int) ≤ (i : Int) := by omega
        have q1 : (i : Int) < (l0.length : Int) := by omega
        obtain ⟨ad, rfl, hx0, hx1⟩ := at_T48 (Kd.C_below R0.out HB.out) (i : Int) p1 q1
        obtain ⟨x, hxx⟩ : ∃ x, x = rd_T48 l0 (i : Int) := ⟨_, rfl⟩
        rw [← hxx] at hx0 hx1
        rw [Int.toNat_natCast] at hx0 hx1
        have HX : Aside0 (x = l0.getD i z48) := ⟨by rw [hxx]; unfold rd_T48; rw [Int.toNat_natCast]⟩
        have HE : Aside0 ((cmpV x.f0 key == 0) = r2) := ⟨by rw [E2.out, HX.out]; unfold isP; rw [← E1.out, ← HR.out, decide_eq_true hl, Bool.true_and]⟩
        clear hxx hr
        have d1 : decide (i < l0.length) = true := decide_eq_true hl
        have d1' : decide ((i : Int) < (l0.length : Int)) = true := decide_eq_true q1
        go_wp2_with fail
        refine (CM.out x _).mono ?_
        rintro e w1 ⟨rfl, hB⟩
        have B1 := Aside0.mk (HB.out.trans (hB.mono HB.out.size))
        clear hB hx0 hx1
        go_wp2_with fail
        go_ret2
        exact ⟨by rw [← HR.out, ← HE.out]; rfl, B1.out⟩
      · have d1 : decide (i < l0.length) = false := decide_eq_false hl
        have d1' : decide ((i : Int) < (l0.length : Int)) = false := decide_eq_false (by omega)
        have HE : Aside0 (false = r2) := ⟨by rw [E2.out]; unfold isP; rw [← E1.out, ← HR.out, decide_eq_false hl, Bool.false_and]⟩
        clear hr
        go_wp2_with fail
        go_ret2
        exact ⟨by rw [← HR.out, ← HE.out]; rfl, HB.out⟩
def node_pairAt.f (l0 : List (S48)) (a1 : ByteArray) : Option (Int × Bool) := some ((atP l0 a1 : Int), isP l0 a1)
theorem node_pairAt.calls (A0 : Option Addr) (c0 : Nat) (l0 : List (S48)) (a1 : ByteArray) (r1 : Int) (r2 : Bool) (w : World) (hr0 : Kd.C k48 w A0 l0.length l0) (hc0 : l0.length ≤ c0) (h : node_pairAt.f l0 a1 = some (r1, r2)) :
    Calls Try.prog 53 #[.slice A0 l0.length c0, .string a1] w fun e w' => e = .returned (.tuple #[.int .i64 r1, .bool r2]) ∧ Below w.heap.size w w' := by
  cases h
  have hS := Aside0.mk (searchW A0 c0 l0 a1 w hr0 _ _ rfl rfl)
  clear hr0 hc0
  go_enter Try.func53, Try.ntmps53
  go_wp2_with (first | (go_at_call 74; refine hS.out.mono ?_; rintro e w' ⟨rfl, hb⟩) | fail)
  have HB := Aside0.mk hb
  clear hb
  go_wp2
  go_ret2
  exact ⟨rfl, HB.out⟩
end
end Go.Proofs.Ytjjfeoigjhbbpaa.PA
namespace Go.Proofs.Ytjjfeoigjhbbpaa.PA
section

open Go.RowKit Go.Proofs.YtjjfeoigjhbbpaaW.PrintWords Go.Proofs.YtjjfeoigjhbbpaaW.PrintLast Go.Proofs.YtjjfeoigjhbbpaaW.PrintMore
attribute [local go_sem] pr_leq pr_geq pr_gtr max2_int min2_int max_two min_two max_three min_three max_four min_four
set_option linter.unusedVariables false
set_option linter.unusedSimpArgs false
def flatP (l : List S48) : List Value := l.flatMap fun p => [.string p.f0, .string p.f1]
theorem flatP_length (l : List S48) : (flatP l).length = l.length * 2 := by
  induction l with
  | nil => rfl
  | cons p l ih => show (_ ++ flatP l).length = _; rw [List.length_append, ih]; simp; omega
theorem flatP_append (a b : List S48) : flatP (a ++ b) = flatP a ++ flatP b := List.flatMap_append
theorem flatP_one (l : List S48) : ∀ u ∈ flatP l, u.oneCell' = true := by
  intro u hu
  obtain ⟨p, _, h⟩ := List.mem_flatMap.1 hu
  simp at h
  rcases h with rfl | rfl <;> rfl
theorem flatP_take (l : List S48) (i : Nat) : flatP (l.take i) = (flatP l).take (i * 2) := by
  induction l generalizing i with
  | nil => simp [flatP]
  | cons p l ih =>
    cases i with
    | zero => simp [flatP]
    | succ i =>
      rw [List.take_succ_cons, show (i + 1) * 2 = i * 2 + 1 + 1 by omega]
      show _ ++ flatP (l.take i) = (([_, _] : List Value) ++ flatP l).take _
      rw [ih]
      rfl
theorem flatP_drop (l : List S48) (i : Nat) : flatP (l.drop i) = (flatP l).drop (i * 2) := by
  have h : flatP l = flatP (l.take i) ++ flatP (l.drop i) := by rw [← flatP_append, List.take_append_drop]
  rcases Nat.lt_or_ge l.length i with hi | hi
  · rw [List.drop_eq_nil_of_le (by omega), List.drop_eq_nil_of_le (by rw [flatP_length]; omega)]
    rfl
  · rw [h, List.drop_left' (by rw [flatP_length, List.length_take]; omega)]
theorem reps_flat {w : World} {b : Nat} {ok : Nat → Prop} : ∀ {xs : List S48} {inner : List Value}, Reps (k48.M w b ok) 2 xs inner → inner = flatP xs
  | [], inner, h => List.eq_nil_of_length_eq_zero (by rw [h.1]; rfl)
  | p :: xs, inner, h => by
    have h1 := h.2 0 p rfl
    have h2 : Reps (k48.M w b ok) 2 xs (inner.drop 2) := by
      have := Kd.reps_drop (m := 1) h
      simpa using this
    have h3 := reps_flat h2
    obtain ⟨c0, c1, hc, e0, e1⟩ := h1
    rw [Nat.zero_mul, List.drop_zero] at hc
    have : inner = inner.take 2 ++ inner.drop 2 := (List.take_append_drop 2 inner).symm
    rw [this, hc, h3]
    rw [e0, e1]
    rfl
theorem flat_reps {w : World} {b : Nat} {ok : Nat → Prop} (xs : List S48) : Reps (k48.M w b ok) 2 xs (flatP xs) := by
  refine ⟨flatP_length xs, fun j p hj => ?_⟩
  rw [← flatP_drop]
  have hl : j < xs.length := (List.getElem?_eq_some_iff.1 hj).1
  have : xs.drop j = p :: xs.drop (j + 1) := by rw [List.drop_eq_getElem_cons hl]; rw [List.getElem?_eq_getElem hl] at hj; rw [Option.some.inj hj]
  rw [this]
  exact ⟨[_], [_], rfl, rfl, rfl⟩
theorem R48_mk {w : World} {B g c : Nat} {cs : Array Value} {xs : List S48} (hB : B ≤ g) (hh : w.heap[g]? = some (.cells cs 48 (0, 0))) (hl : xs.length ≤ c) (hc : c ≤ maxLen) (hs : cs.size = c * 2) (ht : cs.toList.take (xs.length * 2) = flatP xs) :
    k48.R 48 w B (fun _ => True) (.slice (some ⟨g, 0, none⟩) xs.length c) xs :=
  ⟨fun _ _ => trivial, flatP xs, ⟨flatP_length xs, Or.inr ⟨g, c, cs, rfl, hB, hh, hl, hc, hs, ht⟩⟩, flat_reps xs⟩
theorem R48_open {w : World} {B n c : Nat} {A : Option Addr} {xs : List S48} (h : k48.R 48 w B (fun _ => True) (.slice A n c) xs) :
    n = xs.length ∧ ((A = none ∧ xs = []) ∨ ∃ g cs, A = some ⟨g, 0, none⟩ ∧ B ≤ g ∧ w.heap[g]? = some (.cells cs 48 (0, 0)) ∧ xs.length ≤ c ∧ c ≤ maxLen ∧ cs.size = c * 2 ∧ cs.toList.take (xs.length * 2) = flatP xs) := by
  have hn := (Kd.R_reads' h).1
  obtain ⟨_, inner, ho, hr⟩ := h
  have hi := reps_flat hr
  refine ⟨hn, ?_⟩
  rcases ho.2 with ⟨hv, h0⟩ | ⟨g, cap, cur, hv, a1, a2, a3, a4, a5, a6⟩
  · injection hv with e1 e2 e3
    exact Or.inl ⟨e1, List.eq_nil_of_length_eq_zero h0⟩
  · injection hv with e1 e2 e3
    subst e3
    exact Or.inr ⟨g, cur, e1, a1, a2, a3, a4, a5, by rw [← hi]; exact a6⟩
theorem run_copyN {P : Program} (w : World) (t ty e : TypeId) (sz b o dLen dCap : Nat) (a : Addr) (sLen sCap : Nat) (cs : List Value)
    (hu : P.underlying t = some (.slice e)) (hs : (P.info? e).map (·.size) = some sz) (hn : cs.length = Nat.min sLen dLen * sz)
    (hsrc : ∀ j v, cs[j]? = some v → w.cell? (a.add j) = some v) (hc : ∀ j, j < cs.length → (w.cell? ⟨b, o + j, none⟩).isSome = true) (hf : ∀ j, j < cs.length → w.frozen? ⟨b, o + j, none⟩ = false) (h1 : ∀ v ∈ cs, v.oneCell' = true) :
    (Builtin.copy_ #[t, t] ty #[.slice (some ⟨b, o, none⟩) dLen dCap, .slice (some a) sLen sCap]).run P w = .ok (goInt (Nat.min sLen dLen)) (w.setCells b o cs) := by
  have hl := run_loadCells_list (P := P) w a cs hsrc
  have hst := run_storeCells_cells (P := P) b o cs 0 w (by simpa using hc) (by simpa using hf) h1
  cases hq : P.info? e with
  | none => simp [hq] at hs
  | some i =>
    have hi : i.size = sz := by simpa [hq] using hs
    simp [Builtin.copy_, run_underlying hu, Builtin.lenOf, Builtin.firstCells, sizeOf, typeInfo, hq, hi, ← hn, hl, hst]
theorem oper_copy_ran {P : Program} {o : Oper} {a : Act} {Q : Exit → Act → World → Prop} {K : Act → World → Prop} {w w' : World} (s x : Operand) (t : TypeId)
    (hop : o.op = Op.call { callee := Callee.builtin Builtin.copy, args := #[s, x], argTypes := #[t, t] }) (v1 v2 v : Value) (hs : a.eval s = v1) (hx : a.eval x = v2)
    (hrun : (Builtin.copy_ #[t, t] o.type #[v1, v2]).run P w = .ok v w') (h : K (a.put o.dst v) w') : Oper.wp P o a w K Q := by
  unfold Oper.wp execOp
  simp only [hop, resolve, invoke, builtin, Sem.run_bind, Sem.run_pure, Result.andThen_ok, List.map_toArray, List.map_cons, List.map_nil, hs, hx, hrun]
  exact h
theorem wpList_copy_ran {P : Program} {ops : Array Oper} {rest : List Oper} {o : Oper} {a : Act} {Q : Exit → Act → World → Prop} {w w' : World} (hg : o.guard = none) (s x : Operand) (t : TypeId)
    (hop : o.op = Op.call { callee := Callee.builtin Builtin.copy, args := #[s, x], argTypes := #[t, t] }) (v1 v2 v : Value) (hs : a.eval s = v1) (hx : a.eval x = v2)
    (hrun : (Builtin.copy_ #[t, t] o.type #[v1, v2]).run P w = .ok v w') (h : wpList P ops Q rest (a.put o.dst v) w') : wpList P ops Q (o :: rest) a w :=
  wpList_plain hg fun _ hK => oper_copy_ran s x t hop v1 v2 v hs hx hrun (hK _ _ h)
set_option maxHeartbeats 4000000 in
set_option maxRecDepth 100000 in
theorem insert_end (B : Nat) (A : Option Addr) (c : Nat) (xs : List S48) (i vb : Nat) (p : S48) (w : World) (HO : k48.R 48 w B (fun _ => True) (.slice A xs.length c) xs) (hv : w.heap[vb]? = some (.cells #[.string p.f0, .string p.f1] 48 (0, 0))) (hBw : B ≤ w.heap.size) (hc : xs.length ≤ c) (hn : xs.length ≤ 254) (hi : i = xs.length) :
    Calls Try.prog 54 #[.slice A xs.length c, .int .i64 (i : Int), .slice (some ⟨vb, 0, none⟩) 1 1] w fun e w' => ∃ v', e = .returned v' ∧ k48.R 48 w' B (fun _ => True) v' (xs.take i ++ p :: xs.drop i) ∧ w.grownBy w' (Value.slice A xs.length c).ownBlock ∧ Below B w w' := by
  subst hi
  have H := Aside0.mk HO
  have HV : Aside0 (ReadsRow (k48.K w) k48.sz w (some ⟨vb, 0, none⟩) 1 [p]) := ⟨⟨rfl, by decide, fun _ => ⟨_, rfl, fun j q hj => by
    cases j with
    | zero =>
      cases hj
      refine ⟨[.string p.f0, .string p.f1], rfl, ⟨[_], [_], rfl, rfl, rfl⟩, fun i u hu => ?_⟩
      rw [add_plain, blk_cell hv]
      match i, hu with
      | 0, hu => exact hu
      | 1, hu => exact hu
    | succ j => cases hj⟩⟩⟩
  have HB := Aside0.mk hBw
  clear HO hv hBw
  by_cases hci : c = xs.length
  · subst hci
    go_enter Try.func54, Try.ntmps54
    go_wp2_with (first | (at_builtin; refine Kd.R_append_rows k48 (Rr := Kd.K k48 w) (w0 := w) B rfl (.tmp 23) (.tmp 24) 22 48 (.agg #[(.string ⟨#[]⟩), (.string ⟨#[]⟩)]) 32 rfl Try.underlying22 (by kernel_rfl) rfl (by decide) (by decide) _ xs [p] (some ⟨vb, 0, none⟩) 1 1 (fun _ => True) (fun _ => False) rfl rfl H.out HV.out ?aK (fun k hk => hk.elim) (fun _ _ => trivial) (Below.refl B w) HB.out ?aL ?_) | fail)
    case aK => exact fun x cs hx => flat48 _ _ _ _ _ _ hx
    case aL => omega
    intro v1 w1 hR hB hg _
    have H1 := Aside0.mk hR
    have H2 := Aside0.mk hB
    have H3 := Aside0.mk hg
    clear hR hB hg
    go_wp2
    go_ret
    exact ⟨_, rfl, by rw [List.take_length, List.drop_length]; exact H1.out, H3.out, H2.out⟩
  · clear hc
    go_enter Try.func54, Try.ntmps54
    go_wp2_with (first | (at_builtin; refine Kd.R_append_rows k48 (Rr := Kd.K k48 w) (w0 := w) B rfl (.tmp 23) (.tmp 24) 22 48 (.agg #[(.string ⟨#[]⟩), (.string ⟨#[]⟩)]) 32 rfl Try.underlying22 (by kernel_rfl) rfl (by decide) (by decide) _ xs [p] (some ⟨vb, 0, none⟩) 1 1 (fun _ => True) (fun _ => False) rfl rfl H.out HV.out ?aK (fun k hk => hk.elim) (fun _ _ => trivial) (Below.refl B w) HB.out ?aL ?_) | fail)
    case aK => exact fun x cs hx => flat48 _ _ _ _ _ _ hx
    case aL => omega
    intro v1 w1 hR hB hg _
    have H1 := Aside0.mk hR
    have H2 := Aside0.mk hB
    have H3 := Aside0.mk hg
    clear hR hB hg
    go_wp2
    go_ret
    exact ⟨_, rfl, by rw [List.take_length, List.drop_length]; exact H1.out, H3.out, H2.out⟩
theorem ins_list {xs : List S48} {cs : List Value} {p : S48} {i : Nat} (ht : cs.take (xs.length * 2) = flatP xs) (hi : i < xs.length) (hF : (flatP (xs.drop i)).length = (xs.length - i) * 2) (hs : (xs.length + 1) * 2 ≤ cs.length) :
    ((((cs.take ((i + 1) * 2) ++ flatP (xs.drop i) ++ cs.drop ((i + 1) * 2 + (flatP (xs.drop i)).length)).take (i * 2)) ++ [Value.string p.f0, Value.string p.f1] ++ ((cs.take ((i + 1) * 2) ++ flatP (xs.drop i) ++ cs.drop ((i + 1) * 2 + (flatP (xs.drop i)).length)).drop (i * 2 + ([Value.string p.f0, Value.string p.f1] : List Value).length))).take ((xs.length + 1) * 2)) = flatP (xs.take i ++ p :: xs.drop i) := by
  have e1 : (cs.take ((i + 1) * 2) ++ flatP (xs.drop i) ++ cs.drop ((i + 1) * 2 + (flatP (xs.drop i)).length)).take (i * 2) = flatP (xs.take i) := by
    rw [List.append_assoc, List.take_append_of_le_length (by rw [List.length_take]; omega), List.take_take, Nat.min_eq_left (by omega), flatP_take, ← ht, List.take_take, Nat.min_eq_left (by omega)]
  have e2 : (cs.take ((i + 1) * 2) ++ flatP (xs.drop i) ++ cs.drop ((i + 1) * 2 + (flatP (xs.drop i)).length)).drop (i * 2 + ([Value.string p.f0, Value.string p.f1] : List Value).length) = flatP (xs.drop i) ++ cs.drop ((i + 1) * 2 + (flatP (xs.drop i)).length) := by
    rw [List.append_assoc, List.drop_left' (by rw [List.length_take]; simp; omega)]
  rw [e1, e2, flatP_append]
  have e3 : flatP (p :: xs.drop i) = [Value.string p.f0, Value.string p.f1] ++ flatP (xs.drop i) := rfl
  rw [e3, ← List.append_assoc, ← List.append_assoc]
  refine List.take_left' ?_
  rw [List.length_append, List.length_append, flatP_length, hF, List.length_take]
  show min i xs.length * 2 + 2 + _ = _
  omega
set_option maxHeartbeats 4000000 in
set_option maxRecDepth 100000 in
theorem insert_room (B g c : Nat) (xs : List S48) (i vb : Nat) (p : S48) (w : World) (A : Option Addr) (hA : A = some ⟨g, 0, none⟩) (hg : B ≤ g) (cs : Array Value) (hh : w.heap[g]? = some (.cells cs 48 (0, 0))) (hcm : c ≤ maxLen) (hcs : cs.size = c * 2) (ht : cs.toList.take (xs.length * 2) = flatP xs) (hv : w.heap[vb]? = some (.cells #[.string p.f0, .string p.f1] 48 (0, 0))) (hvg : vb ≠ g) (hBw : B ≤ w.heap.size) (hc : xs.length + 1 ≤ c) (hn : xs.length ≤ 254) (hi : i < xs.length) :
    Calls Try.prog 54 #[.slice A xs.length c, .int .i64 (i : Int), .slice (some ⟨vb, 0, none⟩) 1 1] w fun e w' => ∃ v', e = .returned v' ∧ k48.R 48 w' B (fun _ => True) v' (xs.take i ++ p :: xs.drop i) ∧ w.grownBy w' (Value.slice A xs.length c).ownBlock ∧ Below B w w' := by
  subst hA
  have hc63 : c ≤ 9223372036854775807 := by unfold maxLen at hcm; omega
  have hF : (flatP (xs.drop i)).length = (xs.length - i) * 2 := by rw [flatP_length, List.length_drop]
  have hov : ∀ lb cb, (callFunc 77 #[.slice (some ⟨vb, 0, none⟩) 1 1, .slice (some ⟨g, (i + 1) * 2, none⟩) lb cb]).run Try.prog w = .ok (.value (.bool false)) w := fun lb cb => by
    rw [run_callFunc_extern Try.func77 (by kernel_rfl) (by kernel_rfl) (by kernel_rfl) (e := Extern.SlicesOverlaps.overlaps #[22, 22] #[4]) (by kernel_rfl),
      Lib.run_overlaps_apart w 22 4 48 Try.underlying22 2 Try.sizeOf48 ⟨vb, 0, none⟩ ⟨g, (i + 1) * 2, none⟩ 1 1 lb cb hvg 48 48 2 (c * 2) (by simp [World.shape?, hv]) (by simp [World.shape?, hh, hcs]) (by omega) (blk_frozen hv _) (blk_frozen hv _)]
    rfl
  obtain ⟨cur1, a1, a2, a3⟩ := setCells_row (flatP (xs.drop i)) ((i + 1) * 2) w.drew cs hh (by rw [hF]; omega)
  obtain ⟨W1, hW1⟩ : ∃ W1, W1 = w.drew.setCells g ((i + 1) * 2) (flatP (xs.drop i)) := ⟨_, rfl⟩
  rw [← hW1] at a1
  have hcp1 : ∀ ty dc sc, (Builtin.copy_ #[22, 22] ty #[.slice (some ⟨g, (i + 1) * 2, none⟩) (xs.length + 1 - (i + 1)) dc, .slice (some ⟨g, i * 2, none⟩) (xs.length + 1 - i) sc]).run Try.prog w.drew = .ok (goInt (Nat.min (xs.length + 1 - i) (xs.length + 1 - (i + 1)))) W1 := fun ty dc sc => by
    rw [hW1]
    refine run_copyN w.drew 22 ty 48 2 g ((i + 1) * 2) _ dc ⟨g, i * 2, none⟩ _ sc (flatP (xs.drop i)) Try.underlying22 (by kernel_rfl) (by rw [hF]; simp only [Nat.min_def]; split <;> omega) (fun j v hj => ?_) (fun j hj => ?_) (fun j hj => blk_frozen (w := w) hh _) (flatP_one _)
    · rw [flatP_drop, ← ht, List.getElem?_drop, List.getElem?_take] at hj
      split at hj
      · rw [Addr.add_lit]
        show w.cell? ⟨g, i * 2 + j, none⟩ = _
        rw [blk_cell hh, ← hj, Array.getElem?_toList]
      · cases hj
    · show (w.cell? ⟨g, _, none⟩).isSome = true
      rw [blk_cell hh, Array.getElem?_eq_getElem (by rw [hcs]; rw [hF] at hj; omega)]
      rfl
  have g1 : w.grownBy W1 (some g) := by
    rw [hW1]
    exact grown_setCells g _ _ _ _ ⟨rfl, rfl, rfl, Nat.le_refl _, fun _ _ _ => rfl⟩
  obtain ⟨cur2, b1, b2, b3⟩ := setCells_row [.string p.f0, .string p.f1] (i * 2) W1 cur1 a1 (by rw [a2, hcs]; simp; omega)
  obtain ⟨W2, hW2⟩ : ∃ W2, W2 = W1.setCells g (i * 2) [.string p.f0, .string p.f1] := ⟨_, rfl⟩
  rw [← hW2] at b1
  have hvw : W1.heap[vb]? = some (.cells #[.string p.f0, .string p.f1] 48 (0, 0)) := (g1.block vb (blk_lt hv) (fun e => hvg (Option.some.inj e))).trans hv
  have hcp2 : ∀ ty dc, (Builtin.copy_ #[22, 22] ty #[.slice (some ⟨g, i * 2, none⟩) (xs.length + 1 - i) dc, .slice (some ⟨vb, 0, none⟩) 1 1]).run Try.prog W1 = .ok (goInt (Nat.min 1 (xs.length + 1 - i))) W2 := fun ty dc => by
    rw [hW2]
    refine run_copyN W1 22 ty 48 2 g (i * 2) _ dc ⟨vb, 0, none⟩ 1 1 [.string p.f0, .string p.f1] Try.underlying22 (by kernel_rfl) (by simp only [Nat.min_def, List.length_cons, List.length_nil]; split <;> omega) (fun j v hj => ?_) (fun j hj => ?_) (fun j hj => blk_frozen a1 _) (by intro v hv; simp at hv; rcases hv with rfl | rfl <;> rfl)
    · rw [add_plain, blk_cell hvw, ← Array.getElem?_toList]
      exact hj
    · rw [blk_cell a1, Array.getElem?_eq_getElem (by rw [a2, hcs]; simp at hj; omega)]
      rfl
  have g2 : w.grownBy W2 (some g) := by
    rw [hW2]
    exact grown_setCells g _ _ _ _ g1
  have hR : k48.R 48 W2 B (fun _ => True) (.slice (some ⟨g, 0, none⟩) (xs.length + 1) c) (xs.take i ++ p :: xs.drop i) := by
    have hlen : (xs.take i ++ p :: xs.drop i).length = xs.length + 1 := by rw [List.length_append, List.length_cons, List.length_take, List.length_drop]; omega
    have h := R48_mk (xs := xs.take i ++ p :: xs.drop i) (c := c) hg b1 (by rw [hlen]; exact hc) hcm (by rw [b2, a2, hcs]) (by
      rw [hlen, b3, a3]
      exact ins_list ht hi hF (by have e : cs.toList.length = cs.size := Array.length_toList; omega))
    rw [hlen] at h
    exact h
  have HR := Aside0.mk hR
  have HG := Aside0.mk g2
  have HW : Aside0 (Below B w W2) := ⟨nd_grown_below g2 (Below.refl B w) hBw hg⟩
  have hci : ¬ (c = i) := by omega
  have hci1 : ¬ (c = i + 1) := by omega
  have hq1 : ((i : Int) == (xs.length : Int)) = false := beq_eq_false_iff_ne.2 (by omega)
  have hq2 : ¬ ((i : Int) = (xs.length : Int)) := by omega
  have hq3 : decide ((c : Int) < (xs.length : Int) + 1) = false := decide_eq_false (by omega)
  have hw1 : IntKind.i64.wrap ((i : Int) + 1) = (i : Int) + 1 := by rw [IntKind.wrap_i64]; omega
  have hb1 : (0 : Int) ≤ (i : Int) + 1 := by omega
  have htn : ((i : Int) + 1).toNat = i + 1 := by omega
  have hin : i ≤ xs.length := by omega
  have hb3 : (i : Int) ≤ (xs.length : Int) + 1 := by omega
  clear hW1 hW2 a1 a2 a3 b1 b2 b3 g1 g2 hR hvw hF ht hcs hh hv
  go_enter Try.func54, Try.ntmps54
  go_wp2_with (first | (simp only [hov]) | fail)
  refine wp_region_held_drew (S := fun _ => True) (by kernel_rfl) trivial (fun hHeld => ?_)
  refine wpAnyH_take (i := 0) (oi := _) (v := _) rfl (by kernel_rfl) (by kernel_rfl) (by kernel_rfl) (fun _ _ _ h => h) (Or.inl ⟨by rfl, by (intro w hSw; (try dsimp only at hSw); go_simp; try with_reducible rfl)⟩) hHeld ?_
  simp only [Act.put, List.getElem_toArray, List.getElem_cons_zero, List.getElem_cons_succ, List.setIfInBounds_toArray, List.set_cons_zero, List.set_cons_succ]
  refine wpAnyH_take (i := 1) (oi := _) (v := _) rfl (by kernel_rfl) (by kernel_rfl) (by kernel_rfl) (fun _ _ _ h => h) (Or.inl ⟨by rfl, by (intro w hSw; (try dsimp only at hSw); go_simp; try with_reducible rfl)⟩) hHeld ?_
  simp only [Act.put, List.getElem_toArray, List.getElem_cons_zero, List.getElem_cons_succ, List.setIfInBounds_toArray, List.set_cons_zero, List.set_cons_succ]
  refine wpAnyH_take (i := 2) (oi := _) (v := _) rfl (by kernel_rfl) (by kernel_rfl) (by kernel_rfl) (fun _ _ _ h => h) (Or.inl ⟨by rfl, by (intro w hSw; (try dsimp only at hSw); go_simp; try with_reducible rfl)⟩) hHeld ?_
  simp only [Act.put, List.getElem_toArray, List.getElem_cons_zero, List.getElem_cons_succ, List.setIfInBounds_toArray, List.set_cons_zero, List.set_cons_succ]
  refine wpAnyH_take (i := 3) (oi := _) (v := _) rfl (by kernel_rfl) (by kernel_rfl) (by kernel_rfl) (fun _ _ _ h => h) (Or.inl ⟨by rfl, by (intro w hSw; (try dsimp only at hSw); go_simp; try with_reducible rfl)⟩) hHeld ?_
  simp only [Act.put, List.getElem_toArray, List.getElem_cons_zero, List.getElem_cons_succ, List.setIfInBounds_toArray, List.set_cons_zero, List.set_cons_succ]
  refine wpAnyH_take (i := 4) (oi := _) (v := _) rfl (by kernel_rfl) (by kernel_rfl) (by kernel_rfl) (fun _ _ _ h => h) (Or.inl ⟨by rfl, by (intro w hSw; (try dsimp only at hSw); go_simp; try with_reducible rfl)⟩) hHeld ?_
  simp only [Act.put, List.getElem_toArray, List.getElem_cons_zero, List.getElem_cons_succ, List.setIfInBounds_toArray, List.set_cons_zero, List.set_cons_succ]
  refine wpAnyH_take (i := 5) (oi := _) (v := _) rfl (by kernel_rfl) (by kernel_rfl) (by kernel_rfl) (fun _ _ _ h => h) (Or.inl ⟨by rfl, by (intro w hSw; (try dsimp only at hSw); go_simp; try with_reducible rfl)⟩) hHeld ?_
  simp only [Act.put, List.getElem_toArray, List.getElem_cons_zero, List.getElem_cons_succ, List.setIfInBounds_toArray, List.set_cons_zero, List.set_cons_succ]
  refine wpAnyH_take (i := 6) (oi := _) (v := _) rfl (by kernel_rfl) (by kernel_rfl) (by kernel_rfl) (fun _ _ _ h => h) (Or.inl ⟨by rfl, by (intro w hSw; (try dsimp only at hSw); go_simp; try with_reducible rfl)⟩) hHeld ?_
  simp only [Act.put, List.getElem_toArray, List.getElem_cons_zero, List.getElem_cons_succ, List.setIfInBounds_toArray, List.set_cons_zero, List.set_cons_succ]
  refine wpAnyH_take (i := 7) (oi := _) (v := _) rfl (by kernel_rfl) (by kernel_rfl) (by kernel_rfl) (fun _ _ _ h => h) (Or.inl ⟨by rfl, by (intro w hSw; (try dsimp only at hSw); go_simp; try with_reducible rfl)⟩) hHeld ?_
  simp only [Act.put, List.getElem_toArray, List.getElem_cons_zero, List.getElem_cons_succ, List.setIfInBounds_toArray, List.set_cons_zero, List.set_cons_succ]
  refine wpAnyH_ready (rs := [8]) (by kernel_rfl) (by simp) ?_
  refine AllReadyH.cons rfl (fun K hK => ?_) AllReadyH.nil
  rw [if_pos (by kernel_rfl)]
  refine oper_copy_ran (.tmp 73) (.tmp 76) 22 rfl (.slice (some ⟨g, (i + 1) * 2, none⟩) (xs.length + 1 - (i + 1)) (c - (i + 1))) (.slice (some ⟨g, i * 2, none⟩) (xs.length + 1 - i) (c - i)) _ ?e1 ?e2 (hcp1 _ _ _) ?_
  case e1 => first | rfl | (simp [Act.eval, htn, hci1]; done) | (simp [Act.eval]; trace_state; sorry)
  case e2 => rfl
  simp only [Act.put, List.getElem_toArray, List.getElem_cons_zero, List.getElem_cons_succ, List.setIfInBounds_toArray, List.set_cons_zero, List.set_cons_succ]
  refine hK.out _ _ trivial (fun _ => ?_)
  clear hK K hHeld
  refine wpAnyH_done (by kernel_rfl) ?_ _
  go_wp2_with (first | (at_builtin; refine wpList_copy_ran rfl (.tmp 80) (.tmp 81) 22 rfl _ _ _ rfl rfl (hcp2 _ _) ?_) | fail)
  go_ret
  exact ⟨_, rfl, HR.out, HG.out, HW.out⟩
theorem grow_list {xs : List S48} {cs : List Value} {p : S48} {i : Nat} (ht : cs.take (i * 2) = flatP (xs.take i)) (hi : i < xs.length) (hF : (flatP (xs.drop i)).length = (xs.length - i) * 2) (hs : (xs.length + 1) * 2 ≤ cs.length) :
    ((((cs.take (i * 2) ++ [Value.string p.f0, Value.string p.f1] ++ cs.drop (i * 2 + ([Value.string p.f0, Value.string p.f1] : List Value).length)).take ((i + 1) * 2)) ++ flatP (xs.drop i) ++ ((cs.take (i * 2) ++ [Value.string p.f0, Value.string p.f1] ++ cs.drop (i * 2 + ([Value.string p.f0, Value.string p.f1] : List Value).length)).drop ((i + 1) * 2 + (flatP (xs.drop i)).length))).take ((xs.length + 1) * 2)) = flatP (xs.take i ++ p :: xs.drop i) := by
  have hl : (flatP (xs.take i)).length = i * 2 := by rw [flatP_length, List.length_take]; omega
  have e1 : (cs.take (i * 2) ++ [Value.string p.f0, Value.string p.f1] ++ cs.drop (i * 2 + ([Value.string p.f0, Value.string p.f1] : List Value).length)).take ((i + 1) * 2) = flatP (xs.take i) ++ [Value.string p.f0, Value.string p.f1] := by
    rw [ht]
    exact List.take_left' (by rw [List.length_append, hl]; show i * 2 + 2 = _; omega)
  rw [e1, flatP_append]
  have e3 : flatP (p :: xs.drop i) = [Value.string p.f0, Value.string p.f1] ++ flatP (xs.drop i) := rfl
  rw [e3, ← List.append_assoc]
  refine List.take_left' ?_
  rw [List.length_append, List.length_append, hl, hF]
  show i * 2 + 2 + _ = _
  omega
theorem wpList_append_ran2 {P : Program} {ops : Array Oper} {rest : List Oper} {o : Oper} {a : Act} {Q : Exit → Act → World → Prop} {w w' : World} (hg : o.guard = none) (s x : Operand) (t u : TypeId)
    (hop : o.op = Op.call { callee := Callee.builtin Builtin.append, args := #[s, x], argTypes := #[t, u] }) (v1 v2 v : Value) (hs : a.eval s = v1) (hx : a.eval x = v2)
    (hrun : (Builtin.append_ #[t, u] o.type #[v1, v2]).run P w = .ok v w') (h : wpList P ops Q rest (a.put o.dst v) w') : wpList P ops Q (o :: rest) a w := by
  refine wpList_plain hg fun K hK => ?_
  unfold Oper.wp execOp
  simp only [hop, resolve, invoke, builtin, Sem.run_bind, Sem.run_pure, Result.andThen_ok, List.map_toArray, List.map_cons, List.map_nil, hs, hx, hrun]
  exact hK _ _ h
set_option maxHeartbeats 4000000 in
set_option maxRecDepth 100000 in
theorem insert_grow (B g c : Nat) (xs : List S48) (i vb : Nat) (p : S48) (w : World) (A : Option Addr) (hA : A = some ⟨g, 0, none⟩) (hg : B ≤ g) (cs : Array Value) (hh : w.heap[g]? = some (.cells cs 48 (0, 0))) (hcs : cs.size = c * 2) (ht : cs.toList.take (xs.length * 2) = flatP xs) (hv : w.heap[vb]? = some (.cells #[.string p.f0, .string p.f1] 48 (0, 0))) (hBw : B ≤ w.heap.size) (hc : c = xs.length) (hn : xs.length ≤ 254) (hi : i < xs.length) :
    Calls Try.prog 54 #[.slice A xs.length c, .int .i64 (i : Int), .slice (some ⟨vb, 0, none⟩) 1 1] w fun e w' => ∃ v', e = .returned v' ∧ k48.R 48 w' B (fun _ => True) v' (xs.take i ++ p :: xs.drop i) ∧ w.grownBy w' (Value.slice A xs.length c).ownBlock ∧ Below B w w' := by
  subst hA
  subst hc
  have hF : (flatP (xs.drop i)).length = (xs.length - i) * 2 := by rw [flatP_length, List.length_drop]
  have hfi : cs.toList.take (i * 2) = flatP (xs.take i) := by rw [flatP_take, ← ht, List.take_take, Nat.min_eq_left (by omega)]
  obtain ⟨i0, hi0, hzz⟩ := Option.map_eq_some_iff.1 info48
  simp only [Prod.mk.injEq] at hzz
  obtain ⟨hz0, hzs, hzb⟩ := hzz
  have hold : (Builtin.firstCells i0.size i (.slice (some ⟨g, 0, none⟩) i xs.length)).run Try.prog w.drew = .ok (flatP (xs.take i)).toArray w.drew := by
    rw [hzs]
    refine run_firstCells_some w.drew 2 i ⟨g, 0, none⟩ i xs.length (flatP (xs.take i)) (by rw [flatP_length, List.length_take]; omega) (fun j v hj => ?_)
    rw [← hfi, List.getElem?_take] at hj
    split at hj
    · rw [add_plain]
      show w.cell? ⟨g, j, none⟩ = _
      rw [blk_cell hh, ← hj, Array.getElem?_toList]
    · cases hj
  obtain ⟨G, hG⟩ : ∃ G, G = grownCap w (xs.length + 1) xs.length 48 := ⟨_, rfl⟩
  have hGn : xs.length + 1 ≤ G := by rw [hG]; exact grownCap_ge w _ _ _
  have hGm : G ≤ maxLen := by rw [hG]; exact grownCap_le_maxLen w _ _ _ (by unfold maxLen; omega)
  have hG63 : G ≤ 9223372036854775807 := by unfold maxLen at hGm; omega
  have h0 := Lib.run_append_grow_zeros (P := Try.prog) w 22 3
  have hrz : ∃ ROW : Array Value, (∀ ty, (Builtin.append_ #[22, 3] ty #[.slice (some ⟨g, 0, none⟩) i xs.length, .int .i64 ((xs.length : Int) + 1 - (i : Int))]).run Try.prog w = .ok (.slice (some ⟨w.heap.size, 0, none⟩) (xs.length + 1) G) (w.drew.alloc (.cells ROW 48))) ∧ ROW.size = G * 2 ∧ ROW.toList.take (i * 2) = flatP (xs.take i) := by
    refine ⟨(flatP (xs.take i)).toArray ++ Builtin.zeroCells (Value.agg #[(.string ⟨#[]⟩), (.string ⟨#[]⟩)]).cells (xs.length + 1 - i) ++ Builtin.zeroCells (Value.agg #[(.string ⟨#[]⟩), (.string ⟨#[]⟩)]).cells (G - (xs.length + 1)), fun ty => ?_, ?_, ?_⟩
    · have h := h0 ty 48 i0 _ .i64 .i64 Try.underlying22 Try.underlying3 hi0 hz0 (some ⟨g, 0, none⟩) i xs.length (flatP (xs.take i)) hold (xs.length + 1 - i) (by omega) (by omega) (by omega) (by omega) (by rw [hzb]; omega) (by rw [hzb]; exact growslice_fits (by omega) (by omega))
      rw [show i + (xs.length + 1 - i) = xs.length + 1 by omega, ← hG] at h
      rw [show (xs.length : Int) + 1 - (i : Int) = ((xs.length + 1 - i : Nat) : Int) by omega]
      exact h
    · have e1 : (flatP (xs.take i)).length = i * 2 := by rw [flatP_length, List.length_take]; omega
      simp [Builtin.zeroCells, Value.cells, e1]
      omega
    · have e1 : (flatP (xs.take i)).length = i * 2 := by rw [flatP_length, List.length_take]; omega
      simp only [Array.toList_append, List.append_assoc]
      exact List.take_left' e1
  obtain ⟨ROW, hrz, hRs, hRt⟩ := hrz
  obtain ⟨N, hN⟩ : ∃ N, N = w.heap.size := ⟨_, rfl⟩
  rw [← hN] at hrz hBw
  obtain ⟨W1, hW1⟩ : ∃ W1, W1 = w.drew.alloc (.cells ROW 48) := ⟨_, rfl⟩
  rw [← hW1] at hrz
  have r1 : W1.heap[N]? = some (.cells ROW 48 (0, 0)) := by rw [hW1, hN]; exact heap_alloc_new w.drew _
  have g1 : w.grownBy W1 (some N) := by
    have b := below_alloc (Below.refl w.drew.heap.size w.drew) (.cells ROW 48)
    rw [hW1]
    exact ⟨b.os, b.tape, b.output, b.size, fun k hk _ => b.block k hk⟩
  have hgN : g ≠ N := by have := blk_lt hh; omega
  have hvN : vb ≠ N := by have := blk_lt hv; omega
  obtain ⟨cur2, b1, b2, b3⟩ := setCells_row [Value.string p.f0, Value.string p.f1] (i * 2) W1 ROW r1 (by rw [hRs]; simp; omega)
  obtain ⟨W2, hW2⟩ : ∃ W2, W2 = W1.setCells N (i * 2) [Value.string p.f0, Value.string p.f1] := ⟨_, rfl⟩
  rw [← hW2] at b1
  have hvw : W1.heap[vb]? = some (.cells #[.string p.f0, .string p.f1] 48 (0, 0)) := (g1.block vb (blk_lt hv) (fun e => hvN (Option.some.inj e))).trans hv
  have hcpA : ∀ ty dc, (Builtin.copy_ #[22, 22] ty #[.slice (some ⟨N, i * 2, none⟩) (xs.length + 1 - i) dc, .slice (some ⟨vb, 0, none⟩) 1 1]).run Try.prog W1 = .ok (goInt (Nat.min 1 (xs.length + 1 - i))) W2 := fun ty dc => by
    rw [hW2]
    refine run_copyN W1 22 ty 48 2 N (i * 2) _ dc ⟨vb, 0, none⟩ 1 1 [Value.string p.f0, Value.string p.f1] Try.underlying22 (by kernel_rfl) (by simp only [Nat.min_def, List.length_cons, List.length_nil]; split <;> omega) (fun j v hj => ?_) (fun j hj => ?_) (fun j hj => blk_frozen r1 _) (by intro v hv; simp at hv; rcases hv with rfl | rfl <;> rfl)
    · rw [add_plain, blk_cell hvw, ← Array.getElem?_toList]
      exact hj
    · rw [blk_cell r1, Array.getElem?_eq_getElem (by rw [hRs]; simp at hj; omega)]
      rfl
  have g2 : w.grownBy W2 (some N) := by
    rw [hW2]
    exact grown_setCells N _ _ _ _ g1
  have hgw : W2.heap[g]? = some (.cells cs 48 (0, 0)) := (g2.block g (blk_lt hh) (fun e => hgN (Option.some.inj e))).trans hh
  obtain ⟨cur3, d1, d2, d3⟩ := setCells_row (flatP (xs.drop i)) ((i + 1) * 2) W2.drew cur2 b1 (by rw [hF, b2, hRs]; omega)
  obtain ⟨W3, hW3⟩ : ∃ W3, W3 = W2.drew.setCells N ((i + 1) * 2) (flatP (xs.drop i)) := ⟨_, rfl⟩
  rw [← hW3] at d1
  have hcpB : ∀ ty dc sc, (Builtin.copy_ #[22, 22] ty #[.slice (some ⟨N, (i + 1) * 2, none⟩) (xs.length + 1 - (i + 1)) dc, .slice (some ⟨g, i * 2, none⟩) (xs.length - i) sc]).run Try.prog W2.drew = .ok (goInt (Nat.min (xs.length - i) (xs.length + 1 - (i + 1)))) W3 := fun ty dc sc => by
    rw [hW3]
    refine run_copyN W2.drew 22 ty 48 2 N ((i + 1) * 2) _ dc ⟨g, i * 2, none⟩ _ sc (flatP (xs.drop i)) Try.underlying22 (by kernel_rfl) (by rw [hF]; simp only [Nat.min_def]; split <;> omega) (fun j v hj => ?_) (fun j hj => ?_) (fun j hj => blk_frozen (w := W2) b1 _) (flatP_one _)
    · rw [flatP_drop, ← ht, List.getElem?_drop, List.getElem?_take] at hj
      split at hj
      · rw [Addr.add_lit]
        show W2.cell? ⟨g, i * 2 + j, none⟩ = _
        rw [blk_cell hgw, ← hj, Array.getElem?_toList]
      · cases hj
    · show (W2.cell? ⟨N, _, none⟩).isSome = true
      rw [blk_cell b1, Array.getElem?_eq_getElem (by rw [b2, hRs]; rw [hF] at hj; omega)]
      rfl
  have g3 : w.grownBy W3 (some N) := by
    rw [hW3]
    exact grown_setCells N _ _ _ _ ⟨g2.os, g2.tape, g2.output, g2.size, g2.block⟩
  have hR : k48.R 48 W3 B (fun _ => True) (.slice (some ⟨N, 0, none⟩) (xs.length + 1) G) (xs.take i ++ p :: xs.drop i) := by
    have hlen : (xs.take i ++ p :: xs.drop i).length = xs.length + 1 := by rw [List.length_append, List.length_cons, List.length_take, List.length_drop]; omega
    have h := R48_mk (xs := xs.take i ++ p :: xs.drop i) (c := G) hBw d1 (by rw [hlen]; exact hGn) hGm (by rw [d2, b2, hRs]) (by
      rw [hlen, d3, b3]
      exact grow_list hRt hi hF (by have e : ROW.toList.length = ROW.size := Array.length_toList; omega))
    rw [hlen] at h
    exact h
  have HR := Aside0.mk hR
  have HG : Aside0 (w.grownBy W3 (Value.slice (some ⟨g, 0, none⟩) xs.length xs.length).ownBlock) := ⟨⟨g3.os, g3.tape, g3.output, g3.size, fun k hk _ => g3.block k hk (fun e => by have := Option.some.inj e; omega)⟩⟩
  have HW : Aside0 (Below B w W3) := ⟨nd_grown_below g3 (Below.refl B w) (by omega) hBw⟩
  have hci : ¬ (xs.length = i) := by omega
  have hGi : ¬ (G = i) := by omega
  have hGi1 : ¬ (G = i + 1) := by omega
  have hq1 : ((i : Int) == (xs.length : Int)) = false := beq_eq_false_iff_ne.2 (by omega)
  have hq2 : ¬ ((i : Int) = (xs.length : Int)) := by omega
  have hq3 : decide ((xs.length : Int) < (xs.length : Int) + 1) = true := decide_eq_true (by omega)
  have hw1 : IntKind.i64.wrap ((i : Int) + 1) = (i : Int) + 1 := by rw [IntKind.wrap_i64]; omega
  have hb1 : (0 : Int) ≤ (i : Int) + 1 := by omega
  have htn : ((i : Int) + 1).toNat = i + 1 := by omega
  have hin : i ≤ xs.length := by omega
  have hb3 : (i : Int) ≤ (xs.length : Int) := by omega
  clear hW1 hW2 hW3 b1 b2 b3 d1 d2 d3 g1 g2 g3 hR hvw hgw hF ht hcs hh hv r1 hRs hRt h0 hold hfi hG hi0 hz0 hzs hzb hN hBw
  go_enter Try.func54, Try.ntmps54
  go_wp2_with (first | (at_builtin; refine wpList_append_ran2 rfl (.tmp 34) (.tmp 39) 22 3 rfl (.slice (some ⟨g, 0, none⟩) i xs.length) (.int .i64 ((xs.length : Int) + 1 - (i : Int))) _ rfl rfl (hrz _) ?_) | (at_builtin; refine wpList_copy_ran rfl (.tmp 43) (.tmp 44) 22 rfl _ _ _ rfl rfl (hcpA _ _) ?_) | fail)
  refine wp_region_held_drew (S := fun _ => True) (by kernel_rfl) trivial (fun hHeld => ?_)
  refine wpAnyH_take (i := 0) (oi := _) (v := _) rfl (by kernel_rfl) (by kernel_rfl) (by kernel_rfl) (fun _ _ _ h => h) (Or.inl ⟨by rfl, by (intro w hSw; (try dsimp only at hSw); go_simp; try with_reducible rfl)⟩) hHeld ?_
  simp only [Act.put, List.getElem_toArray, List.getElem_cons_zero, List.getElem_cons_succ, List.setIfInBounds_toArray, List.set_cons_zero, List.set_cons_succ]
  refine wpAnyH_take (i := 1) (oi := _) (v := _) rfl (by kernel_rfl) (by kernel_rfl) (by kernel_rfl) (fun _ _ _ h => h) (Or.inl ⟨by rfl, by (intro w hSw; (try dsimp only at hSw); go_simp; try with_reducible rfl)⟩) hHeld ?_
  simp only [Act.put, List.getElem_toArray, List.getElem_cons_zero, List.getElem_cons_succ, List.setIfInBounds_toArray, List.set_cons_zero, List.set_cons_succ]
  refine wpAnyH_take (i := 2) (oi := _) (v := _) rfl (by kernel_rfl) (by kernel_rfl) (by kernel_rfl) (fun _ _ _ h => h) (Or.inl ⟨by rfl, by (intro w hSw; (try dsimp only at hSw); go_simp; try with_reducible rfl)⟩) hHeld ?_
  simp only [Act.put, List.getElem_toArray, List.getElem_cons_zero, List.getElem_cons_succ, List.setIfInBounds_toArray, List.set_cons_zero, List.set_cons_succ]
  refine wpAnyH_take (i := 3) (oi := _) (v := _) rfl (by kernel_rfl) (by kernel_rfl) (by kernel_rfl) (fun _ _ _ h => h) (Or.inl ⟨by rfl, by (intro w hSw; (try dsimp only at hSw); go_simp; try with_reducible rfl)⟩) hHeld ?_
  simp only [Act.put, List.getElem_toArray, List.getElem_cons_zero, List.getElem_cons_succ, List.setIfInBounds_toArray, List.set_cons_zero, List.set_cons_succ]
  refine wpAnyH_take (i := 4) (oi := _) (v := _) rfl (by kernel_rfl) (by kernel_rfl) (by kernel_rfl) (fun _ _ _ h => h) (Or.inl ⟨by rfl, by (intro w hSw; (try dsimp only at hSw); go_simp; try with_reducible rfl)⟩) hHeld ?_
  simp only [Act.put, List.getElem_toArray, List.getElem_cons_zero, List.getElem_cons_succ, List.setIfInBounds_toArray, List.set_cons_zero, List.set_cons_succ]
  refine wpAnyH_take (i := 5) (oi := _) (v := _) rfl (by kernel_rfl) (by kernel_rfl) (by kernel_rfl) (fun _ _ _ h => h) (Or.inl ⟨by rfl, by (intro w hSw; (try dsimp only at hSw); go_simp; try with_reducible rfl)⟩) hHeld ?_
  simp only [Act.put, List.getElem_toArray, List.getElem_cons_zero, List.getElem_cons_succ, List.setIfInBounds_toArray, List.set_cons_zero, List.set_cons_succ]
  refine wpAnyH_take (i := 6) (oi := _) (v := _) rfl (by kernel_rfl) (by kernel_rfl) (by kernel_rfl) (fun _ _ _ h => h) (Or.inl ⟨by rfl, by (intro w hSw; (try dsimp only at hSw); go_simp; try with_reducible rfl)⟩) hHeld ?_
  simp only [Act.put, List.getElem_toArray, List.getElem_cons_zero, List.getElem_cons_succ, List.setIfInBounds_toArray, List.set_cons_zero, List.set_cons_succ]
  refine wpAnyH_take (i := 7) (oi := _) (v := _) rfl (by kernel_rfl) (by kernel_rfl) (by kernel_rfl) (fun _ _ _ h => h) (Or.inl ⟨by rfl, by (intro w hSw; (try dsimp only at hSw); go_simp; try with_reducible rfl)⟩) hHeld ?_
  simp only [Act.put, List.getElem_toArray, List.getElem_cons_zero, List.getElem_cons_succ, List.setIfInBounds_toArray, List.set_cons_zero, List.set_cons_succ]
  refine wpAnyH_ready (rs := [8]) (by kernel_rfl) (by simp) ?_
  refine AllReadyH.cons rfl (fun K hK => ?_) AllReadyH.nil
  rw [if_pos (by kernel_rfl)]
  refine oper_copy_ran (.tmp 50) (.tmp 53) 22 rfl (.slice (some ⟨N, (i + 1) * 2, none⟩) (xs.length + 1 - (i + 1)) (G - (i + 1))) (.slice (some ⟨g, i * 2, none⟩) (xs.length - i) (xs.length - i)) _ ?e1 ?e2 (hcpB _ _ _) ?_
  case e1 => first | rfl | (simp [Act.eval, htn, hGi1]; done) | (simp [Act.eval]; trace_state; sorry)
  case e2 => rfl
  simp only [Act.put, List.getElem_toArray, List.getElem_cons_zero, List.getElem_cons_succ, List.setIfInBounds_toArray, List.set_cons_zero, List.set_cons_succ]
  refine hK.out _ _ trivial (fun _ => ?_)
  clear hK K hHeld
  refine wpAnyH_done (by kernel_rfl) ?_ _
  go_wp2
  go_ret
  exact ⟨_, rfl, HR.out, HG.out, HW.out⟩
theorem run_clear2 {P : Program} (w : World) (t e ty : TypeId) (z1 z2 : Value) (ht : P.underlying t = some (.slice e)) (hv : ∀ w, (zeroValue e).run P w = .ok (.agg #[z1, z2]) w) (h1 : z1.oneCell' = true) (h2 : z2.oneCell' = true) (b o c : Nat)
    (hc : ∀ j, j < 2 → (w.cell? ⟨b, o + j, none⟩).isSome = true) (hf : ∀ j, j < 2 → w.frozen? ⟨b, o + j, none⟩ = false) :
    (Builtin.clear_ #[t] ty #[.slice (some ⟨b, o, none⟩) 1 c]).run P w = .ok (.tuple #[]) (w.setCells b o [z1, z2]) := by
  have hzc : (Builtin.zeroCells (Value.agg #[z1, z2]).cells 1).toList = [z1, z2] := by
    simp [Builtin.zeroCells, Value.cells]
    rfl
  have hst := run_storeCells_cells (P := P) b o [z1, z2] 0 w (by simpa using hc) (by simpa using hf) (by intro v hv'; simp at hv'; rcases hv' with rfl | rfl <;> assumption)
  simp only [Nat.add_zero] at hst
  simp [Builtin.clear_, run_underlying ht, hv, hzc, hst]
theorem wpList_clear_ran {P : Program} {ops : Array Oper} {rest : List Oper} {o : Oper} {a : Act} {Q : Exit → Act → World → Prop} {w w' : World} (hg : o.guard = none) (s : Operand) (t : TypeId)
    (hop : o.op = Op.call { callee := Callee.builtin Builtin.clear, args := #[s], argTypes := #[t] }) (v1 v : Value) (hs : a.eval s = v1)
    (hrun : (Builtin.clear_ #[t] o.type #[v1]).run P w = .ok v w') (h : wpList P ops Q rest (a.put o.dst v) w') : wpList P ops Q (o :: rest) a w := by
  refine wpList_plain hg fun K hK => ?_
  unfold Oper.wp execOp
  simp only [hop, resolve, invoke, builtin, Sem.run_bind, Sem.run_pure, Result.andThen_ok, List.map_toArray, List.map_cons, List.map_nil, hs, hrun]
  exact hK _ _ h
theorem below_setCells' {B g : Nat} {w0 : World} (hg : B ≤ g) : ∀ (vs : List Value) (o : Nat) (w : World), Below B w0 w → Below B w0 (w.setCells g o vs)
  | [], _, _, h => h
  | v :: r, o, w, h => by
    rw [World.setCells]
    exact below_setCells' hg r (o + 1) _ (h.setCell hg _)
theorem R48_clear {w : World} {B g n c : Nat} {xs : List S48} (h : k48.R 48 w B (fun _ => True) (.slice (some ⟨g, 0, none⟩) n c) xs) (hc : n + 1 ≤ c) :
    (∀ j, j < 2 → (w.cell? ⟨g, n * 2 + j, none⟩).isSome = true) ∧ (∀ j, j < 2 → w.frozen? ⟨g, n * 2 + j, none⟩ = false) ∧ k48.R 48 (w.setCells g (n * 2) [Value.string ⟨#[]⟩, Value.string ⟨#[]⟩]) B (fun _ => True) (.slice (some ⟨g, 0, none⟩) n c) xs := by
  obtain ⟨hn, h | ⟨g', cs, e, h1, h2, h3, h4, h5, h6⟩⟩ := R48_open h
  · cases h.1
  · cases e
    subst hn
    obtain ⟨cur, b1, b2, b3⟩ := setCells_row [Value.string ⟨#[]⟩, Value.string ⟨#[]⟩] (xs.length * 2) w cs h2 (by rw [h5]; simp; omega)
    refine ⟨fun j hj => ?_, fun j hj => blk_frozen h2 _, R48_mk h1 b1 h3 h4 (by rw [b2, h5]) ?_⟩
    · rw [blk_cell h2, Array.getElem?_eq_getElem (by rw [h5]; omega)]
      rfl
    · rw [b3, h6, List.append_assoc]
      exact List.take_left' (flatP_length xs)
set_option maxHeartbeats 4000000 in
set_option maxRecDepth 100000 in
theorem delete_one (B g c : Nat) (xs : List S48) (i : Nat) (w : World) (HO : k48.R 48 w B (fun _ => True) (.slice (some ⟨g, 0, none⟩) xs.length c) xs) (hBw : B ≤ w.heap.size) (hg : B ≤ g) (hi : i < xs.length) (hn : xs.length ≤ 255) (hc : xs.length ≤ c) (hcm : c ≤ maxLen) :
    Calls Try.prog 57 #[.slice (some ⟨g, 0, none⟩) xs.length c, .int .i64 (i : Int), .int .i64 ((i : Int) + 1)] w fun e w' => e = .returned (.slice (some ⟨g, 0, none⟩) (xs.length - 1) c) ∧ k48.R 48 w' B (fun _ => True) (.slice (some ⟨g, 0, none⟩) (xs.length - 1) c) (xs.eraseIdx i) ∧ Below B w w' := by
  have hc63 : c ≤ 9223372036854775807 := by unfold maxLen at hcm; omega
  have H : Aside0 (k48.R 48 w.drew B (fun _ => True) (.slice (some ⟨g, 0, none⟩) xs.length c) xs) := ⟨HO⟩
  have HB : Aside0 (B ≤ w.drew.heap.size) := ⟨hBw⟩
  have HG := Aside0.mk hg
  have hq1 : ((i : Int) == (i : Int) + 1) = false := beq_eq_false_iff_ne.2 (by omega)
  have hq2 : ¬ ((i : Int) = (i : Int) + 1) := by omega
  have htn : ((i : Int) + 1).toNat = i + 1 := by omega
  have hb1 : (0 : Int) ≤ (i : Int) + 1 := by omega
  have hb2 : (i : Int) ≤ (i : Int) + 1 := by omega
  have hb3 : (i : Int) + 1 ≤ (xs.length : Int) := by omega
  have hci : ¬ (c = i) := by omega
  have hcl1 : ¬ (c = xs.length - 1) := by omega
  have hnl : ((xs.length - 1 : Nat) : Int) = (xs.length : Int) - 1 := by omega
  clear HO hBw hg
  by_cases hci1 : c = i + 1
  · have hxi : xs.length = i + 1 := by omega
    subst hci1
    have hm1 : ((i + 1 : Nat) : Int) = (i : Int) + 1 := by omega
    rw [hxi, Nat.add_sub_cancel]
    rw [hxi] at H hb3 hn
    clear hxi hcl1 hnl hc hi hci hcm
    go_enter Try.func57, Try.ntmps57
    go_wp2_with fail
    refine wp_region_held_drew (S := fun _ => True) (by kernel_rfl) trivial (fun hHeld => ?_)
    refine wpAnyH_take (i := 0) (oi := _) (v := _) rfl (by kernel_rfl) (by kernel_rfl) (by kernel_rfl) (fun _ _ _ h => h) (Or.inl ⟨by rfl, by (intro w hSw; (try dsimp only at hSw); go_simp; try with_reducible rfl)⟩) hHeld ?_
    simp only [Act.put, List.getElem_toArray, List.getElem_cons_zero, List.getElem_cons_succ, List.setIfInBounds_toArray, List.set_cons_zero, List.set_cons_succ]
    refine wpAnyH_take (i := 1) (oi := _) (v := _) rfl (by kernel_rfl) (by kernel_rfl) (by kernel_rfl) (fun _ _ _ h => h) (Or.inl ⟨by rfl, by (intro w hSw; (try dsimp only at hSw); go_simp; try with_reducible rfl)⟩) hHeld ?_
    simp only [Act.put, List.getElem_toArray, List.getElem_cons_zero, List.getElem_cons_succ, List.setIfInBounds_toArray, List.set_cons_zero, List.set_cons_succ]
    refine wpAnyH_take (i := 2) (oi := _) (v := _) rfl (by kernel_rfl) (by kernel_rfl) (by kernel_rfl) (fun _ _ _ h => h) (Or.inl ⟨by rfl, by (intro w hSw; (try dsimp only at hSw); go_simp; try with_reducible rfl)⟩) hHeld ?_
    simp only [Act.put, List.getElem_toArray, List.getElem_cons_zero, List.getElem_cons_succ, List.setIfInBounds_toArray, List.set_cons_zero, List.set_cons_succ]
    refine wpAnyH_take (i := 3) (oi := _) (v := _) rfl (by kernel_rfl) (by kernel_rfl) (by kernel_rfl) (fun _ _ _ h => h) (Or.inl ⟨by rfl, by (intro w hSw; (try dsimp only at hSw); go_simp; try with_reducible rfl)⟩) hHeld ?_
    simp only [Act.put, List.getElem_toArray, List.getElem_cons_zero, List.getElem_cons_succ, List.setIfInBounds_toArray, List.set_cons_zero, List.set_cons_succ]
    refine wpAnyH_take (i := 4) (oi := _) (v := _) rfl (by kernel_rfl) (by kernel_rfl) (by kernel_rfl) (fun _ _ _ h => h) (Or.inl ⟨by rfl, by (intro w hSw; (try dsimp only at hSw); go_simp; try with_reducible rfl)⟩) hHeld ?_
    simp only [Act.put, List.getElem_toArray, List.getElem_cons_zero, List.getElem_cons_succ, List.setIfInBounds_toArray, List.set_cons_zero, List.set_cons_succ]
    refine wpAnyH_take (i := 5) (oi := _) (v := _) rfl (by kernel_rfl) (by kernel_rfl) (by kernel_rfl) (fun _ _ _ h => h) (Or.inl ⟨by rfl, by (intro w hSw; (try dsimp only at hSw); go_simp; try with_reducible rfl)⟩) hHeld ?_
    simp only [Act.put, List.getElem_toArray, List.getElem_cons_zero, List.getElem_cons_succ, List.setIfInBounds_toArray, List.set_cons_zero, List.set_cons_succ]
    refine wpAnyH_ready (rs := [6]) (by kernel_rfl) (by simp) ?_
    refine AllReadyH.cons rfl (fun K hK => ?_) AllReadyH.nil
    refine Kd.R_delete_step k48 (w0 := w.drew) (W := w.drew) B (by kernel_rfl) (.tmp 22) (.tmp 25) 22 48 rfl Try.underlying22 (by kernel_rfl) (g := g) (n := (i + 1)) (c := (i + 1)) (k := i) (m := 0) (c2 := 0) (A := (some (⟨g, 0, none⟩ : Addr))) (xs := xs) (ok := fun _ => True) ?e1 ?e2 (by rw [if_pos rfl]) (by omega) H.out (by omega) (Below.refl B w.drew) HB.out ?_
    case e1 => first | rfl | (simp [Act.eval]; done)
    case e2 => first | rfl | (simp [Act.eval, htn]; done) | (simp [Act.eval, htn, hci1]; done)
    intro w1 hR hB hg'
    simp only [Act.put, List.getElem_toArray, List.getElem_cons_zero, List.getElem_cons_succ, List.setIfInBounds_toArray, List.set_cons_zero, List.set_cons_succ]
    rw [Nat.add_sub_cancel] at hR ⊢
    obtain ⟨k1, k2, k3⟩ := R48_clear (n := i) hR (by omega)
    have hcl : ∀ ty sc, (Builtin.clear_ #[22] ty #[.slice (some ⟨g, i * 2, none⟩) 1 sc]).run Try.prog w1 = .ok (.tuple #[]) (w1.setCells g (i * 2) [Value.string ⟨#[]⟩, Value.string ⟨#[]⟩]) := fun ty sc => run_clear2 w1 22 48 ty _ _ Try.underlying22 Try.zeroValue48 rfl rfl g _ sc k1 k2
    obtain ⟨w2, hw2⟩ : ∃ w2, w2 = w1.setCells g (i * 2) [Value.string ⟨#[]⟩, Value.string ⟨#[]⟩] := ⟨_, rfl⟩
    rw [← hw2] at k3 hcl
    have H3 := Aside0.mk k3
    have H4 : Aside0 (Below B w w2) := ⟨by rw [hw2]; exact below_setCells' HG.out _ _ _ ((below_drew1 (Below.refl B w)).trans hB)⟩
    clear hR hB hg' k1 k2 k3 hw2
    refine hK.out _ _ trivial (fun _ => ?_)
    clear hK K hHeld
    refine wpAnyH_ready (rs := [7]) (by kernel_rfl) (by simp) ?_
    refine AllReadyH.cons rfl (fun K hK => ?_) AllReadyH.nil
    go_simp
    refine hK.out _ _ trivial (fun _ => ?_)
    clear hK K
    refine wpAnyH_done (by kernel_rfl) ?_ _
    go_wp2_with (first | (at_builtin; refine wpList_clear_ran rfl (.tmp 31) 22 rfl (.slice (some ⟨g, i * 2, none⟩) 1 1) _ rfl (hcl _ _) ?_) | fail)
    go_ret
    exact ⟨rfl, H3.out, H4.out⟩
  · have hic : i ≤ c := by omega
    have hic1 : i + 1 ≤ c := by omega
    have hic2 : i ≤ xs.length := by omega
    have hic3 : i + 1 ≤ xs.length := by omega
    have hic4 : xs.length - 1 ≤ xs.length := by omega
    have hic5 : xs.length - (xs.length - 1) = 1 := by omega
    go_enter Try.func57, Try.ntmps57
    go_wp2_with fail
    refine wp_region_held_drew (S := fun _ => True) (by kernel_rfl) trivial (fun hHeld => ?_)
    refine wpAnyH_take (i := 0) (oi := _) (v := _) rfl (by kernel_rfl) (by kernel_rfl) (by kernel_rfl) (fun _ _ _ h => h) (Or.inl ⟨by rfl, by (intro w hSw; (try dsimp only at hSw); go_simp; try with_reducible rfl)⟩) hHeld ?_
    simp only [Act.put, List.getElem_toArray, List.getElem_cons_zero, List.getElem_cons_succ, List.setIfInBounds_toArray, List.set_cons_zero, List.set_cons_succ]
    refine wpAnyH_take (i := 1) (oi := _) (v := _) rfl (by kernel_rfl) (by kernel_rfl) (by kernel_rfl) (fun _ _ _ h => h) (Or.inl ⟨by rfl, by (intro w hSw; (try dsimp only at hSw); go_simp; try with_reducible rfl)⟩) hHeld ?_
    simp only [Act.put, List.getElem_toArray, List.getElem_cons_zero, List.getElem_cons_succ, List.setIfInBounds_toArray, List.set_cons_zero, List.set_cons_succ]
    refine wpAnyH_take (i := 2) (oi := _) (v := _) rfl (by kernel_rfl) (by kernel_rfl) (by kernel_rfl) (fun _ _ _ h => h) (Or.inl ⟨by rfl, by (intro w hSw; (try dsimp only at hSw); go_simp; try with_reducible rfl)⟩) hHeld ?_
    simp only [Act.put, List.getElem_toArray, List.getElem_cons_zero, List.getElem_cons_succ, List.setIfInBounds_toArray, List.set_cons_zero, List.set_cons_succ]
    refine wpAnyH_take (i := 3) (oi := _) (v := _) rfl (by kernel_rfl) (by kernel_rfl) (by kernel_rfl) (fun _ _ _ h => h) (Or.inl ⟨by rfl, by (intro w hSw; (try dsimp only at hSw); go_simp; try with_reducible rfl)⟩) hHeld ?_
    simp only [Act.put, List.getElem_toArray, List.getElem_cons_zero, List.getElem_cons_succ, List.setIfInBounds_toArray, List.set_cons_zero, List.set_cons_succ]
    refine wpAnyH_take (i := 4) (oi := _) (v := _) rfl (by kernel_rfl) (by kernel_rfl) (by kernel_rfl) (fun _ _ _ h => h) (Or.inl ⟨by rfl, by (intro w hSw; (try dsimp only at hSw); go_simp; try with_reducible rfl)⟩) hHeld ?_
    simp only [Act.put, List.getElem_toArray, List.getElem_cons_zero, List.getElem_cons_succ, List.setIfInBounds_toArray, List.set_cons_zero, List.set_cons_succ]
    refine wpAnyH_take (i := 5) (oi := _) (v := _) rfl (by kernel_rfl) (by kernel_rfl) (by kernel_rfl) (fun _ _ _ h => h) (Or.inl ⟨by rfl, by (intro w hSw; (try dsimp only at hSw); go_simp; try with_reducible rfl)⟩) hHeld ?_
    simp only [Act.put, List.getElem_toArray, List.getElem_cons_zero, List.getElem_cons_succ, List.setIfInBounds_toArray, List.set_cons_zero, List.set_cons_succ]
    refine wpAnyH_ready (rs := [6]) (by kernel_rfl) (by simp) ?_
    refine AllReadyH.cons rfl (fun K hK => ?_) AllReadyH.nil
    refine Kd.R_delete_step k48 (w0 := w.drew) (W := w.drew) B (by kernel_rfl) (.tmp 22) (.tmp 25) 22 48 rfl Try.underlying22 (by kernel_rfl) (g := g) (n := xs.length) (c := c) (k := i) (m := xs.length - (i + 1)) (c2 := c - (i + 1)) (A := (some (⟨g, (i + 1) * 2, none⟩ : Addr))) (xs := xs) (ok := fun _ => True) ?e1 ?e2 (by rw [if_neg hci1, Option.map_some, add_plain]; rfl) rfl H.out (by omega) (Below.refl B w.drew) HB.out ?_
    case e1 => first | rfl | (simp [Act.eval]; done)
    case e2 => first | rfl | (simp [Act.eval, htn]; done) | (simp [Act.eval, htn, hci1]; done)
    intro w1 hR hB hg'
    simp only [Act.put, List.getElem_toArray, List.getElem_cons_zero, List.getElem_cons_succ, List.setIfInBounds_toArray, List.set_cons_zero, List.set_cons_succ]
    obtain ⟨k1, k2, k3⟩ := R48_clear (n := (xs.length - 1)) hR (by omega)
    have hcl : ∀ ty sc, (Builtin.clear_ #[22] ty #[.slice (some ⟨g, (xs.length - 1) * 2, none⟩) 1 sc]).run Try.prog w1 = .ok (.tuple #[]) (w1.setCells g ((xs.length - 1) * 2) [Value.string ⟨#[]⟩, Value.string ⟨#[]⟩]) := fun ty sc => run_clear2 w1 22 48 ty _ _ Try.underlying22 Try.zeroValue48 rfl rfl g _ sc k1 k2
    obtain ⟨w2, hw2⟩ : ∃ w2, w2 = w1.setCells g ((xs.length - 1) * 2) [Value.string ⟨#[]⟩, Value.string ⟨#[]⟩] := ⟨_, rfl⟩
    rw [← hw2] at k3 hcl
    have H3 := Aside0.mk k3
    have H4 : Aside0 (Below B w w2) := ⟨by rw [hw2]; exact below_setCells' HG.out _ _ _ ((below_drew1 (Below.refl B w)).trans hB)⟩
    clear hR hB hg' k1 k2 k3 hw2
    refine hK.out _ _ trivial (fun _ => ?_)
    clear hK K hHeld
    refine wpAnyH_ready (rs := [7]) (by kernel_rfl) (by simp) ?_
    refine AllReadyH.cons rfl (fun K hK => ?_) AllReadyH.nil
    go_simp
    refine hK.out _ _ trivial (fun _ => ?_)
    clear hK K
    refine wpAnyH_done (by kernel_rfl) ?_ _
    go_wp2_with (first | (at_builtin; refine wpList_clear_ran rfl (.tmp 31) 22 rfl (.slice (some ⟨g, (xs.length - 1) * 2, none⟩) 1 (c - (xs.length - 1))) _ rfl (hcl _ _) ?_) | fail)
    go_ret
    exact ⟨rfl, H3.out, H4.out⟩
theorem insert_one (B : Nat) (A : Option Addr) (c : Nat) (xs : List S48) (i vb : Nat) (p : S48) (w : World) (HO : k48.R 48 w B (fun _ => True) (.slice A xs.length c) xs) (hv : w.heap[vb]? = some (.cells #[.string p.f0, .string p.f1] 48 (0, 0))) (hvA : ∀ a, A = some a → vb ≠ a.block) (hBw : B ≤ w.heap.size) (hn : xs.length ≤ 254) (hi : i ≤ xs.length) :
    Calls Try.prog 54 #[.slice A xs.length c, .int .i64 (i : Int), .slice (some ⟨vb, 0, none⟩) 1 1] w fun e w' => ∃ v', e = .returned v' ∧ k48.R 48 w' B (fun _ => True) v' (xs.take i ++ p :: xs.drop i) ∧ w.grownBy w' (Value.slice A xs.length c).ownBlock ∧ Below B w w' := by
  have hc : xs.length ≤ c := (Kd.R_reads' HO).2.1
  rcases Nat.lt_or_ge i xs.length with h | h
  · obtain ⟨_, h0 | ⟨g, cs, rfl, h1, h2, h3, h4, h5, h6⟩⟩ := R48_open HO
    · rw [h0.2] at h
      exact absurd h (Nat.not_lt_zero _)
    · rcases Nat.lt_or_ge xs.length c with h' | h'
      · exact insert_room B g c xs i vb p w _ rfl h1 cs h2 h4 h5 h6 hv (hvA _ rfl) hBw h' hn h
      · exact insert_grow B g c xs i vb p w _ rfl h1 cs h2 h5 h6 hv hBw (by omega) hn h
  · exact insert_end B A c xs i vb p w HO hv hBw hc hn (by omega)
theorem nd_put4 (W : World) (g t : Nat) (a0 a1 a2 a3 b0 b1 b2 b3 : Value) (h : W.heap[g]? = some (.cells #[a0, a1, a2, a3] t (0, 0))) :
    ((((W.setCell ⟨g, 0, none⟩ b0).setCell ⟨g, 1, none⟩ b1).setCell ⟨g, 2, none⟩ b2).setCell ⟨g, 3, none⟩ b3).heap[g]? = some (.cells #[b0, b1, b2, b3] t (0, 0)) := by
  obtain ⟨W7, rfl, h, _⟩ := nd_set4 W g t a0 a1 a2 a3 b0 b1 b2 b3 h
  exact h
theorem nd_grown4 (W : World) (g : Nat) (b0 b1 b2 b3 : Value) : W.grownBy ((((W.setCell ⟨g, 0, none⟩ b0).setCell ⟨g, 1, none⟩ b1).setCell ⟨g, 2, none⟩ b2).setCell ⟨g, 3, none⟩ b3) (some g) :=
  grown_setCells g [b0, b1, b2, b3] 0 W W ⟨rfl, rfl, rfl, Nat.le_refl _, fun _ _ _ => rfl⟩
theorem R_grown_far {α : Type} {d : Kd α} {e : Nat} {w w' : World} {base g : Nat} {ok : Nat → Prop} {v : Value} {xs : List α} (h : d.R e w base ok v xs) (hg : w.grownBy w' (some g)) (hb : g < base) : d.R e w' base ok v xs :=
  Kd.R_mono (Kd.R_step (Kd.R_bound h) (fun k hk hl => hg.block k hl (fun e => by have := Option.some.inj e; have := hk.2.1; omega))) (fun _ hk => hk.1)
theorem set_list {xs : List S48} {cs : List Value} {p : S48} {i : Nat} (ht : cs.take (xs.length * 2) = flatP xs) (hi : i < xs.length) (hs : xs.length * 2 ≤ cs.length) :
    (cs.take (i * 2) ++ [Value.string p.f0, Value.string p.f1] ++ cs.drop (i * 2 + ([Value.string p.f0, Value.string p.f1] : List Value).length)).take (xs.length * 2) = flatP (xs.set i p) := by
  have hl : (flatP (xs.take i)).length = i * 2 := by rw [flatP_length, List.length_take]; omega
  have e1 : cs.take (i * 2) = flatP (xs.take i) := by rw [flatP_take, ← ht, List.take_take, Nat.min_eq_left (by omega)]
  have e2 : xs.set i p = xs.take i ++ p :: xs.drop (i + 1) := List.set_eq_take_append_cons_drop.trans (by rw [if_pos hi])
  have e3 : flatP (p :: xs.drop (i + 1)) = [Value.string p.f0, Value.string p.f1] ++ flatP (xs.drop (i + 1)) := rfl
  rw [e1, e2, flatP_append, e3, ← List.append_assoc]
  have e4 : (flatP (xs.take i) ++ [Value.string p.f0, Value.string p.f1]).length = (i + 1) * 2 := by rw [List.length_append, hl]; show i * 2 + 2 = _; omega
  rw [List.take_append, e4, List.take_of_length_le (by rw [e4]; omega), flatP_drop, ← ht, List.drop_take]
  congr 2
  show List.drop (i * 2 + 2) cs = List.drop ((i + 1) * 2) cs
  congr 1
  omega
theorem R48_put {w : World} {B c i : Nat} {A : Option Addr} {xs : List S48} (p : S48) (h : k48.R 48 w B (fun _ => True) (.slice A xs.length c) xs) (hi : i < xs.length) :
    ∃ g, A = some ⟨g, 0, none⟩ ∧ Aside0 (B ≤ g) ∧ w.cell? ⟨g, i * 2, none⟩ = some (.string (rd_T48 xs i).f0) ∧ w.cell? ⟨g, i * 2 + 1, none⟩ = some (.string (rd_T48 xs i).f1) ∧ w.frozen? ⟨g, i * 2, none⟩ = false ∧ w.frozen? ⟨g, i * 2 + 1, none⟩ = false ∧
      Aside0 (k48.R 48 ((w.setCell ⟨g, i * 2, none⟩ (.string p.f0)).setCell ⟨g, i * 2 + 1, none⟩ (.string p.f1)) B (fun _ => True) (.slice A xs.length c) (xs.set i p)) := by
  have hat := at_T48 (Kd.R_reads' h).2.2 (i : Int) (by omega) (by omega)
  obtain ⟨hn, h0 | ⟨g, cs, rfl, h1, h2, h3, h4, h5, h6⟩⟩ := R48_open h
  · rw [h0.2] at hi
    exact absurd hi (Nat.not_lt_zero _)
  · obtain ⟨ad, e, k0, k1⟩ := hat
    cases e
    rw [add_plain, Int.toNat_natCast] at k0 k1
    refine ⟨g, rfl, ⟨h1⟩, k0, k1, blk_frozen h2 _, blk_frozen h2 _, ⟨?_⟩⟩
    obtain ⟨cur, b1, b2, b3⟩ := setCells_row [Value.string p.f0, Value.string p.f1] (i * 2) w cs h2 (by rw [h5]; simp; omega)
    have hl : (xs.set i p).length = xs.length := List.length_set
    have hR := R48_mk (xs := xs.set i p) (c := c) h1 b1 (by rw [hl]; exact h3) h4 (by rw [b2, h5]) (by rw [hl, b3]; exact set_list h6 hi (by have e : cs.toList.length = cs.size := Array.length_toList; omega))
    rw [hl] at hR
    exact hR
set_option maxHeartbeats 4000000 in
set_option maxRecDepth 100000 in
def node_Drop.v (a0_0 : Bool) (l0_1 : List (S48)) (l0_2 : List ByteArray) (l0_3 : List Int) (a1 : ByteArray) : Bool × List S48 × List ByteArray × List Int × Int := if leafV a0_0 l0_1 l0_2 l0_3 = true then (if isP l0_1 a1 = true then (true, l0_1.eraseIdx (atP l0_1 a1), [], [], 0) else (false, [], [], [], 7)) else (false, [], [], [], 2)
def node_Drop.f (a0_0 : Bool) (l0_1 : List (S48)) (l0_2 : List ByteArray) (l0_3 : List Int) (a1 : ByteArray) : Option (Bool × List S48 × List ByteArray × List Int × Int) := some (node_Drop.v a0_0 l0_1 l0_2 l0_3 a1)
set_option maxHeartbeats 4000000 in
set_option maxRecDepth 100000 in
theorem node_Drop.calls (a0_0 : Bool) (A0_1 : Option Addr) (c0_1 : Nat) (l0_1 : List S48) (A0_2 : Option Addr) (c0_2 : Nat) (l0_2 : List ByteArray) (A0_3 : Option Addr) (c0_3 : Nat) (l0_3 : List Int) (a1 : ByteArray) (r1 : Bool) (r2 : List (S48)) (r3 : List ByteArray) (r4 : List Int) (r5 : Int) (w : World) (hr0_1 : Kd.C k48 w A0_1 l0_1.length l0_1) (hc0_1 : l0_1.length ≤ c0_1) (hr0_2 : Kd.C Kd.string w A0_2 l0_2.length l0_2) (hc0_2 : l0_2.length ≤ c0_2) (hr0_3 : Kd.C (Kd.int .i64) w A0_3 l0_3.length l0_3) (hc0_3 : l0_3.length ≤ c0_3) (h : node_Drop.f a0_0 l0_1 l0_2 l0_3 a1 = some (r1, r2, r3, r4, r5)) :
    Calls Try.prog 34 #[.agg #[.bool a0_0, .slice A0_1 l0_1.length c0_1, .slice A0_2 l0_2.length c0_2, .slice A0_3 l0_3.length c0_3], .string a1] w fun e w' => ∃ v1_ v2_ v3_ : Value, e = .returned (.tuple #[.agg #[.bool r1, v1_, v2_, v3_], .int .i64 r5]) ∧ Kd.R k48 48 w' w.heap.size (fun _ => True) v1_ r2 ∧ Kd.R Kd.string 9 w' w.heap.size (fun _ => True) v2_ r3 ∧ Kd.R (Kd.int .i64) 3 w' w.heap.size (fun _ => True) v3_ r4 ∧ Below w.heap.size w w' := by
  have LF := Aside0.mk (fun W hw => node_Node_leaf.calls a0_0 A0_1 c0_1 l0_1 A0_2 c0_2 l0_2 A0_3 c0_3 l0_3 (leafV a0_0 l0_1 l0_2 l0_3) W (Kd.C_below hr0_1 hw) hc0_1 (Kd.C_below hr0_2 hw) hc0_2 (Kd.C_below hr0_3 hw) hc0_3 rfl)
  have CL := Aside0.mk (fun W hw hb => api_Pair_44.calls A0_1 c0_1 l0_1 l0_1 W (Kd.C_below hr0_1 hw) hc0_1 (by unfold api_Pair_44.f; rw [if_pos hb]))
  have PA := Aside0.mk (fun W hw => node_pairAt.calls A0_1 c0_1 l0_1 a1 (atP l0_1 a1 : Int) (isP l0_1 a1) W (Kd.C_below hr0_1 hw) hc0_1 rfl)
  replace h := Option.some.inj h
  unfold node_Drop.v at h
  clear hr0_1 hc0_1 hr0_2 hc0_2 hr0_3 hc0_3
  by_cases hl : leafV a0_0 l0_1 l0_2 l0_3 = true
  · rw [if_pos hl] at h
    have hlen : l0_1.length ≤ 255 := (leafV_true hl).2.2.2.1
    rw [hl] at LF
    clear hl
    by_cases hs : isP l0_1 a1 = true
    · rw [if_pos hs] at h
      cases h
      have hat : atP l0_1 a1 < l0_1.length := by unfold isP at hs; simp at hs; exact hs.1
      obtain ⟨k, hk⟩ : ∃ k, k = atP l0_1 a1 := ⟨_, rfl⟩
      rw [← hk] at hat PA ⊢
      rw [hs] at PA
      clear hk hs
      have hwr : IntKind.i64.wrap ((k : Int) + 1) = (k : Int) + 1 := by rw [IntKind.wrap_i64]; omega
      obtain ⟨wy, hwy⟩ : ∃ wy, wy = (w.alloc (.cells #[.bool a0_0, .slice A0_1 l0_1.length c0_1, .slice A0_2 l0_2.length c0_2, .slice A0_3 l0_3.length c0_3] 31)) := ⟨_, rfl⟩
      obtain ⟨wx, hwx⟩ : ∃ wx, wx = wy.alloc (.cells #[.bool false, .slice none 0 0, .slice none 0 0, .slice none 0 0] 31) := ⟨_, rfl⟩
      have ny : wy.heap.size = (w.heap.size + 1) := by rw [hwy]; simp
      have b0y := heap_alloc_new w (.cells #[.bool a0_0, .slice A0_1 l0_1.length c0_1, .slice A0_2 l0_2.length c0_2, .slice A0_3 l0_3.length c0_3] 31)
      rw [← hwy] at b0y
      have b1y := b0y
      have bel := below_alloc (Below.refl w.heap.size w) (.cells #[.bool a0_0, .slice A0_1 l0_1.length c0_1, .slice A0_2 l0_2.length c0_2, .slice A0_3 l0_3.length c0_3] 31)
      rw [← hwy] at bel
      have bx := (Lib.alloc_old wy (.cells #[.bool false, .slice none 0 0, .slice none 0 0, .slice none 0 0] 31) w.heap.size (blk_lt b1y)).trans b1y
      have tx := heap_alloc_new wy (.cells #[.bool false, .slice none 0 0, .slice none 0 0, .slice none 0 0] 31)
      rw [← hwx] at bx tx
      rw [ny] at tx
      have BXX : Aside0 (Below w.heap.size w wx) := ⟨by rw [hwx]; exact below_alloc bel _⟩
      have TX := Aside0.mk tx
      have NX : Aside0 (wx.heap.size = (w.heap.size + 1) + 1) := ⟨by rw [hwx]; simp; omega⟩
      have HWX : Aside0 (wx = (w.alloc (.cells #[.bool a0_0, .slice A0_1 l0_1.length c0_1, .slice A0_2 l0_2.length c0_2, .slice A0_3 l0_3.length c0_3] 31)).alloc (.cells #[.bool false, .slice none 0 0, .slice none 0 0, .slice none 0 0] 31)) := ⟨by rw [hwx, hwy]⟩
      have b0 : wx.cell? ⟨w.heap.size, 0, none⟩ = some (.bool a0_0) := blk_cell bx 0
      have b1 : wx.cell? ⟨w.heap.size, 1, none⟩ = some (.slice A0_1 l0_1.length c0_1) := blk_cell bx 1
      have b2 : wx.cell? ⟨w.heap.size, 2, none⟩ = some (.slice A0_2 l0_2.length c0_2) := blk_cell bx 2
      have b3 : wx.cell? ⟨w.heap.size, 3, none⟩ = some (.slice A0_3 l0_3.length c0_3) := blk_cell bx 3
      clear hwx hwy ny b0y b1y bel bx tx
      go_enter Try.func34, Try.ntmps34
      go_wp2_with fail
      rw [← HWX.out]
      refine (LF.out _ BXX.out).mono ?_
      rintro e w1 ⟨rfl, hB⟩
      have B1 := Aside0.mk (BXX.out.trans (hB.mono BXX.out.size))
      have t1 : w1.heap[(w.heap.size + 1)]? = some (.cells #[.bool false, .slice none 0 0, .slice none 0 0, .slice none 0 0] 31 (0, 0)) := (hB.block _ (by have := NX.out; omega)).trans TX.out
      have d0 := nd_cell hB b0
      have d1 := nd_cell hB b1
      have d2 := nd_cell hB b2
      have d3 := nd_cell hB b3
      clear b0 b1 b2 b3 hB
      go_wp2_with fail
      refine (PA.out _ B1.out).mono ?_
      rintro e w2 ⟨rfl, hB⟩
      have B2 := Aside0.mk (B1.out.trans (hB.mono B1.out.size))
      have t2 : w2.heap[(w.heap.size + 1)]? = some (.cells #[.bool false, .slice none 0 0, .slice none 0 0, .slice none 0 0] 31 (0, 0)) := (hB.block _ (blk_lt t1)).trans t1

      have e0 := nd_cell hB d0
      have e1 := nd_cell hB d1
      have e2 := nd_cell hB d2
      have e3 := nd_cell hB d3
      clear d0 d1 d2 d3 hB t1
      have T2 := Aside0.mk t2
      clear t2
      go_wp2_with fail
      refine (CL.out _ B2.out (by omega)).mono ?_
      rintro e w3 ⟨v0, rfl, hR, hB⟩
      have B3 := Aside0.mk (B2.out.trans (hB.mono B2.out.size))
      have hz := blk_lt T2.out
      have t3 : w3.heap[(w.heap.size + 1)]? = some (.cells #[.bool false, .slice none 0 0, .slice none 0 0, .slice none 0 0] 31 (0, 0)) := (hB.block _ hz).trans T2.out
      have T3 := Aside0.mk t3
      have S3 := Aside0.mk hB.size
      have hZ := Aside0.mk hz
      obtain ⟨A, c, rfl⟩ := Kd.R_slice hR
      obtain ⟨_, h0 | ⟨g, cs, rfl, h1, h2, h3, h4, h5, h6⟩⟩ := R48_open hR
      · rw [h0.2] at hat
        exact absurd hat (Nat.not_lt_zero _)
      have DEL := Aside0.mk (delete_one w2.heap.size g c l0_1 k w3 hR hB.size h1 hat hlen h3 h4)
      clear hB hz t3 h1 h2 h3 h4 h5 h6 hR e0 e1 e2 e3
      go_wp2_with fail
      refine DEL.out.mono ?_
      rintro e w4 ⟨rfl, hR, hB⟩
      have t4 : w4.heap[(w.heap.size + 1)]? = some (.cells #[.bool false, .slice none 0 0, .slice none 0 0, .slice none 0 0] 31 (0, 0)) := (hB.block _ hZ.out).trans T3.out
      have B4 := Aside0.mk (B3.out.trans (hB.mono B2.out.size))
      have R4 := Aside0.mk hR
      clear hB hR
      have c0 : w4.cell? ⟨(w.heap.size + 1), 0, none⟩ = some (.bool false) := blk_cell t4 0
      have c1 : w4.cell? ⟨(w.heap.size + 1), 1, none⟩ = some (.slice none 0 0) := blk_cell t4 1
      have c2 : w4.cell? ⟨(w.heap.size + 1), 2, none⟩ = some (.slice none 0 0) := blk_cell t4 2
      have c3 : w4.cell? ⟨(w.heap.size + 1), 3, none⟩ = some (.slice none 0 0) := blk_cell t4 3
      have f0 : w4.frozen? ⟨(w.heap.size + 1), 0, none⟩ = false := blk_frozen t4 0
      have f1 : w4.frozen? ⟨(w.heap.size + 1), 1, none⟩ = false := blk_frozen t4 1
      have f2 : w4.frozen? ⟨(w.heap.size + 1), 2, none⟩ = false := blk_frozen t4 2
      have f3 : w4.frozen? ⟨(w.heap.size + 1), 3, none⟩ = false := blk_frozen t4 3
      go_wp2
      have hg4 := nd_grown4 w4 (w.heap.size + 1) (.bool true) (.slice (some ⟨g, 0, none⟩) (l0_1.length - 1) c) (.slice none 0 0) (.slice none 0 0)
      refine bodyPost_ret (results_ct rfl _ _ (w.heap.size + 1) 31 #[.bool true, .slice (some ⟨g, 0, none⟩) (l0_1.length - 1) c, .slice none 0 0, .slice none 0 0] (0, 0) _ rfl (nd_put4 w4 (w.heap.size + 1) 31 _ _ _ _ (.bool true) (.slice (some ⟨g, 0, none⟩) (l0_1.length - 1) c) (.slice none 0 0) (.slice none 0 0) t4) Try.underlying31 rfl (by kernel_rfl)) rfl ?_
      exact ⟨_, _, _, rfl, Kd.R_lower (R_grown_far R4.out hg4 hZ.out) B2.out.size, Kd.R_nil _ _ _ _ _, Kd.R_nil _ _ _ _ _, nd_grown_below hg4 B4.out B4.out.size (by omega)⟩
    · rw [if_neg hs] at h
      cases h
      rw [Bool.not_eq_true] at hs
      rw [hs] at PA
      clear hs
      obtain ⟨wy, hwy⟩ : ∃ wy, wy = (w.alloc (.cells #[.bool a0_0, .slice A0_1 l0_1.length c0_1, .slice A0_2 l0_2.length c0_2, .slice A0_3 l0_3.length c0_3] 31)) := ⟨_, rfl⟩
      obtain ⟨wx, hwx⟩ : ∃ wx, wx = wy.alloc (.cells #[.bool false, .slice none 0 0, .slice none 0 0, .slice none 0 0] 31) := ⟨_, rfl⟩
      have ny : wy.heap.size = (w.heap.size + 1) := by rw [hwy]; simp
      have b0y := heap_alloc_new w (.cells #[.bool a0_0, .slice A0_1 l0_1.length c0_1, .slice A0_2 l0_2.length c0_2, .slice A0_3 l0_3.length c0_3] 31)
      rw [← hwy] at b0y
      have b1y := b0y
      have bel := below_alloc (Below.refl w.heap.size w) (.cells #[.bool a0_0, .slice A0_1 l0_1.length c0_1, .slice A0_2 l0_2.length c0_2, .slice A0_3 l0_3.length c0_3] 31)
      rw [← hwy] at bel
      have bx := (Lib.alloc_old wy (.cells #[.bool false, .slice none 0 0, .slice none 0 0, .slice none 0 0] 31) w.heap.size (blk_lt b1y)).trans b1y
      have tx := heap_alloc_new wy (.cells #[.bool false, .slice none 0 0, .slice none 0 0, .slice none 0 0] 31)
      rw [← hwx] at bx tx
      rw [ny] at tx
      have BXX : Aside0 (Below w.heap.size w wx) := ⟨by rw [hwx]; exact below_alloc bel _⟩
      have TX := Aside0.mk tx
      have NX : Aside0 (wx.heap.size = (w.heap.size + 1) + 1) := ⟨by rw [hwx]; simp; omega⟩
      have HWX : Aside0 (wx = (w.alloc (.cells #[.bool a0_0, .slice A0_1 l0_1.length c0_1, .slice A0_2 l0_2.length c0_2, .slice A0_3 l0_3.length c0_3] 31)).alloc (.cells #[.bool false, .slice none 0 0, .slice none 0 0, .slice none 0 0] 31)) := ⟨by rw [hwx, hwy]⟩
      have b0 : wx.cell? ⟨w.heap.size, 0, none⟩ = some (.bool a0_0) := blk_cell bx 0
      have b1 : wx.cell? ⟨w.heap.size, 1, none⟩ = some (.slice A0_1 l0_1.length c0_1) := blk_cell bx 1
      have b2 : wx.cell? ⟨w.heap.size, 2, none⟩ = some (.slice A0_2 l0_2.length c0_2) := blk_cell bx 2
      have b3 : wx.cell? ⟨w.heap.size, 3, none⟩ = some (.slice A0_3 l0_3.length c0_3) := blk_cell bx 3
      clear hwx hwy ny b0y b1y bel bx tx
      go_enter Try.func34, Try.ntmps34
      go_wp2_with fail
      rw [← HWX.out]
      refine (LF.out _ BXX.out).mono ?_
      rintro e w1 ⟨rfl, hB⟩
      have B1 := Aside0.mk (BXX.out.trans (hB.mono BXX.out.size))
      have t1 : w1.heap[(w.heap.size + 1)]? = some (.cells #[.bool false, .slice none 0 0, .slice none 0 0, .slice none 0 0] 31 (0, 0)) := (hB.block _ (by have := NX.out; omega)).trans TX.out
      have d0 := nd_cell hB b0
      have d1 := nd_cell hB b1
      have d2 := nd_cell hB b2
      have d3 := nd_cell hB b3
      clear b0 b1 b2 b3 hB
      go_wp2_with fail
      refine (PA.out _ B1.out).mono ?_
      rintro e w2 ⟨rfl, hB⟩
      have B2 := Aside0.mk (B1.out.trans (hB.mono B1.out.size))
      have t2 : w2.heap[(w.heap.size + 1)]? = some (.cells #[.bool false, .slice none 0 0, .slice none 0 0, .slice none 0 0] 31 (0, 0)) := (hB.block _ (blk_lt t1)).trans t1

      clear d0 d1 d2 d3 hB t1
      have c0 : w2.cell? ⟨(w.heap.size + 1), 0, none⟩ = some (.bool false) := blk_cell t2 0
      have c1 : w2.cell? ⟨(w.heap.size + 1), 1, none⟩ = some (.slice none 0 0) := blk_cell t2 1
      have c2 : w2.cell? ⟨(w.heap.size + 1), 2, none⟩ = some (.slice none 0 0) := blk_cell t2 2
      have c3 : w2.cell? ⟨(w.heap.size + 1), 3, none⟩ = some (.slice none 0 0) := blk_cell t2 3
      have f0 : w2.frozen? ⟨(w.heap.size + 1), 0, none⟩ = false := blk_frozen t2 0
      have f1 : w2.frozen? ⟨(w.heap.size + 1), 1, none⟩ = false := blk_frozen t2 1
      have f2 : w2.frozen? ⟨(w.heap.size + 1), 2, none⟩ = false := blk_frozen t2 2
      have f3 : w2.frozen? ⟨(w.heap.size + 1), 3, none⟩ = false := blk_frozen t2 3
      go_wp2
      have hg4 := nd_grown4 w2 (w.heap.size + 1) (.bool false) (.slice none 0 0) (.slice none 0 0) (.slice none 0 0)
      refine bodyPost_ret (results_ct rfl _ _ (w.heap.size + 1) 31 #[.bool false, .slice none 0 0, .slice none 0 0, .slice none 0 0] (0, 0) _ rfl (nd_put4 w2 (w.heap.size + 1) 31 _ _ _ _ (.bool false) (.slice none 0 0) (.slice none 0 0) (.slice none 0 0) t2) Try.underlying31 rfl (by kernel_rfl)) rfl ?_
      exact ⟨_, _, _, rfl, Kd.R_nil _ _ _ _ _, Kd.R_nil _ _ _ _ _, Kd.R_nil _ _ _ _ _, nd_grown_below hg4 B2.out B2.out.size (by omega)⟩
  · rw [if_neg hl] at h
    cases h
    rw [Bool.not_eq_true] at hl
    rw [hl] at LF
    clear hl
    obtain ⟨wy, hwy⟩ : ∃ wy, wy = (w.alloc (.cells #[.bool a0_0, .slice A0_1 l0_1.length c0_1, .slice A0_2 l0_2.length c0_2, .slice A0_3 l0_3.length c0_3] 31)) := ⟨_, rfl⟩
    obtain ⟨wx, hwx⟩ : ∃ wx, wx = wy.alloc (.cells #[.bool false, .slice none 0 0, .slice none 0 0, .slice none 0 0] 31) := ⟨_, rfl⟩
    have ny : wy.heap.size = (w.heap.size + 1) := by rw [hwy]; simp
    have b0y := heap_alloc_new w (.cells #[.bool a0_0, .slice A0_1 l0_1.length c0_1, .slice A0_2 l0_2.length c0_2, .slice A0_3 l0_3.length c0_3] 31)
    rw [← hwy] at b0y
    have b1y := b0y
    have bel := below_alloc (Below.refl w.heap.size w) (.cells #[.bool a0_0, .slice A0_1 l0_1.length c0_1, .slice A0_2 l0_2.length c0_2, .slice A0_3 l0_3.length c0_3] 31)
    rw [← hwy] at bel
    have bx := (Lib.alloc_old wy (.cells #[.bool false, .slice none 0 0, .slice none 0 0, .slice none 0 0] 31) w.heap.size (blk_lt b1y)).trans b1y
    have tx := heap_alloc_new wy (.cells #[.bool false, .slice none 0 0, .slice none 0 0, .slice none 0 0] 31)
    rw [← hwx] at bx tx
    rw [ny] at tx
    have BXX : Aside0 (Below w.heap.size w wx) := ⟨by rw [hwx]; exact below_alloc bel _⟩
    have TX := Aside0.mk tx
    have NX : Aside0 (wx.heap.size = (w.heap.size + 1) + 1) := ⟨by rw [hwx]; simp; omega⟩
    have HWX : Aside0 (wx = (w.alloc (.cells #[.bool a0_0, .slice A0_1 l0_1.length c0_1, .slice A0_2 l0_2.length c0_2, .slice A0_3 l0_3.length c0_3] 31)).alloc (.cells #[.bool false, .slice none 0 0, .slice none 0 0, .slice none 0 0] 31)) := ⟨by rw [hwx, hwy]⟩
    have b0 : wx.cell? ⟨w.heap.size, 0, none⟩ = some (.bool a0_0) := blk_cell bx 0
    have b1 : wx.cell? ⟨w.heap.size, 1, none⟩ = some (.slice A0_1 l0_1.length c0_1) := blk_cell bx 1
    have b2 : wx.cell? ⟨w.heap.size, 2, none⟩ = some (.slice A0_2 l0_2.length c0_2) := blk_cell bx 2
    have b3 : wx.cell? ⟨w.heap.size, 3, none⟩ = some (.slice A0_3 l0_3.length c0_3) := blk_cell bx 3
    clear hwx hwy ny b0y b1y bel bx tx
    go_enter Try.func34, Try.ntmps34
    go_wp2_with fail
    rw [← HWX.out]
    refine (LF.out _ BXX.out).mono ?_
    rintro e w1 ⟨rfl, hB⟩
    have B1 := Aside0.mk (BXX.out.trans (hB.mono BXX.out.size))
    have t1 : w1.heap[(w.heap.size + 1)]? = some (.cells #[.bool false, .slice none 0 0, .slice none 0 0, .slice none 0 0] 31 (0, 0)) := (hB.block _ (by have := NX.out; omega)).trans TX.out
    clear b0 b1 b2 b3 hB
    have c0 : w1.cell? ⟨(w.heap.size + 1), 0, none⟩ = some (.bool false) := blk_cell t1 0
    have c1 : w1.cell? ⟨(w.heap.size + 1), 1, none⟩ = some (.slice none 0 0) := blk_cell t1 1
    have c2 : w1.cell? ⟨(w.heap.size + 1), 2, none⟩ = some (.slice none 0 0) := blk_cell t1 2
    have c3 : w1.cell? ⟨(w.heap.size + 1), 3, none⟩ = some (.slice none 0 0) := blk_cell t1 3
    have f0 : w1.frozen? ⟨(w.heap.size + 1), 0, none⟩ = false := blk_frozen t1 0
    have f1 : w1.frozen? ⟨(w.heap.size + 1), 1, none⟩ = false := blk_frozen t1 1
    have f2 : w1.frozen? ⟨(w.heap.size + 1), 2, none⟩ = false := blk_frozen t1 2
    have f3 : w1.frozen? ⟨(w.heap.size + 1), 3, none⟩ = false := blk_frozen t1 3
    go_wp2
    have hg4 := nd_grown4 w1 (w.heap.size + 1) (.bool false) (.slice none 0 0) (.slice none 0 0) (.slice none 0 0)
    refine bodyPost_ret (results_ct rfl _ _ (w.heap.size + 1) 31 #[.bool false, .slice none 0 0, .slice none 0 0, .slice none 0 0] (0, 0) _ rfl (nd_put4 w1 (w.heap.size + 1) 31 _ _ _ _ (.bool false) (.slice none 0 0) (.slice none 0 0) (.slice none 0 0) t1) Try.underlying31 rfl (by kernel_rfl)) rfl ?_
    exact ⟨_, _, _, rfl, Kd.R_nil _ _ _ _ _, Kd.R_nil _ _ _ _ _, Kd.R_nil _ _ _ _ _, nd_grown_below hg4 B1.out B1.out.size (by omega)⟩
end
end Go.Proofs.Ytjjfeoigjhbbpaa.PA
namespace Go.Proofs.Ytjjfeoigjhbbpaa.PA
section

open Go.RowKit Go.Proofs.YtjjfeoigjhbbpaaW.PrintWords Go.Proofs.YtjjfeoigjhbbpaaW.PrintLast Go.Proofs.YtjjfeoigjhbbpaaW.PrintMore
attribute [local go_sem] pr_leq pr_geq pr_gtr max2_int min2_int max_two min_two max_three min_three max_four min_four
set_option linter.unusedVariables false
set_option linter.unusedSimpArgs false
theorem one_sc {α : Type} {enc : α → Value} {h1 : ∀ x, (enc x).oneCell' = true} {w : World} {vb t : Nat} {p : α} (hv : w.heap[vb]? = some (.cells #[enc p] t (0, 0))) : ReadsRow ((Kd.scalar enc h1).K w) (Kd.scalar enc h1).sz w (some ⟨vb, 0, none⟩) 1 [p] := ⟨rfl, by decide, fun _ => ⟨_, rfl, fun j q hj => by
  cases j with
  | zero =>
    cases hj
    refine ⟨[enc p], rfl, rfl, fun i u hu => ?_⟩
    rw [add_plain, blk_cell hv]
    match i, hu with
    | 0, hu => exact hu
  | succ j => cases hj⟩⟩
end
end Go.Proofs.Ytjjfeoigjhbbpaa.PA
