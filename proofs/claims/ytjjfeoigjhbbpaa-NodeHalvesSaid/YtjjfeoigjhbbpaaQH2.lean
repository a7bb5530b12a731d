/- Texts of this claim: contracts of the functions that the statement reaches, and plain laws of what they compute. -/
import Derived.Test.YtjjfeoigjhbbpaaQH1
set_option linter.unusedVariables false
set_option linter.unusedSimpArgs false
namespace Go.Proofs.Ytjjfeoigjhbbpaa.PA
section

open Go.RowKit Go.Proofs.YtjjfeoigjhbbpaaW.PrintWords Go.Proofs.YtjjfeoigjhbbpaaW.PrintLast Go.Proofs.YtjjfeoigjhbbpaaW.PrintMore
attribute [local go_sem] pr_leq pr_geq pr_gtr max2_int min2_int max_two min_two max_three min_three max_four min_four
set_option linter.unusedVariables false
set_option linter.unusedSimpArgs false
theorem heap_setCells (g : Nat) (t : TypeId) : ∀ (vs : List Value) (o : Nat) (w : World) (cs : Array Value), w.heap[g]? = some (.cells cs t (0, 0)) → o + vs.length ≤ cs.size →
    ∃ cs' : Array Value, (w.setCells g o vs).heap[g]? = some (.cells cs' t (0, 0)) ∧ cs'.size = cs.size ∧ (∀ i, i < o → cs'[i]? = cs[i]?) ∧ (∀ i, o + vs.length ≤ i → cs'[i]? = cs[i]?) ∧ ∀ i u, vs[i]? = some u → cs'[o + i]? = some u
  | [], o, w, cs, h, _ => ⟨cs, h, rfl, fun _ _ => rfl, fun _ _ => rfl, fun i u hu => by simp at hu⟩
  | v :: r, o, w, cs, h, hl => by
    simp only [List.length_cons] at hl
    have h1 := heap_setCell_same w g o cs t v h
    obtain ⟨cs', a1, a2, a3, a4, a5⟩ := heap_setCells g t r (o + 1) _ _ h1 (by simp; omega)
    refine ⟨cs', by rw [World.setCells]; exact a1, by rw [a2]; simp, fun i hi => ?_, fun i hi => ?_, fun i u hu => ?_⟩
    · rw [a3 i (by omega), Array.getElem?_setIfInBounds_ne (by omega)]
    · simp only [List.length_cons] at hi
      rw [a4 i (by omega), Array.getElem?_setIfInBounds_ne (by omega)]
    · cases i with
      | zero =>
        cases hu
        rw [Nat.add_zero, a3 o (by omega), Array.getElem?_setIfInBounds_self_of_lt (by omega)]
      | succ i =>
        rw [show o + (i + 1) = o + 1 + i by omega]
        exact a5 i u hu
def FlatK {α : Type} (d : Kd α) : Prop := ∀ w w' b ok x cs, d.K w x cs → d.M w' b ok x cs
theorem flat48 : FlatK k48 := fun _ _ _ _ _ _ h => h
theorem flatS : FlatK Kd.string := fun _ _ _ _ _ _ h => h
theorem flatI : FlatK (Kd.int .i64) := fun _ _ _ _ _ _ h => h
def Fr {α : Type} (d : Kd α) (e : Nat) (z : Value) (n g : Nat) (W : World) : Prop := ∃ cs, W.heap[g]? = some (.cells cs e (0, 0)) ∧ cs.size = (n + 1) * d.sz ∧ ∀ j, j < (n + 1) * d.sz → cs[j]? = some (z.cells[j % d.sz]!)
def Sp {α : Type} (d : Kd α) (e : Nat) (z : Value) (l : List α) (g : Nat) (W : World) : Prop := d.C W (some ⟨g, 0, none⟩) l.length l ∧ ∃ cs, W.heap[g]? = some (.cells cs e (0, 0)) ∧ cs.size = (l.length + 1) * d.sz ∧ ∀ j, l.length * d.sz ≤ j → j < (l.length + 1) * d.sz → cs[j]? = some (z.cells[j % d.sz]!)
theorem Fr.lt {α : Type} {d : Kd α} {e : Nat} {z : Value} {n g : Nat} {W : World} (h : Fr d e z n g W) : g < W.heap.size := by
  obtain ⟨cs, h, _⟩ := h
  exact blk_lt h
theorem Sp.lt {α : Type} {d : Kd α} {e : Nat} {z : Value} {l : List α} {g : Nat} {W : World} (h : Sp d e z l g W) : g < W.heap.size := by
  obtain ⟨_, cs, h, _⟩ := h
  exact blk_lt h
theorem Fr.keep {α : Type} {d : Kd α} {e : Nat} {z : Value} {n g x : Nat} {W W' : World} (h : Fr d e z n g W) (hg : W.grownBy W' (some x)) (hn : g ≠ x) : Fr d e z n g W' := by
  have hl := h.lt
  obtain ⟨cs, h1, h2⟩ := h
  exact ⟨cs, (hg.block g hl (fun e => hn (Option.some.inj e))).trans h1, h2⟩
theorem C_flat {α : Type} {d : Kd α} (hd : FlatK d) {W W' : World} {g n : Nat} {l : List α} (h : d.C W (some ⟨g, 0, none⟩) n l) (hh : W'.heap[g]? = W.heap[g]?) : d.C W' (some ⟨g, 0, none⟩) n l := by
  refine ⟨h.1, h.2.1, fun h0 => ?_⟩
  obtain ⟨ad, ha, hc⟩ := h.2.2 h0
  cases ha
  refine ⟨_, rfl, fun j p hj => ?_⟩
  obtain ⟨c, h1, h2, h3⟩ := hc j p hj
  exact ⟨c, h1, d.K_of_M (hd W W' 0 (fun _ => True) _ _ h2), fun i u hu => (World.cell?_of_block (by rw [add_plain]; exact hh)).trans (h3 i u hu)⟩
theorem Sp.keep {α : Type} {d : Kd α} (hd : FlatK d) {e : Nat} {z : Value} {l : List α} {g x : Nat} {W W' : World} (h : Sp d e z l g W) (hg : W.grownBy W' (some x)) (hn : g ≠ x) : Sp d e z l g W' := by
  have hb := hg.block g h.lt (fun e => hn (Option.some.inj e))
  obtain ⟨hC, cs, h1, h2⟩ := h
  exact ⟨C_flat hd hC hb, cs, hb.trans h1, h2⟩
theorem Sp.same {α : Type} {d : Kd α} (hd : FlatK d) {e : Nat} {z : Value} {l : List α} {g : Nat} {W W' : World} (h : Sp d e z l g W) (hb : W'.heap[g]? = W.heap[g]?) : Sp d e z l g W' := by
  obtain ⟨hC, cs, h1, h2⟩ := h
  exact ⟨C_flat hd hC hb, cs, hb.trans h1, h2⟩
theorem Sp.R {α : Type} {d : Kd α} (hd : FlatK d) (hs : 0 < d.sz) {e : Nat} {z : Value} {l : List α} {g b : Nat} {W : World} (h : Sp d e z l g W) (hb : b ≤ g) (hm : l.length < maxLen) : d.R e W b (fun _ => True) (.slice (some ⟨g, 0, none⟩) l.length (l.length + 1)) l := by
  obtain ⟨hC, cs, h1, h2, _⟩ := h
  obtain ⟨news, hnr, hnc⟩ := ReadsRow.inner_ hC
  refine ⟨fun _ _ => trivial, news, ⟨hnr.1, Or.inr ⟨g, l.length + 1, cs, rfl, hb, h1, by omega, by omega, h2, ?_⟩⟩, hnr.imp_ (fun _ _ hp => hd W W b _ _ _ hp)⟩
  apply List.ext_getElem?
  intro j
  have hle : l.length * d.sz ≤ (l.length + 1) * d.sz := Nat.mul_le_mul_right _ (by omega)
  rcases Nat.lt_or_ge j (l.length * d.sz) with hj | hj
  · rw [List.getElem?_take_of_lt hj]
    have hjn : j < news.length := by rw [hnr.1]; exact hj
    have := hnc j _ (List.getElem?_eq_getElem hjn)
    rw [add_plain, blk_cell h1] at this
    rw [List.getElem?_eq_getElem hjn, ← this]
    simp
  · rw [List.getElem?_eq_none (by rw [List.length_take]; omega), List.getElem?_eq_none (by rw [hnr.1]; exact hj)]
theorem makeIn {P : Program} {α : Type} (d : Kd α) (t e : TypeId) (z : Value) (bytes : Nat) (ht : P.underlying t = some (.slice e)) (hinfo : (P.info? e).map (fun i => (i.zero, i.size, i.bytes)) = some (some z, d.sz, bytes)) (hz : z.cells.size = d.sz) (W : World) (n : Nat) (hn : bytes * (n + 1) ≤ 281474976710656) (hn2 : n + 1 ≤ 281474976710656) :
    ∃ g W', g = W.heap.size ∧ (Instr.makeSlice t (.int .i64 0) (.int .i64 ((n : Int) + 1))).run P W = .ok (.slice (some ⟨g, 0, none⟩) 0 (n + 1)) W' ∧ Fr d e z n g W' ∧ W.grownBy W' (some g) := by
  obtain ⟨i, hi, hzz⟩ := Option.map_eq_some_iff.1 hinfo
  simp only [Prod.mk.injEq] at hzz
  obtain ⟨hz0, hs, hb⟩ := hzz
  have h := run_make (P := P) W t e i z ht hi hz0 .i64 .i64 0 ((n : Int) + 1) (by omega) (by omega) (by
      rw [hb]
      have : ((bytes * (n + 1) : Nat) : Int) ≤ 281474976710656 := by omega
      rwa [Int.natCast_mul] at this) (by omega)
  have e1 : ((n : Int) + 1).toNat = n + 1 := by omega
  rw [e1, hs] at h
  have b := below_alloc (Below.refl W.heap.size W) (.cells (madeCells z.cells ((n + 1) * d.sz)) e)
  refine ⟨_, _, rfl, h, ⟨_, heap_alloc_new W _, size_madeCells _ _, fun j hj => ?_⟩, ⟨b.os, b.tape, b.output, b.size, fun k hk _ => b.block k hk⟩⟩
  rw [Array.getElem?_eq_getElem (by rw [size_madeCells]; exact hj)]
  simp [madeCells, hz]
theorem grown_setCells (g : Nat) : ∀ (vs : List Value) (o : Nat) (w w0 : World), w0.grownBy w (some g) → w0.grownBy (w.setCells g o vs) (some g)
  | [], _, _, _, h => h
  | v :: r, o, w, w0, h => by
    rw [World.setCells]
    refine grown_setCells g r (o + 1) _ _ ⟨h.os, h.tape, h.output, by simpa [World.setCell] using h.size, fun k hk hn => ?_⟩
    rw [Below.heap_setCell w ⟨g, o, none⟩ v k (fun e => hn (by rw [e]))]
    exact h.block k hk hn
theorem appendAt {P : Program} {α : Type} (d : Kd α) (hd : FlatK d) (t e : TypeId) (z : Value) (bytes : Nat) (ht : P.underlying t = some (.slice e)) (hinfo : (P.info? e).map (fun i => (i.zero, i.size, i.bytes)) = some (some z, d.sz, bytes)) (hz : z.cells.size = d.sz) (hs0 : 0 < d.sz)
    (ty : TypeId) (W : World) (A : Option Addr) (c : Nat) (l : List α) (g : Nat) (hr : d.C W A l.length l) (hf : Fr d e z l.length g W) :
    ∃ W2, (Builtin.append_ #[t, t] ty #[.slice (some ⟨g, 0, none⟩) 0 (l.length + 1), .slice A l.length c]).run P W = .ok (.slice (some ⟨g, 0, none⟩) l.length (l.length + 1)) W2 ∧ Sp d e z l g W2 ∧ W.grownBy W2 (some g) := by
  obtain ⟨i, hi, hzz⟩ := Option.map_eq_some_iff.1 hinfo
  simp only [Prod.mk.injEq] at hzz
  obtain ⟨hz0, hs, hb⟩ := hzz
  obtain ⟨cs0, hblk, hsz0, hmc⟩ := hf
  have hnil : l = [] → ∃ W2, W = W2 ∧ Sp d e z l g W2 ∧ W.grownBy W2 (some g) := by
    rintro rfl
    exact ⟨W, rfl, ⟨⟨rfl, by simp, fun h => absurd h (by simp)⟩, _, hblk, hsz0, fun j _ hj => hmc j hj⟩, ⟨rfl, rfl, rfl, Nat.le_refl _, fun _ _ _ => rfl⟩⟩
  cases A with
  | none =>
    have h0 : l.length = 0 := by
      rcases Nat.eq_zero_or_pos l.length with h0 | h0
      · exact h0
      · obtain ⟨ad, h, _⟩ := hr.2.2 h0
        cases h
    obtain ⟨W2, rfl, a⟩ := hnil (List.eq_nil_of_length_eq_zero h0)
    refine ⟨W, ?_, a⟩
    rw [h0]
    simp [Builtin.append_, run_underlying ht, sizeOf, typeInfo, hi, Builtin.lenOf, Builtin.firstCells, storeCells, Result.andThen]
  | some ad =>
    obtain ⟨news, hnr, hnc⟩ := ReadsRow.inner_ hr
    have hone : ∀ u ∈ news, u.oneCell' = true := by
      intro u hu
      obtain ⟨j, hj, rfl⟩ := List.getElem_of_mem hu
      have hlen := hnr.1
      have hq : j / d.sz < l.length := by
        rw [Nat.div_lt_iff_lt_mul hs0]
        omega
      have h2 := hnr.2 (j / d.sz) _ (List.getElem?_eq_getElem hq)
      refine d.K_one h2 _ ?_
      have hmod := Nat.mod_lt j hs0
      have e1 : j = j / d.sz * d.sz + j % d.sz := by rw [Nat.mul_comm]; exact (Nat.div_add_mod j d.sz).symm
      have : ((news.drop (j / d.sz * d.sz)).take d.sz)[j % d.sz]? = some news[j] := by
        rw [List.getElem?_take_of_lt hmod, List.getElem?_drop, ← e1, List.getElem?_eq_getElem]
      exact List.mem_of_getElem? this
    have hnl : news.length = l.length * i.size := by rw [hs]; exact hnr.1
    have hle : l.length * d.sz ≤ (l.length + 1) * d.sz := Nat.mul_le_mul_right _ (by omega)
    have h := run_append_room_cells (P := P) W t ty e i ht hi g 0 0 (l.length + 1) ad l.length c news hnl hnc hone (by omega)
      (fun j hj => by rw [Nat.zero_mul, Nat.add_zero, Nat.zero_add, blk_cell hblk, hmc j (by rw [hnr.1] at hj; omega)]; rfl)
      (fun j hj => blk_frozen hblk _)
    rw [Nat.zero_add, Nat.zero_mul, Nat.add_zero] at h
    obtain ⟨cs', a1, a2, a3, a4, a5⟩ := heap_setCells g e news 0 W _ hblk (by rw [hsz0, Nat.zero_add, hnr.1]; exact hle)
    rw [hsz0] at a2
    refine ⟨_, h, ⟨⟨rfl, hr.2.1, fun _ => ⟨_, rfl, fun j p hj => ?_⟩⟩, cs', a1, a2, fun j h1 h2 => by rw [a4 j (by rw [hnr.1]; omega), hmc j h2]⟩, grown_setCells g news 0 W W ⟨rfl, rfl, rfl, Nat.le_refl _, fun _ _ _ => rfl⟩⟩
    have h2 := hnr.2 j p hj
    have hK := d.K_len h2
    refine ⟨_, hK, d.K_of_M (hd W _ 0 (fun _ => True) _ _ h2), fun q u hu => ?_⟩
    have hq : q < d.sz := by rw [← hK]; exact (List.getElem?_eq_some_iff.1 hu).1
    rw [List.getElem?_take_of_lt hq, List.getElem?_drop] at hu
    rw [add_plain, blk_cell a1]
    have := a5 _ u hu
    rwa [Nat.zero_add] at this
theorem oper_append_ran {P : Program} {o : Oper} {a : Act} {Q : Exit → Act → World → Prop} {K : Act → World → Prop} {w w' : World} (s x : Operand) (t : TypeId)
    (hop : o.op = Op.call { callee := Callee.builtin Builtin.append, args := #[s, x], argTypes := #[t, t] }) (v1 v2 v : Value) (hs : a.eval s = v1) (hx : a.eval x = v2)
    (hrun : (Builtin.append_ #[t, t] o.type #[v1, v2]).run P w = .ok v w') (h : K (a.put o.dst v) w') : Oper.wp P o a w K Q := by
  unfold Oper.wp execOp
  simp only [hop, resolve, invoke, builtin, Sem.run_bind, Sem.run_pure, Result.andThen_ok, List.map_toArray, List.map_cons, List.map_nil, hs, hx, hrun]
  exact h
theorem nd_grown_cell {W W' : World} {g : Nat} {p : Addr} {u : Value} (h : W.grownBy W' (some g)) (hn : p.block ≠ g) (hc : W.cell? p = some u) : W'.cell? p = some u := by
  have hl := World.block_lt_of_cell? W p hc
  rw [World.cell?_of_block (h.block _ hl (fun e => hn (Option.some.inj e)))]
  exact hc
theorem nd_grown_below {b g : Nat} {W0 W W' : World} (h : W.grownBy W' (some g)) (hb : Below b W0 W) (hw : b ≤ W.heap.size) (hg : b ≤ g) : Below b W0 W' :=
  ⟨h.os.trans hb.os, h.tape.trans hb.tape, h.output.trans hb.output, Nat.le_trans hb.size h.size, fun k hk => (h.block k (by omega) (fun e => by have := Option.some.inj e; omega)).trans (hb.block k hk)⟩
theorem nd_set4 (W : World) (g t : Nat) (a0 a1 a2 a3 b0 b1 b2 b3 : Value) (h : W.heap[g]? = some (.cells #[a0, a1, a2, a3] t (0, 0))) :
    ∃ W7, W7 = ((((W.setCell ⟨g, 0, none⟩ b0).setCell ⟨g, 1, none⟩ b1).setCell ⟨g, 2, none⟩ b2).setCell ⟨g, 3, none⟩ b3) ∧ W7.heap[g]? = some (.cells #[b0, b1, b2, b3] t (0, 0)) ∧ W.grownBy W7 (some g) := by
  refine ⟨_, rfl, heap_setCell_same _ g 3 _ t b3 (heap_setCell_same _ g 2 _ t b2 (heap_setCell_same _ g 1 _ t b1 (heap_setCell_same W g 0 _ t b0 h))), ?_⟩
  have h' := grown_setCells g [b0, b1, b2, b3] 0 W W ⟨rfl, rfl, rfl, Nat.le_refl _, fun _ _ _ => rfl⟩
  exact h'
set_option maxHeartbeats 4000000 in
set_option maxRecDepth 100000 in
theorem of_strong (a0_0 : Bool) (A0_1 : Option Addr) (c0_1 : Nat) (l0_1 : List S48) (A0_2 : Option Addr) (c0_2 : Nat) (l0_2 : List ByteArray) (A0_3 : Option Addr) (c0_3 : Nat) (l0_3 : List Int) (w : World) (hr0_1 : Kd.C k48 w A0_1 l0_1.length l0_1) (hr0_2 : Kd.C Kd.string w A0_2 l0_2.length l0_2) (hr0_3 : Kd.C (Kd.int .i64) w A0_3 l0_3.length l0_3) (h1 : 32 * (l0_1.length + 1) ≤ 281474976710656) (h2 : 16 * (l0_2.length + 1) ≤ 281474976710656) (h3 : 8 * (l0_3.length + 1) ≤ 281474976710656) :
    Calls Try.prog 14 #[.agg #[.bool a0_0, .slice A0_1 l0_1.length c0_1, .slice A0_2 l0_2.length c0_2, .slice A0_3 l0_3.length c0_3]] w fun e w' => ∃ g1 g2 g3, e = .returned (.agg #[.bool a0_0, .slice (some ⟨g1, 0, none⟩) l0_1.length (l0_1.length + 1), .slice (some ⟨g2, 0, none⟩) l0_2.length (l0_2.length + 1), .slice (some ⟨g3, 0, none⟩) l0_3.length (l0_3.length + 1)]) ∧ w.heap.size ≤ g1 ∧ w.heap.size ≤ g2 ∧ w.heap.size ≤ g3 ∧ g1 ≠ g2 ∧ g1 ≠ g3 ∧ g2 ≠ g3 ∧
      Sp k48 48 (.agg #[(.string ⟨#[]⟩), (.string ⟨#[]⟩)]) l0_1 g1 w' ∧ Sp Kd.string 9 (.string ⟨#[]⟩) l0_2 g2 w' ∧ Sp (Kd.int .i64) 3 (.int .i64 0) l0_3 g3 w' ∧ Below w.heap.size w w' := by
  have R1 := Aside0.mk hr0_1
  have R2 := Aside0.mk hr0_2
  have R3 := Aside0.mk hr0_3
  have H1 := Aside0.mk h1
  have H2 := Aside0.mk h2
  have H3 := Aside0.mk h3
  have m1 : l0_1.length ≤ 8796093022207 := by omega
  have m2 : l0_2.length ≤ 17592186044415 := by omega
  have m3 : l0_3.length ≤ 35184372088831 := by omega
  clear hr0_1 hr0_2 hr0_3 h1 h2 h3
  have q1 : IntKind.i64.wrap ((l0_1.length : Int) + 1) = (l0_1.length : Int) + 1 := by rw [IntKind.wrap_i64]; omega
  have q2 : IntKind.i64.wrap ((l0_2.length : Int) + 1) = (l0_2.length : Int) + 1 := by rw [IntKind.wrap_i64]; omega
  have q3 : IntKind.i64.wrap ((l0_3.length : Int) + 1) = (l0_3.length : Int) + 1 := by rw [IntKind.wrap_i64]; omega
  have BX := Aside0.mk (heap_alloc_new w (.cells #[.bool a0_0, .slice A0_1 l0_1.length c0_1, .slice A0_2 l0_2.length c0_2, .slice A0_3 l0_3.length c0_3] 26))
  obtain ⟨wa, hwa⟩ : ∃ wa, wa = w.alloc (.cells #[.bool a0_0, .slice A0_1 l0_1.length c0_1, .slice A0_2 l0_2.length c0_2, .slice A0_3 l0_3.length c0_3] 26) := ⟨_, rfl⟩
  have HWA := Aside0.mk hwa
  have sa : wa.heap.size = w.heap.size + 1 := by rw [hwa]; simp
  rw [← hwa] at BX
  have XA := Aside0.mk (below_alloc (Below.refl w.heap.size w) (.cells #[.bool a0_0, .slice A0_1 l0_1.length c0_1, .slice A0_2 l0_2.length c0_2, .slice A0_3 l0_3.length c0_3] 26))
  rw [← hwa] at XA
  clear hwa
  have ZA := Aside0.mk sa
  clear sa
  go_enter Try.func14, Try.ntmps14
  go_wp2_with fail
  obtain ⟨wb, hwb⟩ : ∃ wb, wb = wa.alloc (.cells #[.bool false, .slice none 0 0, .slice none 0 0, .slice none 0 0] 31) := ⟨_, rfl⟩
  rw [← HWA.out, ← hwb]
  have xb : Below wa.heap.size wa wb := by rw [hwb]; exact below_alloc (Below.refl _ _) _
  have tb : wb.heap[w.heap.size + 1]? = some (.cells #[.bool false, .slice none 0 0, .slice none 0 0, .slice none 0 0] 31 (0, 0)) := by rw [hwb, ← ZA.out]; exact heap_alloc_new wa _
  have zb : wb.heap.size = w.heap.size + 2 := by have := ZA.out; rw [hwb]; simp; omega
  have bx : wb.heap[w.heap.size]? = some (.cells #[.bool a0_0, .slice A0_1 l0_1.length c0_1, .slice A0_2 l0_2.length c0_2, .slice A0_3 l0_3.length c0_3] 26 (0, 0)) := (xb.block _ (by have := ZA.out; omega)).trans BX.out
  have XB := Aside0.mk (XA.out.trans (xb.mono XA.out.size))
  have TB := Aside0.mk tb
  have ZB := Aside0.mk zb
  have B0 := Aside0.mk (show wb.cell? ⟨w.heap.size, 0, none⟩ = some (.bool a0_0) from blk_cell bx 0)
  have B1 := Aside0.mk (show wb.cell? ⟨w.heap.size, 1, none⟩ = some (.slice A0_1 l0_1.length c0_1) from blk_cell bx 1)
  have B2 := Aside0.mk (show wb.cell? ⟨w.heap.size, 2, none⟩ = some (.slice A0_2 l0_2.length c0_2) from blk_cell bx 2)
  have B3 := Aside0.mk (show wb.cell? ⟨w.heap.size, 3, none⟩ = some (.slice A0_3 l0_3.length c0_3) from blk_cell bx 3)
  clear hwb xb tb zb bx HWA BX XA
  refine wp_region_held_drew (S := (fun W => W.cell? ⟨w.heap.size, 0, none⟩ = some (.bool a0_0) ∧ W.cell? ⟨w.heap.size, 1, none⟩ = some (.slice A0_1 l0_1.length c0_1) ∧ W.cell? ⟨w.heap.size, 2, none⟩ = some (.slice A0_2 l0_2.length c0_2) ∧ W.cell? ⟨w.heap.size, 3, none⟩ = some (.slice A0_3 l0_3.length c0_3))) (by kernel_rfl) ?_ (fun hHeld => ?_)
  · exact ⟨B0.out, B1.out, B2.out, B3.out⟩
  have HB0 : Aside0 (Below (w.heap.size + 2) wb wb.drew) := ⟨below_drew1 (Below.refl _ _)⟩
  obtain ⟨W0, hW0⟩ : ∃ W0, W0 = wb.drew := ⟨_, rfl⟩
  rw [← hW0] at hHeld HB0 ⊢
  clear hW0
  refine wpAnyH_take (i := 0) (oi := _) (v := _) rfl (by kernel_rfl) (by kernel_rfl) (by kernel_rfl) (fun _ _ _ h => h) (Or.inl ⟨by rfl, by (intro w hSw; (try dsimp only at hSw); go_simp; try with_reducible rfl)⟩) hHeld ?_
  simp only [Act.put, List.getElem_toArray, List.getElem_cons_zero, List.getElem_cons_succ, List.setIfInBounds_toArray, List.set_cons_zero, List.set_cons_succ]
  refine wpAnyH_take (i := 1) (oi := _) (v := _) rfl (by kernel_rfl) (by kernel_rfl) (by kernel_rfl) (fun _ _ _ h => h) (Or.inl ⟨by rfl, by (intro w hSw; (try dsimp only at hSw); go_simp; try with_reducible rfl)⟩) hHeld ?_
  simp only [Act.put, List.getElem_toArray, List.getElem_cons_zero, List.getElem_cons_succ, List.setIfInBounds_toArray, List.set_cons_zero, List.set_cons_succ]
  refine wpAnyH_take (i := 2) (oi := _) (v := _) rfl (by kernel_rfl) (by kernel_rfl) (by kernel_rfl) (fun _ _ _ h => h) (Or.inl ⟨by rfl, by (intro w hSw; (try dsimp only at hSw); go_simp; try with_reducible rfl)⟩) hHeld ?_
  simp only [Act.put, List.getElem_toArray, List.getElem_cons_zero, List.getElem_cons_succ, List.setIfInBounds_toArray, List.set_cons_zero, List.set_cons_succ]
  refine wpAnyH_take (i := 3) (oi := _) (v := _) rfl (by kernel_rfl) (by kernel_rfl) (by kernel_rfl) (fun _ _ _ h => h) (Or.inl ⟨by rfl, by (intro w hSw; (try dsimp only at hSw); go_simp; try with_reducible rfl)⟩) hHeld ?_
  simp only [Act.put, List.getElem_toArray, List.getElem_cons_zero, List.getElem_cons_succ, List.setIfInBounds_toArray, List.set_cons_zero, List.set_cons_succ]
  refine wpAnyH_take (i := 4) (oi := _) (v := _) rfl (by kernel_rfl) (by kernel_rfl) (by kernel_rfl) (fun _ _ _ h => h) (Or.inl ⟨by rfl, by (intro w hSw; (try dsimp only at hSw); go_simp; try with_reducible rfl)⟩) hHeld ?_
  simp only [Act.put, List.getElem_toArray, List.getElem_cons_zero, List.getElem_cons_succ, List.setIfInBounds_toArray, List.set_cons_zero, List.set_cons_succ]
  refine wpAnyH_take (i := 5) (oi := _) (v := _) rfl (by kernel_rfl) (by kernel_rfl) (by kernel_rfl) (fun _ _ _ h => h) (Or.inl ⟨by rfl, by (intro w hSw; (try dsimp only at hSw); go_simp; try with_reducible rfl)⟩) hHeld ?_
  simp only [Act.put, List.getElem_toArray, List.getElem_cons_zero, List.getElem_cons_succ, List.setIfInBounds_toArray, List.set_cons_zero, List.set_cons_succ]
  refine wpAnyH_take (i := 7) (oi := _) (v := _) rfl (by kernel_rfl) (by kernel_rfl) (by kernel_rfl) (fun _ _ _ h => h) (Or.inl ⟨by rfl, by (intro w hSw; (try dsimp only at hSw); go_simp; try with_reducible rfl)⟩) hHeld ?_
  simp only [Act.put, List.getElem_toArray, List.getElem_cons_zero, List.getElem_cons_succ, List.setIfInBounds_toArray, List.set_cons_zero, List.set_cons_succ]
  refine wpAnyH_take (i := 8) (oi := _) (v := _) rfl (by kernel_rfl) (by kernel_rfl) (by kernel_rfl) (fun _ _ _ h => h) (Or.inl ⟨by rfl, by (intro w hSw; (try dsimp only at hSw); go_simp; try with_reducible rfl)⟩) hHeld ?_
  simp only [Act.put, List.getElem_toArray, List.getElem_cons_zero, List.getElem_cons_succ, List.setIfInBounds_toArray, List.set_cons_zero, List.set_cons_succ]
  refine wpAnyH_take (i := 10) (oi := _) (v := _) rfl (by kernel_rfl) (by kernel_rfl) (by kernel_rfl) (fun _ _ _ h => h) (Or.inl ⟨by rfl, by (intro w hSw; (try dsimp only at hSw); go_simp; try with_reducible rfl)⟩) hHeld ?_
  simp only [Act.put, List.getElem_toArray, List.getElem_cons_zero, List.getElem_cons_succ, List.setIfInBounds_toArray, List.set_cons_zero, List.set_cons_succ]
  refine wpAnyH_take (i := 11) (oi := _) (v := _) rfl (by kernel_rfl) (by kernel_rfl) (by kernel_rfl) (fun _ _ _ h => h) (Or.inl ⟨by rfl, by (intro w hSw; (try dsimp only at hSw); go_simp; try with_reducible rfl)⟩) hHeld ?_
  simp only [Act.put, List.getElem_toArray, List.getElem_cons_zero, List.getElem_cons_succ, List.setIfInBounds_toArray, List.set_cons_zero, List.set_cons_succ]
  refine wpAnyH_take (i := 12) (oi := _) (v := _) rfl (by kernel_rfl) (by kernel_rfl) (by kernel_rfl) (fun _ _ _ h => h) (Or.inl ⟨by rfl, by (intro w hSw; (try dsimp only at hSw); go_simp; try with_reducible rfl)⟩) hHeld ?_
  simp only [Act.put, List.getElem_toArray, List.getElem_cons_zero, List.getElem_cons_succ, List.setIfInBounds_toArray, List.set_cons_zero, List.set_cons_succ]
  refine wpAnyH_take (i := 13) (oi := _) (v := _) rfl (by kernel_rfl) (by kernel_rfl) (by kernel_rfl) (fun _ _ _ h => h) (Or.inl ⟨by rfl, by (intro w hSw; (try dsimp only at hSw); go_simp; try with_reducible rfl)⟩) hHeld ?_
  simp only [Act.put, List.getElem_toArray, List.getElem_cons_zero, List.getElem_cons_succ, List.setIfInBounds_toArray, List.set_cons_zero, List.set_cons_succ]
  refine wpAnyH_take (i := 15) (oi := _) (v := _) rfl (by kernel_rfl) (by kernel_rfl) (by kernel_rfl) (fun _ _ _ h => h) (Or.inl ⟨by rfl, by (intro w hSw; (try dsimp only at hSw); go_simp; try with_reducible rfl)⟩) hHeld ?_
  simp only [Act.put, List.getElem_toArray, List.getElem_cons_zero, List.getElem_cons_succ, List.setIfInBounds_toArray, List.set_cons_zero, List.set_cons_succ]
  refine wpAnyH_take (i := 16) (oi := _) (v := _) rfl (by kernel_rfl) (by kernel_rfl) (by kernel_rfl) (fun _ _ _ h => h) (Or.inl ⟨by rfl, by (intro w hSw; (try dsimp only at hSw); go_simp; try with_reducible rfl)⟩) hHeld ?_
  simp only [Act.put, List.getElem_toArray, List.getElem_cons_zero, List.getElem_cons_succ, List.setIfInBounds_toArray, List.set_cons_zero, List.set_cons_succ]
  refine wpAnyH_take (i := 18) (oi := _) (v := _) rfl (by kernel_rfl) (by kernel_rfl) (by kernel_rfl) (fun _ _ _ h => h) (Or.inl ⟨by rfl, by (intro w hSw; (try dsimp only at hSw); go_simp; try with_reducible rfl)⟩) hHeld ?_
  simp only [Act.put, List.getElem_toArray, List.getElem_cons_zero, List.getElem_cons_succ, List.setIfInBounds_toArray, List.set_cons_zero, List.set_cons_succ]
  refine wpAnyH_take (i := 19) (oi := _) (v := _) rfl (by kernel_rfl) (by kernel_rfl) (by kernel_rfl) (fun _ _ _ h => h) (Or.inl ⟨by rfl, by (intro w hSw; (try dsimp only at hSw); go_simp; try with_reducible rfl)⟩) hHeld ?_
  simp only [Act.put, List.getElem_toArray, List.getElem_cons_zero, List.getElem_cons_succ, List.setIfInBounds_toArray, List.set_cons_zero, List.set_cons_succ]
  refine wpAnyH_take (i := 20) (oi := _) (v := _) rfl (by kernel_rfl) (by kernel_rfl) (by kernel_rfl) (fun _ _ _ h => h) (Or.inl ⟨by rfl, by (intro w hSw; (try dsimp only at hSw); go_simp; try with_reducible rfl)⟩) hHeld ?_
  simp only [Act.put, List.getElem_toArray, List.getElem_cons_zero, List.getElem_cons_succ, List.setIfInBounds_toArray, List.set_cons_zero, List.set_cons_succ]
  refine wpAnyH_take (i := 21) (oi := _) (v := _) rfl (by kernel_rfl) (by kernel_rfl) (by kernel_rfl) (fun _ _ _ h => h) (Or.inl ⟨by rfl, by (intro w hSw; (try dsimp only at hSw); go_simp; try with_reducible rfl)⟩) hHeld ?_
  simp only [Act.put, List.getElem_toArray, List.getElem_cons_zero, List.getElem_cons_succ, List.setIfInBounds_toArray, List.set_cons_zero, List.set_cons_succ]
  refine wpAnyH_take (i := 23) (oi := _) (v := _) rfl (by kernel_rfl) (by kernel_rfl) (by kernel_rfl) (fun _ _ _ h => h) (Or.inl ⟨by rfl, by (intro w hSw; (try dsimp only at hSw); go_simp; try with_reducible rfl)⟩) hHeld ?_
  simp only [Act.put, List.getElem_toArray, List.getElem_cons_zero, List.getElem_cons_succ, List.setIfInBounds_toArray, List.set_cons_zero, List.set_cons_succ]
  refine wpAnyH_take (i := 24) (oi := _) (v := _) rfl (by kernel_rfl) (by kernel_rfl) (by kernel_rfl) (fun _ _ _ h => h) (Or.inl ⟨by rfl, by (intro w hSw; (try dsimp only at hSw); go_simp; try with_reducible rfl)⟩) hHeld ?_
  simp only [Act.put, List.getElem_toArray, List.getElem_cons_zero, List.getElem_cons_succ, List.setIfInBounds_toArray, List.set_cons_zero, List.set_cons_succ]
  refine wpAnyH_ready (rs := [6, 14, 22]) (by kernel_rfl) (by simp) ?_
  refine (AllReadyH.cons rfl (fun K hK => ?_) (AllReadyH.cons rfl (fun K hK => ?_) (AllReadyH.cons rfl (fun K hK => ?_) AllReadyH.nil)))
  · obtain ⟨g1, W1, hg, mk, hF, hG⟩ := makeIn (P := Try.prog) k48 22 48 (.agg #[(.string ⟨#[]⟩), (.string ⟨#[]⟩)]) 32 Try.underlying22 (by kernel_rfl) rfl W0 l0_1.length H1.out (by omega)
    have ZC : w.heap.size + 2 ≤ W0.heap.size := by have := HB0.out.size; have := ZB.out; omega
    have z1 : Aside0 (w.heap.size + 2 ≤ g1) := ⟨by omega⟩
    have HB1 := Aside0.mk (nd_grown_below hG HB0.out ZC z1.out)
    have F1 := Aside0.mk hF
    clear hF hG hg ZC HB0
    go_simp
    clear mk
    refine hK.out _ _ ?_ (fun hNew => ?_)
    · exact ⟨(HB1.out.cell (p := ⟨w.heap.size, 0, none⟩) (by show w.heap.size < _; omega)).trans B0.out, (HB1.out.cell (p := ⟨w.heap.size, 1, none⟩) (by show w.heap.size < _; omega)).trans B1.out, (HB1.out.cell (p := ⟨w.heap.size, 2, none⟩) (by show w.heap.size < _; omega)).trans B2.out, (HB1.out.cell (p := ⟨w.heap.size, 3, none⟩) (by show w.heap.size < _; omega)).trans B3.out⟩
    clear hK K hHeld
    have hHeld := hNew
    clear hNew
    refine wpAnyH_ready (rs := [9, 14, 22]) (by kernel_rfl) (by simp) ?_
    refine (AllReadyH.cons rfl (fun K hK => ?_) (AllReadyH.cons rfl (fun K hK => ?_) (AllReadyH.cons rfl (fun K hK => ?_) AllReadyH.nil)))
    · obtain ⟨W2, ap, hP, hG⟩ := appendAt (P := Try.prog) k48 flat48 22 48 (.agg #[(.string ⟨#[]⟩), (.string ⟨#[]⟩)]) 32 Try.underlying22 (by kernel_rfl) rfl (by decide) 22 W1 A0_1 c0_1 l0_1 g1 (Kd.C_below R1.out ((XB.out.trans (HB1.out.mono (by omega))))) F1.out
      have ZC : w.heap.size + 2 ≤ W1.heap.size := by have := HB1.out.size; have := ZB.out; omega
      have HB2 := Aside0.mk (nd_grown_below hG HB1.out ZC z1.out)
      have P1 := Aside0.mk hP
      clear hP hG ZC HB1 F1
      rw [if_pos (by kernel_rfl)]
      refine oper_append_ran (.tmp 9) (.tmp 11) 22 rfl _ _ _ rfl rfl ap ?_
      simp only [Act.put, List.getElem_toArray, List.getElem_cons_zero, List.getElem_cons_succ, List.setIfInBounds_toArray, List.set_cons_zero, List.set_cons_succ]
      clear ap
      refine hK.out _ _ ?_ (fun hNew => ?_)
      · exact ⟨(HB2.out.cell (p := ⟨w.heap.size, 0, none⟩) (by show w.heap.size < _; omega)).trans B0.out, (HB2.out.cell (p := ⟨w.heap.size, 1, none⟩) (by show w.heap.size < _; omega)).trans B1.out, (HB2.out.cell (p := ⟨w.heap.size, 2, none⟩) (by show w.heap.size < _; omega)).trans B2.out, (HB2.out.cell (p := ⟨w.heap.size, 3, none⟩) (by show w.heap.size < _; omega)).trans B3.out⟩
      clear hK K hHeld
      have hHeld := hNew
      clear hNew
      refine wpAnyH_ready (rs := [14, 22]) (by kernel_rfl) (by simp) ?_
      refine (AllReadyH.cons rfl (fun K hK => ?_) (AllReadyH.cons rfl (fun K hK => ?_) AllReadyH.nil))
      · obtain ⟨g2, W3, hg, mk, hF, hG⟩ := makeIn (P := Try.prog) Kd.string 23 9 (.string ⟨#[]⟩) 16 Try.underlying23 (by kernel_rfl) rfl W2 l0_2.length H2.out (by omega)
        have ZC : w.heap.size + 2 ≤ W2.heap.size := by have := HB2.out.size; have := ZB.out; omega
        have z2 : Aside0 (w.heap.size + 2 ≤ g2) := ⟨by omega⟩
        have n12 : Aside0 (g1 ≠ g2) := ⟨by have := P1.out.lt; omega⟩
        have n21 : Aside0 (g2 ≠ g1) := ⟨Ne.symm n12.out⟩
        have HB3 := Aside0.mk (nd_grown_below hG HB2.out ZC z2.out)
        replace P1 := Aside0.mk (P1.out.keep flat48 hG n12.out)
        have F2 := Aside0.mk hF
        clear hF hG hg ZC HB2
        go_simp
        clear mk
        refine hK.out _ _ ?_ (fun hNew => ?_)
        · exact ⟨(HB3.out.cell (p := ⟨w.heap.size, 0, none⟩) (by show w.heap.size < _; omega)).trans B0.out, (HB3.out.cell (p := ⟨w.heap.size, 1, none⟩) (by show w.heap.size < _; omega)).trans B1.out, (HB3.out.cell (p := ⟨w.heap.size, 2, none⟩) (by show w.heap.size < _; omega)).trans B2.out, (HB3.out.cell (p := ⟨w.heap.size, 3, none⟩) (by show w.heap.size < _; omega)).trans B3.out⟩
        clear hK K hHeld
        have hHeld := hNew
        clear hNew
        refine wpAnyH_ready (rs := [17, 22]) (by kernel_rfl) (by simp) ?_
        refine (AllReadyH.cons rfl (fun K hK => ?_) (AllReadyH.cons rfl (fun K hK => ?_) AllReadyH.nil))
        · obtain ⟨W4, ap, hP, hG⟩ := appendAt (P := Try.prog) Kd.string flatS 23 9 (.string ⟨#[]⟩) 16 Try.underlying23 (by kernel_rfl) rfl (by decide) 23 W3 A0_2 c0_2 l0_2 g2 (Kd.C_below R2.out ((XB.out.trans (HB3.out.mono (by omega))))) F2.out
          have ZC : w.heap.size + 2 ≤ W3.heap.size := by have := HB3.out.size; have := ZB.out; omega
          have HB4 := Aside0.mk (nd_grown_below hG HB3.out ZC z2.out)
          replace P1 := Aside0.mk (P1.out.keep flat48 hG n12.out)
          have P2 := Aside0.mk hP
          clear hP hG ZC HB3 F2
          rw [if_pos (by kernel_rfl)]
          refine oper_append_ran (.tmp 17) (.tmp 19) 23 rfl _ _ _ rfl rfl ap ?_
          simp only [Act.put, List.getElem_toArray, List.getElem_cons_zero, List.getElem_cons_succ, List.setIfInBounds_toArray, List.set_cons_zero, List.set_cons_succ]
          clear ap
          refine hK.out _ _ ?_ (fun hNew => ?_)
          · exact ⟨(HB4.out.cell (p := ⟨w.heap.size, 0, none⟩) (by show w.heap.size < _; omega)).trans B0.out, (HB4.out.cell (p := ⟨w.heap.size, 1, none⟩) (by show w.heap.size < _; omega)).trans B1.out, (HB4.out.cell (p := ⟨w.heap.size, 2, none⟩) (by show w.heap.size < _; omega)).trans B2.out, (HB4.out.cell (p := ⟨w.heap.size, 3, none⟩) (by show w.heap.size < _; omega)).trans B3.out⟩
          clear hK K hHeld
          have hHeld := hNew
          clear hNew
          refine wpAnyH_ready (rs := [22]) (by kernel_rfl) (by simp) ?_
          refine (AllReadyH.cons rfl (fun K hK => ?_) AllReadyH.nil)
          obtain ⟨g3, W5, hg, mk, hF, hG⟩ := makeIn (P := Try.prog) (Kd.int .i64) 24 3 (.int .i64 0) 8 Try.underlying24 (by kernel_rfl) rfl W4 l0_3.length H3.out (by omega)
          have ZC : w.heap.size + 2 ≤ W4.heap.size := by have := HB4.out.size; have := ZB.out; omega
          have z3 : Aside0 (w.heap.size + 2 ≤ g3) := ⟨by omega⟩
          have n13 : Aside0 (g1 ≠ g3) := ⟨by have := P1.out.lt; omega⟩
          have n23 : Aside0 (g2 ≠ g3) := ⟨by have := P2.out.lt; omega⟩
          have n31 : Aside0 (g3 ≠ g1) := ⟨Ne.symm n13.out⟩
          have n32 : Aside0 (g3 ≠ g2) := ⟨Ne.symm n23.out⟩
          have HB5 := Aside0.mk (nd_grown_below hG HB4.out ZC z3.out)
          replace P1 := Aside0.mk (P1.out.keep flat48 hG n13.out)
          replace P2 := Aside0.mk (P2.out.keep flatS hG n23.out)
          have F3 := Aside0.mk hF
          clear hF hG hg ZC HB4
          go_simp
          clear mk
          refine hK.out _ _ ?_ (fun hNew => ?_)
          · exact ⟨(HB5.out.cell (p := ⟨w.heap.size, 0, none⟩) (by show w.heap.size < _; omega)).trans B0.out, (HB5.out.cell (p := ⟨w.heap.size, 1, none⟩) (by show w.heap.size < _; omega)).trans B1.out, (HB5.out.cell (p := ⟨w.heap.size, 2, none⟩) (by show w.heap.size < _; omega)).trans B2.out, (HB5.out.cell (p := ⟨w.heap.size, 3, none⟩) (by show w.heap.size < _; omega)).trans B3.out⟩
          clear hK K hHeld
          have hHeld := hNew
          clear hNew
          refine wpAnyH_ready (rs := [25]) (by kernel_rfl) (by simp) ?_
          refine (AllReadyH.cons rfl (fun K hK => ?_) AllReadyH.nil)
          obtain ⟨W6, ap, hP, hG⟩ := appendAt (P := Try.prog) (Kd.int .i64) flatI 24 3 (.int .i64 0) 8 Try.underlying24 (by kernel_rfl) rfl (by decide) 24 W5 A0_3 c0_3 l0_3 g3 (Kd.C_below R3.out ((XB.out.trans (HB5.out.mono (by omega))))) F3.out
          have ZC : w.heap.size + 2 ≤ W5.heap.size := by have := HB5.out.size; have := ZB.out; omega
          have HB6 := Aside0.mk (nd_grown_below hG HB5.out ZC z3.out)
          replace P1 := Aside0.mk (P1.out.keep flat48 hG n13.out)
          replace P2 := Aside0.mk (P2.out.keep flatS hG n23.out)
          have P3 := Aside0.mk hP
          clear hP hG ZC HB5 F3
          rw [if_pos (by kernel_rfl)]
          refine oper_append_ran (.tmp 25) (.tmp 27) 24 rfl _ _ _ rfl rfl ap ?_
          simp only [Act.put, List.getElem_toArray, List.getElem_cons_zero, List.getElem_cons_succ, List.setIfInBounds_toArray, List.set_cons_zero, List.set_cons_succ]
          clear ap
          refine hK.out _ _ ?_ (fun hNew => ?_)
          · exact ⟨(HB6.out.cell (p := ⟨w.heap.size, 0, none⟩) (by show w.heap.size < _; omega)).trans B0.out, (HB6.out.cell (p := ⟨w.heap.size, 1, none⟩) (by show w.heap.size < _; omega)).trans B1.out, (HB6.out.cell (p := ⟨w.heap.size, 2, none⟩) (by show w.heap.size < _; omega)).trans B2.out, (HB6.out.cell (p := ⟨w.heap.size, 3, none⟩) (by show w.heap.size < _; omega)).trans B3.out⟩
          clear hK K hHeld
          have hHeld := hNew
          clear hNew
          refine wpAnyH_take (i := 26) (oi := _) (v := _) rfl (by kernel_rfl) (by kernel_rfl) (by kernel_rfl) (fun _ _ _ h => h) (Or.inl ⟨by rfl, by (intro w hSw; (try dsimp only at hSw); go_simp; try with_reducible rfl)⟩) hHeld ?_
          simp only [Act.put, List.getElem_toArray, List.getElem_cons_zero, List.getElem_cons_succ, List.setIfInBounds_toArray, List.set_cons_zero, List.set_cons_succ]
          refine wpAnyH_ready (rs := [27]) (by kernel_rfl) (by simp) ?_
          refine AllReadyH.cons rfl (fun K hK => ?_) AllReadyH.nil
          have t6 : W6.heap[w.heap.size + 1]? = some (.cells #[.bool false, .slice none 0 0, .slice none 0 0, .slice none 0 0] 31 (0, 0)) := (HB6.out.block _ (by omega)).trans TB.out
          have c0 : W6.cell? ⟨w.heap.size + 1, 0, none⟩ = some (.bool false) := blk_cell t6 0
          have c1 : W6.cell? ⟨w.heap.size + 1, 1, none⟩ = some (.slice none 0 0) := blk_cell t6 1
          have c2 : W6.cell? ⟨w.heap.size + 1, 2, none⟩ = some (.slice none 0 0) := blk_cell t6 2
          have c3 : W6.cell? ⟨w.heap.size + 1, 3, none⟩ = some (.slice none 0 0) := blk_cell t6 3
          have f0 : W6.frozen? ⟨w.heap.size + 1, 0, none⟩ = false := blk_frozen t6 0
          have f1 : W6.frozen? ⟨w.heap.size + 1, 1, none⟩ = false := blk_frozen t6 1
          have f2 : W6.frozen? ⟨w.heap.size + 1, 2, none⟩ = false := blk_frozen t6 2
          have f3 : W6.frozen? ⟨w.heap.size + 1, 3, none⟩ = false := blk_frozen t6 3
          go_simp
          obtain ⟨W7, e7, t7, G7⟩ := nd_set4 W6 (w.heap.size + 1) 31 _ _ _ _ (.bool a0_0) (.slice (some ⟨g1, 0, none⟩) l0_1.length (l0_1.length + 1)) (.slice (some ⟨g2, 0, none⟩) l0_2.length (l0_2.length + 1)) (.slice (some ⟨g3, 0, none⟩) l0_3.length (l0_3.length + 1)) t6
          rw [← e7]
          have HB7 := Aside0.mk (nd_grown_below G7 (XB.out.trans (HB6.out.mono (by omega))) (by have := XB.out.size; have := HB6.out.size; omega) (by omega))
          have P1' := Aside0.mk (P1.out.keep flat48 G7 (by have := z1.out; omega))
          have P2' := Aside0.mk (P2.out.keep flatS G7 (by have := z2.out; omega))
          have P3' := Aside0.mk (P3.out.keep flatI G7 (by have := z3.out; omega))
          have r0 : W7.cell? ⟨w.heap.size + 1, 0, none⟩ = some (.bool a0_0) := blk_cell t7 0
          have r1 : W7.cell? ⟨w.heap.size + 1, 1, none⟩ = some (.slice (some ⟨g1, 0, none⟩) l0_1.length (l0_1.length + 1)) := blk_cell t7 1
          have r2 : W7.cell? ⟨w.heap.size + 1, 2, none⟩ = some (.slice (some ⟨g2, 0, none⟩) l0_2.length (l0_2.length + 1)) := blk_cell t7 2
          have r3 : W7.cell? ⟨w.heap.size + 1, 3, none⟩ = some (.slice (some ⟨g3, 0, none⟩) l0_3.length (l0_3.length + 1)) := blk_cell t7 3
          refine hK.out _ _ ⟨nd_grown_cell G7 (by show w.heap.size ≠ _; omega) hHeld.1, nd_grown_cell G7 (by show w.heap.size ≠ _; omega) hHeld.2.1, nd_grown_cell G7 (by show w.heap.size ≠ _; omega) hHeld.2.2.1, nd_grown_cell G7 (by show w.heap.size ≠ _; omega) hHeld.2.2.2⟩ (fun _ => ?_)
          clear hK K hHeld e7 G7 c0 c1 c2 c3 f0 f1 f2 f3 t6 P1 P2 P3 HB6
          refine wpAnyH_done (by kernel_rfl) ?_ _
          go_wp2
          refine bodyPost_ret (results_cell_row rfl _ _ (w.heap.size + 1) 31 #[.bool a0_0, .slice (some ⟨g1, 0, none⟩) l0_1.length (l0_1.length + 1), .slice (some ⟨g2, 0, none⟩) l0_2.length (l0_2.length + 1), .slice (some ⟨g3, 0, none⟩) l0_3.length (l0_3.length + 1)] (0, 0) _ rfl t7 Try.underlying31 rfl (by kernel_rfl)) rfl ?_
          exact ⟨g1, g2, g3, rfl, by have := z1.out; omega, by have := z2.out; omega, by have := z3.out; omega, n12.out, n13.out, n23.out, P1'.out, P2'.out, P3'.out, HB7.out⟩
        · obtain ⟨g3, W4, hg, mk, hF, hG⟩ := makeIn (P := Try.prog) (Kd.int .i64) 24 3 (.int .i64 0) 8 Try.underlying24 (by kernel_rfl) rfl W3 l0_3.length H3.out (by omega)
          have ZC : w.heap.size + 2 ≤ W3.heap.size := by have := HB3.out.size; have := ZB.out; omega
          have z3 : Aside0 (w.heap.size + 2 ≤ g3) := ⟨by omega⟩
          have n13 : Aside0 (g1 ≠ g3) := ⟨by have := P1.out.lt; omega⟩
          have n23 : Aside0 (g2 ≠ g3) := ⟨by have := F2.out.lt; omega⟩
          have n31 : Aside0 (g3 ≠ g1) := ⟨Ne.symm n13.out⟩
          have n32 : Aside0 (g3 ≠ g2) := ⟨Ne.symm n23.out⟩
          have HB4 := Aside0.mk (nd_grown_below hG HB3.out ZC z3.out)
          replace P1 := Aside0.mk (P1.out.keep flat48 hG n13.out)
          replace F2 := Aside0.mk (F2.out.keep hG n23.out)
          have F3 := Aside0.mk hF
          clear hF hG hg ZC HB3
          go_simp
          clear mk
          refine hK.out _ _ ?_ (fun hNew => ?_)
          · exact ⟨(HB4.out.cell (p := ⟨w.heap.size, 0, none⟩) (by show w.heap.size < _; omega)).trans B0.out, (HB4.out.cell (p := ⟨w.heap.size, 1, none⟩) (by show w.heap.size < _; omega)).trans B1.out, (HB4.out.cell (p := ⟨w.heap.size, 2, none⟩) (by show w.heap.size < _; omega)).trans B2.out, (HB4.out.cell (p := ⟨w.heap.size, 3, none⟩) (by show w.heap.size < _; omega)).trans B3.out⟩
          clear hK K hHeld
          have hHeld := hNew
          clear hNew
          refine wpAnyH_ready (rs := [17]) (by kernel_rfl) (by simp) ?_
          refine (AllReadyH.cons rfl (fun K hK => ?_) AllReadyH.nil)
          obtain ⟨W5, ap, hP, hG⟩ := appendAt (P := Try.prog) Kd.string flatS 23 9 (.string ⟨#[]⟩) 16 Try.underlying23 (by kernel_rfl) rfl (by decide) 23 W4 A0_2 c0_2 l0_2 g2 (Kd.C_below R2.out ((XB.out.trans (HB4.out.mono (by omega))))) F2.out
          have ZC : w.heap.size + 2 ≤ W4.heap.size := by have := HB4.out.size; have := ZB.out; omega
          have HB5 := Aside0.mk (nd_grown_below hG HB4.out ZC z2.out)
          replace P1 := Aside0.mk (P1.out.keep flat48 hG n12.out)
          replace F3 := Aside0.mk (F3.out.keep hG n32.out)
          have P2 := Aside0.mk hP
          clear hP hG ZC HB4 F2
          rw [if_pos (by kernel_rfl)]
          refine oper_append_ran (.tmp 17) (.tmp 19) 23 rfl _ _ _ rfl rfl ap ?_
          simp only [Act.put, List.getElem_toArray, List.getElem_cons_zero, List.getElem_cons_succ, List.setIfInBounds_toArray, List.set_cons_zero, List.set_cons_succ]
          clear ap
          refine hK.out _ _ ?_ (fun hNew => ?_)
          · exact ⟨(HB5.out.cell (p := ⟨w.heap.size, 0, none⟩) (by show w.heap.size < _; omega)).trans B0.out, (HB5.out.cell (p := ⟨w.heap.size, 1, none⟩) (by show w.heap.size < _; omega)).trans B1.out, (HB5.out.cell (p := ⟨w.heap.size, 2, none⟩) (by show w.heap.size < _; omega)).trans B2.out, (HB5.out.cell (p := ⟨w.heap.size, 3, none⟩) (by show w.heap.size < _; omega)).trans B3.out⟩
          clear hK K hHeld
          have hHeld := hNew
          clear hNew
          refine wpAnyH_ready (rs := [25]) (by kernel_rfl) (by simp) ?_
          refine (AllReadyH.cons rfl (fun K hK => ?_) AllReadyH.nil)
          obtain ⟨W6, ap, hP, hG⟩ := appendAt (P := Try.prog) (Kd.int .i64) flatI 24 3 (.int .i64 0) 8 Try.underlying24 (by kernel_rfl) rfl (by decide) 24 W5 A0_3 c0_3 l0_3 g3 (Kd.C_below R3.out ((XB.out.trans (HB5.out.mono (by omega))))) F3.out
          have ZC : w.heap.size + 2 ≤ W5.heap.size := by have := HB5.out.size; have := ZB.out; omega
          have HB6 := Aside0.mk (nd_grown_below hG HB5.out ZC z3.out)
          replace P1 := Aside0.mk (P1.out.keep flat48 hG n13.out)
          replace P2 := Aside0.mk (P2.out.keep flatS hG n23.out)
          have P3 := Aside0.mk hP
          clear hP hG ZC HB5 F3
          rw [if_pos (by kernel_rfl)]
          refine oper_append_ran (.tmp 25) (.tmp 27) 24 rfl _ _ _ rfl rfl ap ?_
          simp only [Act.put, List.getElem_toArray, List.getElem_cons_zero, List.getElem_cons_succ, List.setIfInBounds_toArray, List.set_cons_zero, List.set_cons_succ]
          clear ap
          refine hK.out _ _ ?_ (fun hNew => ?_)
          · exact ⟨(HB6.out.cell (p := ⟨w.heap.size, 0, none⟩) (by show w.heap.size < _; omega)).trans B0.out, (HB6.out.cell (p := ⟨w.heap.size, 1, none⟩) (by show w.heap.size < _; omega)).trans B1.out, (HB6.out.cell (p := ⟨w.heap.size, 2, none⟩) (by show w.heap.size < _; omega)).trans B2.out, (HB6.out.cell (p := ⟨w.heap.size, 3, none⟩) (by show w.heap.size < _; omega)).trans B3.out⟩
          clear hK K hHeld
          have hHeld := hNew
          clear hNew
          refine wpAnyH_take (i := 26) (oi := _) (v := _) rfl (by kernel_rfl) (by kernel_rfl) (by kernel_rfl) (fun _ _ _ h => h) (Or.inl ⟨by rfl, by (intro w hSw; (try dsimp only at hSw); go_simp; try with_reducible rfl)⟩) hHeld ?_
          simp only [Act.put, List.getElem_toArray, List.getElem_cons_zero, List.getElem_cons_succ, List.setIfInBounds_toArray, List.set_cons_zero, List.set_cons_succ]
          refine wpAnyH_ready (rs := [27]) (by kernel_rfl) (by simp) ?_
          refine AllReadyH.cons rfl (fun K hK => ?_) AllReadyH.nil
          have t6 : W6.heap[w.heap.size + 1]? = some (.cells #[.bool false, .slice none 0 0, .slice none 0 0, .slice none 0 0] 31 (0, 0)) := (HB6.out.block _ (by omega)).trans TB.out
          have c0 : W6.cell? ⟨w.heap.size + 1, 0, none⟩ = some (.bool false) := blk_cell t6 0
          have c1 : W6.cell? ⟨w.heap.size + 1, 1, none⟩ = some (.slice none 0 0) := blk_cell t6 1
          have c2 : W6.cell? ⟨w.heap.size + 1, 2, none⟩ = some (.slice none 0 0) := blk_cell t6 2
          have c3 : W6.cell? ⟨w.heap.size + 1, 3, none⟩ = some (.slice none 0 0) := blk_cell t6 3
          have f0 : W6.frozen? ⟨w.heap.size + 1, 0, none⟩ = false := blk_frozen t6 0
          have f1 : W6.frozen? ⟨w.heap.size + 1, 1, none⟩ = false := blk_frozen t6 1
          have f2 : W6.frozen? ⟨w.heap.size + 1, 2, none⟩ = false := blk_frozen t6 2
          have f3 : W6.frozen? ⟨w.heap.size + 1, 3, none⟩ = false := blk_frozen t6 3
          go_simp
          obtain ⟨W7, e7, t7, G7⟩ := nd_set4 W6 (w.heap.size + 1) 31 _ _ _ _ (.bool a0_0) (.slice (some ⟨g1, 0, none⟩) l0_1.length (l0_1.length + 1)) (.slice (some ⟨g2, 0, none⟩) l0_2.length (l0_2.length + 1)) (.slice (some ⟨g3, 0, none⟩) l0_3.length (l0_3.length + 1)) t6
          rw [← e7]
          have HB7 := Aside0.mk (nd_grown_below G7 (XB.out.trans (HB6.out.mono (by omega))) (by have := XB.out.size; have := HB6.out.size; omega) (by omega))
          have P1' := Aside0.mk (P1.out.keep flat48 G7 (by have := z1.out; omega))
          have P2' := Aside0.mk (P2.out.keep flatS G7 (by have := z2.out; omega))
          have P3' := Aside0.mk (P3.out.keep flatI G7 (by have := z3.out; omega))
          have r0 : W7.cell? ⟨w.heap.size + 1, 0, none⟩ = some (.bool a0_0) := blk_cell t7 0
          have r1 : W7.cell? ⟨w.heap.size + 1, 1, none⟩ = some (.slice (some ⟨g1, 0, none⟩) l0_1.length (l0_1.length + 1)) := blk_cell t7 1
          have r2 : W7.cell? ⟨w.heap.size + 1, 2, none⟩ = some (.slice (some ⟨g2, 0, none⟩) l0_2.length (l0_2.length + 1)) := blk_cell t7 2
          have r3 : W7.cell? ⟨w.heap.size + 1, 3, none⟩ = some (.slice (some ⟨g3, 0, none⟩) l0_3.length (l0_3.length + 1)) := blk_cell t7 3
          refine hK.out _ _ ⟨nd_grown_cell G7 (by show w.heap.size ≠ _; omega) hHeld.1, nd_grown_cell G7 (by show w.heap.size ≠ _; omega) hHeld.2.1, nd_grown_cell G7 (by show w.heap.size ≠ _; omega) hHeld.2.2.1, nd_grown_cell G7 (by show w.heap.size ≠ _; omega) hHeld.2.2.2⟩ (fun _ => ?_)
          clear hK K hHeld e7 G7 c0 c1 c2 c3 f0 f1 f2 f3 t6 P1 P2 P3 HB6
          refine wpAnyH_done (by kernel_rfl) ?_ _
          go_wp2
          refine bodyPost_ret (results_cell_row rfl _ _ (w.heap.size + 1) 31 #[.bool a0_0, .slice (some ⟨g1, 0, none⟩) l0_1.length (l0_1.length + 1), .slice (some ⟨g2, 0, none⟩) l0_2.length (l0_2.length + 1), .slice (some ⟨g3, 0, none⟩) l0_3.length (l0_3.length + 1)] (0, 0) _ rfl t7 Try.underlying31 rfl (by kernel_rfl)) rfl ?_
          exact ⟨g1, g2, g3, rfl, by have := z1.out; omega, by have := z2.out; omega, by have := z3.out; omega, n12.out, n13.out, n23.out, P1'.out, P2'.out, P3'.out, HB7.out⟩
      · obtain ⟨g3, W3, hg, mk, hF, hG⟩ := makeIn (P := Try.prog) (Kd.int .i64) 24 3 (.int .i64 0) 8 Try.underlying24 (by kernel_rfl) rfl W2 l0_3.length H3.out (by omega)
        have ZC : w.heap.size + 2 ≤ W2.heap.size := by have := HB2.out.size; have := ZB.out; omega
        have z3 : Aside0 (w.heap.size + 2 ≤ g3) := ⟨by omega⟩
        have n13 : Aside0 (g1 ≠ g3) := ⟨by have := P1.out.lt; omega⟩
        have n31 : Aside0 (g3 ≠ g1) := ⟨Ne.symm n13.out⟩
        have HB3 := Aside0.mk (nd_grown_below hG HB2.out ZC z3.out)
        replace P1 := Aside0.mk (P1.out.keep flat48 hG n13.out)
        have F3 := Aside0.mk hF
        clear hF hG hg ZC HB2
        go_simp
        clear mk
        refine hK.out _ _ ?_ (fun hNew => ?_)
        · exact ⟨(HB3.out.cell (p := ⟨w.heap.size, 0, none⟩) (by show w.heap.size < _; omega)).trans B0.out, (HB3.out.cell (p := ⟨w.heap.size, 1, none⟩) (by show w.heap.size < _; omega)).trans B1.out, (HB3.out.cell (p := ⟨w.heap.size, 2, none⟩) (by show w.heap.size < _; omega)).trans B2.out, (HB3.out.cell (p := ⟨w.heap.size, 3, none⟩) (by show w.heap.size < _; omega)).trans B3.out⟩
        clear hK K hHeld
        have hHeld := hNew
        clear hNew
        refine wpAnyH_ready (rs := [14]) (by kernel_rfl) (by simp) ?_
        refine (AllReadyH.cons rfl (fun K hK => ?_) AllReadyH.nil)
        obtain ⟨g2, W4, hg, mk, hF, hG⟩ := makeIn (P := Try.prog) Kd.string 23 9 (.string ⟨#[]⟩) 16 Try.underlying23 (by kernel_rfl) rfl W3 l0_2.length H2.out (by omega)
        have ZC : w.heap.size + 2 ≤ W3.heap.size := by have := HB3.out.size; have := ZB.out; omega
        have z2 : Aside0 (w.heap.size + 2 ≤ g2) := ⟨by omega⟩
        have n12 : Aside0 (g1 ≠ g2) := ⟨by have := P1.out.lt; omega⟩
        have n32 : Aside0 (g3 ≠ g2) := ⟨by have := F3.out.lt; omega⟩
        have n21 : Aside0 (g2 ≠ g1) := ⟨Ne.symm n12.out⟩
        have n23 : Aside0 (g2 ≠ g3) := ⟨Ne.symm n32.out⟩
        have HB4 := Aside0.mk (nd_grown_below hG HB3.out ZC z2.out)
        replace P1 := Aside0.mk (P1.out.keep flat48 hG n12.out)
        replace F3 := Aside0.mk (F3.out.keep hG n32.out)
        have F2 := Aside0.mk hF
        clear hF hG hg ZC HB3
        go_simp
        clear mk
        refine hK.out _ _ ?_ (fun hNew => ?_)
        · exact ⟨(HB4.out.cell (p := ⟨w.heap.size, 0, none⟩) (by show w.heap.size < _; omega)).trans B0.out, (HB4.out.cell (p := ⟨w.heap.size, 1, none⟩) (by show w.heap.size < _; omega)).trans B1.out, (HB4.out.cell (p := ⟨w.heap.size, 2, none⟩) (by show w.heap.size < _; omega)).trans B2.out, (HB4.out.cell (p := ⟨w.heap.size, 3, none⟩) (by show w.heap.size < _; omega)).trans B3.out⟩
        clear hK K hHeld
        have hHeld := hNew
        clear hNew
        refine wpAnyH_ready (rs := [17]) (by kernel_rfl) (by simp) ?_
        refine (AllReadyH.cons rfl (fun K hK => ?_) AllReadyH.nil)
        obtain ⟨W5, ap, hP, hG⟩ := appendAt (P := Try.prog) Kd.string flatS 23 9 (.string ⟨#[]⟩) 16 Try.underlying23 (by kernel_rfl) rfl (by decide) 23 W4 A0_2 c0_2 l0_2 g2 (Kd.C_below R2.out ((XB.out.trans (HB4.out.mono (by omega))))) F2.out
        have ZC : w.heap.size + 2 ≤ W4.heap.size := by have := HB4.out.size; have := ZB.out; omega
        have HB5 := Aside0.mk (nd_grown_below hG HB4.out ZC z2.out)
        replace P1 := Aside0.mk (P1.out.keep flat48 hG n12.out)
        replace F3 := Aside0.mk (F3.out.keep hG n32.out)
        have P2 := Aside0.mk hP
        clear hP hG ZC HB4 F2
        rw [if_pos (by kernel_rfl)]
        refine oper_append_ran (.tmp 17) (.tmp 19) 23 rfl _ _ _ rfl rfl ap ?_
        simp only [Act.put, List.getElem_toArray, List.getElem_cons_zero, List.getElem_cons_succ, List.setIfInBounds_toArray, List.set_cons_zero, List.set_cons_succ]
        clear ap
        refine hK.out _ _ ?_ (fun hNew => ?_)
        · exact ⟨(HB5.out.cell (p := ⟨w.heap.size, 0, none⟩) (by show w.heap.size < _; omega)).trans B0.out, (HB5.out.cell (p := ⟨w.heap.size, 1, none⟩) (by show w.heap.size < _; omega)).trans B1.out, (HB5.out.cell (p := ⟨w.heap.size, 2, none⟩) (by show w.heap.size < _; omega)).trans B2.out, (HB5.out.cell (p := ⟨w.heap.size, 3, none⟩) (by show w.heap.size < _; omega)).trans B3.out⟩
        clear hK K hHeld
        have hHeld := hNew
        clear hNew
        refine wpAnyH_ready (rs := [25]) (by kernel_rfl) (by simp) ?_
        refine (AllReadyH.cons rfl (fun K hK => ?_) AllReadyH.nil)
        obtain ⟨W6, ap, hP, hG⟩ := appendAt (P := Try.prog) (Kd.int .i64) flatI 24 3 (.int .i64 0) 8 Try.underlying24 (by kernel_rfl) rfl (by decide) 24 W5 A0_3 c0_3 l0_3 g3 (Kd.C_below R3.out ((XB.out.trans (HB5.out.mono (by omega))))) F3.out
        have ZC : w.heap.size + 2 ≤ W5.heap.size := by have := HB5.out.size; have := ZB.out; omega
        have HB6 := Aside0.mk (nd_grown_below hG HB5.out ZC z3.out)
        replace P1 := Aside0.mk (P1.out.keep flat48 hG n13.out)
        replace P2 := Aside0.mk (P2.out.keep flatS hG n23.out)
        have P3 := Aside0.mk hP
        clear hP hG ZC HB5 F3
        rw [if_pos (by kernel_rfl)]
        refine oper_append_ran (.tmp 25) (.tmp 27) 24 rfl _ _ _ rfl rfl ap ?_
        simp only [Act.put, List.getElem_toArray, List.getElem_cons_zero, List.getElem_cons_succ, List.setIfInBounds_toArray, List.set_cons_zero, List.set_cons_succ]
        clear ap
        refine hK.out _ _ ?_ (fun hNew => ?_)
        · exact ⟨(HB6.out.cell (p := ⟨w.heap.size, 0, none⟩) (by show w.heap.size < _; omega)).trans B0.out, (HB6.out.cell (p := ⟨w.heap.size, 1, none⟩) (by show w.heap.size < _; omega)).trans B1.out, (HB6.out.cell (p := ⟨w.heap.size, 2, none⟩) (by show w.heap.size < _; omega)).trans B2.out, (HB6.out.cell (p := ⟨w.heap.size, 3, none⟩) (by show w.heap.size < _; omega)).trans B3.out⟩
        clear hK K hHeld
        have hHeld := hNew
        clear hNew
        refine wpAnyH_take (i := 26) (oi := _) (v := _) rfl (by kernel_rfl) (by kernel_rfl) (by kernel_rfl) (fun _ _ _ h => h) (Or.inl ⟨by rfl, by (intro w hSw; (try dsimp only at hSw); go_simp; try with_reducible rfl)⟩) hHeld ?_
        simp only [Act.put, List.getElem_toArray, List.getElem_cons_zero, List.getElem_cons_succ, List.setIfInBounds_toArray, List.set_cons_zero, List.set_cons_succ]
        refine wpAnyH_ready (rs := [27]) (by kernel_rfl) (by simp) ?_
        refine AllReadyH.cons rfl (fun K hK => ?_) AllReadyH.nil
        have t6 : W6.heap[w.heap.size + 1]? = some (.cells #[.bool false, .slice none 0 0, .slice none 0 0, .slice none 0 0] 31 (0, 0)) := (HB6.out.block _ (by omega)).trans TB.out
        have c0 : W6.cell? ⟨w.heap.size + 1, 0, none⟩ = some (.bool false) := blk_cell t6 0
        have c1 : W6.cell? ⟨w.heap.size + 1, 1, none⟩ = some (.slice none 0 0) := blk_cell t6 1
        have c2 : W6.cell? ⟨w.heap.size + 1, 2, none⟩ = some (.slice none 0 0) := blk_cell t6 2
        have c3 : W6.cell? ⟨w.heap.size + 1, 3, none⟩ = some (.slice none 0 0) := blk_cell t6 3
        have f0 : W6.frozen? ⟨w.heap.size + 1, 0, none⟩ = false := blk_frozen t6 0
        have f1 : W6.frozen? ⟨w.heap.size + 1, 1, none⟩ = false := blk_frozen t6 1
        have f2 : W6.frozen? ⟨w.heap.size + 1, 2, none⟩ = false := blk_frozen t6 2
        have f3 : W6.frozen? ⟨w.heap.size + 1, 3, none⟩ = false := blk_frozen t6 3
        go_simp
        obtain ⟨W7, e7, t7, G7⟩ := nd_set4 W6 (w.heap.size + 1) 31 _ _ _ _ (.bool a0_0) (.slice (some ⟨g1, 0, none⟩) l0_1.length (l0_1.length + 1)) (.slice (some ⟨g2, 0, none⟩) l0_2.length (l0_2.length + 1)) (.slice (some ⟨g3, 0, none⟩) l0_3.length (l0_3.length + 1)) t6
        rw [← e7]
        have HB7 := Aside0.mk (nd_grown_below G7 (XB.out.trans (HB6.out.mono (by omega))) (by have := XB.out.size; have := HB6.out.size; omega) (by omega))
        have P1' := Aside0.mk (P1.out.keep flat48 G7 (by have := z1.out; omega))
        have P2' := Aside0.mk (P2.out.keep flatS G7 (by have := z2.out; omega))
        have P3' := Aside0.mk (P3.out.keep flatI G7 (by have := z3.out; omega))
        have r0 : W7.cell? ⟨w.heap.size + 1, 0, none⟩ = some (.bool a0_0) := blk_cell t7 0
        have r1 : W7.cell? ⟨w.heap.size + 1, 1, none⟩ = some (.slice (some ⟨g1, 0, none⟩) l0_1.length (l0_1.length + 1)) := blk_cell t7 1
        have r2 : W7.cell? ⟨w.heap.size + 1, 2, none⟩ = some (.slice (some ⟨g2, 0, none⟩) l0_2.length (l0_2.length + 1)) := blk_cell t7 2
        have r3 : W7.cell? ⟨w.heap.size + 1, 3, none⟩ = some (.slice (some ⟨g3, 0, none⟩) l0_3.length (l0_3.length + 1)) := blk_cell t7 3
        refine hK.out _ _ ⟨nd_grown_cell G7 (by show w.heap.size ≠ _; omega) hHeld.1, nd_grown_cell G7 (by show w.heap.size ≠ _; omega) hHeld.2.1, nd_grown_cell G7 (by show w.heap.size ≠ _; omega) hHeld.2.2.1, nd_grown_cell G7 (by show w.heap.size ≠ _; omega) hHeld.2.2.2⟩ (fun _ => ?_)
        clear hK K hHeld e7 G7 c0 c1 c2 c3 f0 f1 f2 f3 t6 P1 P2 P3 HB6
        refine wpAnyH_done (by kernel_rfl) ?_ _
        go_wp2
        refine bodyPost_ret (results_cell_row rfl _ _ (w.heap.size + 1) 31 #[.bool a0_0, .slice (some ⟨g1, 0, none⟩) l0_1.length (l0_1.length + 1), .slice (some ⟨g2, 0, none⟩) l0_2.length (l0_2.length + 1), .slice (some ⟨g3, 0, none⟩) l0_3.length (l0_3.length + 1)] (0, 0) _ rfl t7 Try.underlying31 rfl (by kernel_rfl)) rfl ?_
        exact ⟨g1, g2, g3, rfl, by have := z1.out; omega, by have := z2.out; omega, by have := z3.out; omega, n12.out, n13.out, n23.out, P1'.out, P2'.out, P3'.out, HB7.out⟩
    · obtain ⟨g2, W2, hg, mk, hF, hG⟩ := makeIn (P := Try.prog) Kd.string 23 9 (.string ⟨#[]⟩) 16 Try.underlying23 (by kernel_rfl) rfl W1 l0_2.length H2.out (by omega)
      have ZC : w.heap.size + 2 ≤ W1.heap.size := by have := HB1.out.size; have := ZB.out; omega
      have z2 : Aside0 (w.heap.size + 2 ≤ g2) := ⟨by omega⟩
      have n12 : Aside0 (g1 ≠ g2) := ⟨by have := F1.out.lt; omega⟩
      have n21 : Aside0 (g2 ≠ g1) := ⟨Ne.symm n12.out⟩
      have HB2 := Aside0.mk (nd_grown_below hG HB1.out ZC z2.out)
      replace F1 := Aside0.mk (F1.out.keep hG n12.out)
      have F2 := Aside0.mk hF
      clear hF hG hg ZC HB1
      go_simp
      clear mk
      refine hK.out _ _ ?_ (fun hNew => ?_)
      · exact ⟨(HB2.out.cell (p := ⟨w.heap.size, 0, none⟩) (by show w.heap.size < _; omega)).trans B0.out, (HB2.out.cell (p := ⟨w.heap.size, 1, none⟩) (by show w.heap.size < _; omega)).trans B1.out, (HB2.out.cell (p := ⟨w.heap.size, 2, none⟩) (by show w.heap.size < _; omega)).trans B2.out, (HB2.out.cell (p := ⟨w.heap.size, 3, none⟩) (by show w.heap.size < _; omega)).trans B3.out⟩
      clear hK K hHeld
      have hHeld := hNew
      clear hNew
      refine wpAnyH_ready (rs := [9, 22]) (by kernel_rfl) (by simp) ?_
      refine (AllReadyH.cons rfl (fun K hK => ?_) (AllReadyH.cons rfl (fun K hK => ?_) AllReadyH.nil))
      · obtain ⟨W3, ap, hP, hG⟩ := appendAt (P := Try.prog) k48 flat48 22 48 (.agg #[(.string ⟨#[]⟩), (.string ⟨#[]⟩)]) 32 Try.underlying22 (by kernel_rfl) rfl (by decide) 22 W2 A0_1 c0_1 l0_1 g1 (Kd.C_below R1.out ((XB.out.trans (HB2.out.mono (by omega))))) F1.out
        have ZC : w.heap.size + 2 ≤ W2.heap.size := by have := HB2.out.size; have := ZB.out; omega
        have HB3 := Aside0.mk (nd_grown_below hG HB2.out ZC z1.out)
        replace F2 := Aside0.mk (F2.out.keep hG n21.out)
        have P1 := Aside0.mk hP
        clear hP hG ZC HB2 F1
        rw [if_pos (by kernel_rfl)]
        refine oper_append_ran (.tmp 9) (.tmp 11) 22 rfl _ _ _ rfl rfl ap ?_
        simp only [Act.put, List.getElem_toArray, List.getElem_cons_zero, List.getElem_cons_succ, List.setIfInBounds_toArray, List.set_cons_zero, List.set_cons_succ]
        clear ap
        refine hK.out _ _ ?_ (fun hNew => ?_)
        · exact ⟨(HB3.out.cell (p := ⟨w.heap.size, 0, none⟩) (by show w.heap.size < _; omega)).trans B0.out, (HB3.out.cell (p := ⟨w.heap.size, 1, none⟩) (by show w.heap.size < _; omega)).trans B1.out, (HB3.out.cell (p := ⟨w.heap.size, 2, none⟩) (by show w.heap.size < _; omega)).trans B2.out, (HB3.out.cell (p := ⟨w.heap.size, 3, none⟩) (by show w.heap.size < _; omega)).trans B3.out⟩
        clear hK K hHeld
        have hHeld := hNew
        clear hNew
        refine wpAnyH_ready (rs := [17, 22]) (by kernel_rfl) (by simp) ?_
        refine (AllReadyH.cons rfl (fun K hK => ?_) (AllReadyH.cons rfl (fun K hK => ?_) AllReadyH.nil))
        · obtain ⟨W4, ap, hP, hG⟩ := appendAt (P := Try.prog) Kd.string flatS 23 9 (.string ⟨#[]⟩) 16 Try.underlying23 (by kernel_rfl) rfl (by decide) 23 W3 A0_2 c0_2 l0_2 g2 (Kd.C_below R2.out ((XB.out.trans (HB3.out.mono (by omega))))) F2.out
          have ZC : w.heap.size + 2 ≤ W3.heap.size := by have := HB3.out.size; have := ZB.out; omega
          have HB4 := Aside0.mk (nd_grown_below hG HB3.out ZC z2.out)
          replace P1 := Aside0.mk (P1.out.keep flat48 hG n12.out)
          have P2 := Aside0.mk hP
          clear hP hG ZC HB3 F2
          rw [if_pos (by kernel_rfl)]
          refine oper_append_ran (.tmp 17) (.tmp 19) 23 rfl _ _ _ rfl rfl ap ?_
          simp only [Act.put, List.getElem_toArray, List.getElem_cons_zero, List.getElem_cons_succ, List.setIfInBounds_toArray, List.set_cons_zero, List.set_cons_succ]
          clear ap
          refine hK.out _ _ ?_ (fun hNew => ?_)
          · exact ⟨(HB4.out.cell (p := ⟨w.heap.size, 0, none⟩) (by show w.heap.size < _; omega)).trans B0.out, (HB4.out.cell (p := ⟨w.heap.size, 1, none⟩) (by show w.heap.size < _; omega)).trans B1.out, (HB4.out.cell (p := ⟨w.heap.size, 2, none⟩) (by show w.heap.size < _; omega)).trans B2.out, (HB4.out.cell (p := ⟨w.heap.size, 3, none⟩) (by show w.heap.size < _; omega)).trans B3.out⟩
          clear hK K hHeld
          have hHeld := hNew
          clear hNew
          refine wpAnyH_ready (rs := [22]) (by kernel_rfl) (by simp) ?_
          refine (AllReadyH.cons rfl (fun K hK => ?_) AllReadyH.nil)
          obtain ⟨g3, W5, hg, mk, hF, hG⟩ := makeIn (P := Try.prog) (Kd.int .i64) 24 3 (.int .i64 0) 8 Try.underlying24 (by kernel_rfl) rfl W4 l0_3.length H3.out (by omega)
          have ZC : w.heap.size + 2 ≤ W4.heap.size := by have := HB4.out.size; have := ZB.out; omega
          have z3 : Aside0 (w.heap.size + 2 ≤ g3) := ⟨by omega⟩
          have n13 : Aside0 (g1 ≠ g3) := ⟨by have := P1.out.lt; omega⟩
          have n23 : Aside0 (g2 ≠ g3) := ⟨by have := P2.out.lt; omega⟩
          have n31 : Aside0 (g3 ≠ g1) := ⟨Ne.symm n13.out⟩
          have n32 : Aside0 (g3 ≠ g2) := ⟨Ne.symm n23.out⟩
          have HB5 := Aside0.mk (nd_grown_below hG HB4.out ZC z3.out)
          replace P1 := Aside0.mk (P1.out.keep flat48 hG n13.out)
          replace P2 := Aside0.mk (P2.out.keep flatS hG n23.out)
          have F3 := Aside0.mk hF
          clear hF hG hg ZC HB4
          go_simp
          clear mk
          refine hK.out _ _ ?_ (fun hNew => ?_)
          · exact ⟨(HB5.out.cell (p := ⟨w.heap.size, 0, none⟩) (by show w.heap.size < _; omega)).trans B0.out, (HB5.out.cell (p := ⟨w.heap.size, 1, none⟩) (by show w.heap.size < _; omega)).trans B1.out, (HB5.out.cell (p := ⟨w.heap.size, 2, none⟩) (by show w.heap.size < _; omega)).trans B2.out, (HB5.out.cell (p := ⟨w.heap.size, 3, none⟩) (by show w.heap.size < _; omega)).trans B3.out⟩
          clear hK K hHeld
          have hHeld := hNew
          clear hNew
          refine wpAnyH_ready (rs := [25]) (by kernel_rfl) (by simp) ?_
          refine (AllReadyH.cons rfl (fun K hK => ?_) AllReadyH.nil)
          obtain ⟨W6, ap, hP, hG⟩ := appendAt (P := Try.prog) (Kd.int .i64) flatI 24 3 (.int .i64 0) 8 Try.underlying24 (by kernel_rfl) rfl (by decide) 24 W5 A0_3 c0_3 l0_3 g3 (Kd.C_below R3.out ((XB.out.trans (HB5.out.mono (by omega))))) F3.out
          have ZC : w.heap.size + 2 ≤ W5.heap.size := by have := HB5.out.size; have := ZB.out; omega
          have HB6 := Aside0.mk (nd_grown_below hG HB5.out ZC z3.out)
          replace P1 := Aside0.mk (P1.out.keep flat48 hG n13.out)
          replace P2 := Aside0.mk (P2.out.keep flatS hG n23.out)
          have P3 := Aside0.mk hP
          clear hP hG ZC HB5 F3
          rw [if_pos (by kernel_rfl)]
          refine oper_append_ran (.tmp 25) (.tmp 27) 24 rfl _ _ _ rfl rfl ap ?_
          simp only [Act.put, List.getElem_toArray, List.getElem_cons_zero, List.getElem_cons_succ, List.setIfInBounds_toArray, List.set_cons_zero, List.set_cons_succ]
          clear ap
          refine hK.out _ _ ?_ (fun hNew => ?_)
          · exact ⟨(HB6.out.cell (p := ⟨w.heap.size, 0, none⟩) (by show w.heap.size < _; omega)).trans B0.out, (HB6.out.cell (p := ⟨w.heap.size, 1, none⟩) (by show w.heap.size < _; omega)).trans B1.out, (HB6.out.cell (p := ⟨w.heap.size, 2, none⟩) (by show w.heap.size < _; omega)).trans B2.out, (HB6.out.cell (p := ⟨w.heap.size, 3, none⟩) (by show w.heap.size < _; omega)).trans B3.out⟩
          clear hK K hHeld
          have hHeld := hNew
          clear hNew
          refine wpAnyH_take (i := 26) (oi := _) (v := _) rfl (by kernel_rfl) (by kernel_rfl) (by kernel_rfl) (fun _ _ _ h => h) (Or.inl ⟨by rfl, by (intro w hSw; (try dsimp only at hSw); go_simp; try with_reducible rfl)⟩) hHeld ?_
          simp only [Act.put, List.getElem_toArray, List.getElem_cons_zero, List.getElem_cons_succ, List.setIfInBounds_toArray, List.set_cons_zero, List.set_cons_succ]
          refine wpAnyH_ready (rs := [27]) (by kernel_rfl) (by simp) ?_
          refine AllReadyH.cons rfl (fun K hK => ?_) AllReadyH.nil
          have t6 : W6.heap[w.heap.size + 1]? = some (.cells #[.bool false, .slice none 0 0, .slice none 0 0, .slice none 0 0] 31 (0, 0)) := (HB6.out.block _ (by omega)).trans TB.out
          have c0 : W6.cell? ⟨w.heap.size + 1, 0, none⟩ = some (.bool false) := blk_cell t6 0
          have c1 : W6.cell? ⟨w.heap.size + 1, 1, none⟩ = some (.slice none 0 0) := blk_cell t6 1
          have c2 : W6.cell? ⟨w.heap.size + 1, 2, none⟩ = some (.slice none 0 0) := blk_cell t6 2
          have c3 : W6.cell? ⟨w.heap.size + 1, 3, none⟩ = some (.slice none 0 0) := blk_cell t6 3
          have f0 : W6.frozen? ⟨w.heap.size + 1, 0, none⟩ = false := blk_frozen t6 0
          have f1 : W6.frozen? ⟨w.heap.size + 1, 1, none⟩ = false := blk_frozen t6 1
          have f2 : W6.frozen? ⟨w.heap.size + 1, 2, none⟩ = false := blk_frozen t6 2
          have f3 : W6.frozen? ⟨w.heap.size + 1, 3, none⟩ = false := blk_frozen t6 3
          go_simp
          obtain ⟨W7, e7, t7, G7⟩ := nd_set4 W6 (w.heap.size + 1) 31 _ _ _ _ (.bool a0_0) (.slice (some ⟨g1, 0, none⟩) l0_1.length (l0_1.length + 1)) (.slice (some ⟨g2, 0, none⟩) l0_2.length (l0_2.length + 1)) (.slice (some ⟨g3, 0, none⟩) l0_3.length (l0_3.length + 1)) t6
          rw [← e7]
          have HB7 := Aside0.mk (nd_grown_below G7 (XB.out.trans (HB6.out.mono (by omega))) (by have := XB.out.size; have := HB6.out.size; omega) (by omega))
          have P1' := Aside0.mk (P1.out.keep flat48 G7 (by have := z1.out; omega))
          have P2' := Aside0.mk (P2.out.keep flatS G7 (by have := z2.out; omega))
          have P3' := Aside0.mk (P3.out.keep flatI G7 (by have := z3.out; omega))
          have r0 : W7.cell? ⟨w.heap.size + 1, 0, none⟩ = some (.bool a0_0) := blk_cell t7 0
          have r1 : W7.cell? ⟨w.heap.size + 1, 1, none⟩ = some (.slice (some ⟨g1, 0, none⟩) l0_1.length (l0_1.length + 1)) := blk_cell t7 1
          have r2 : W7.cell? ⟨w.heap.size + 1, 2, none⟩ = some (.slice (some ⟨g2, 0, none⟩) l0_2.length (l0_2.length + 1)) := blk_cell t7 2
          have r3 : W7.cell? ⟨w.heap.size + 1, 3, none⟩ = some (.slice (some ⟨g3, 0, none⟩) l0_3.length (l0_3.length + 1)) := blk_cell t7 3
          refine hK.out _ _ ⟨nd_grown_cell G7 (by show w.heap.size ≠ _; omega) hHeld.1, nd_grown_cell G7 (by show w.heap.size ≠ _; omega) hHeld.2.1, nd_grown_cell G7 (by show w.heap.size ≠ _; omega) hHeld.2.2.1, nd_grown_cell G7 (by show w.heap.size ≠ _; omega) hHeld.2.2.2⟩ (fun _ => ?_)
          clear hK K hHeld e7 G7 c0 c1 c2 c3 f0 f1 f2 f3 t6 P1 P2 P3 HB6
          refine wpAnyH_done (by kernel_rfl) ?_ _
          go_wp2
          refine bodyPost_ret (results_cell_row rfl _ _ (w.heap.size + 1) 31 #[.bool a0_0, .slice (some ⟨g1, 0, none⟩) l0_1.length (l0_1.length + 1), .slice (some ⟨g2, 0, none⟩) l0_2.length (l0_2.length + 1), .slice (some ⟨g3, 0, none⟩) l0_3.length (l0_3.length + 1)] (0, 0) _ rfl t7 Try.underlying31 rfl (by kernel_rfl)) rfl ?_
          exact ⟨g1, g2, g3, rfl, by have := z1.out; omega, by have := z2.out; omega, by have := z3.out; omega, n12.out, n13.out, n23.out, P1'.out, P2'.out, P3'.out, HB7.out⟩
        · obtain ⟨g3, W4, hg, mk, hF, hG⟩ := makeIn (P := Try.prog) (Kd.int .i64) 24 3 (.int .i64 0) 8 Try.underlying24 (by kernel_rfl) rfl W3 l0_3.length H3.out (by omega)
          have ZC : w.heap.size + 2 ≤ W3.heap.size := by have := HB3.out.size; have := ZB.out; omega
          have z3 : Aside0 (w.heap.size + 2 ≤ g3) := ⟨by omega⟩
          have n13 : Aside0 (g1 ≠ g3) := ⟨by have := P1.out.lt; omega⟩
          have n23 : Aside0 (g2 ≠ g3) := ⟨by have := F2.out.lt; omega⟩
          have n31 : Aside0 (g3 ≠ g1) := ⟨Ne.symm n13.out⟩
          have n32 : Aside0 (g3 ≠ g2) := ⟨Ne.symm n23.out⟩
          have HB4 := Aside0.mk (nd_grown_below hG HB3.out ZC z3.out)
          replace P1 := Aside0.mk (P1.out.keep flat48 hG n13.out)
          replace F2 := Aside0.mk (F2.out.keep hG n23.out)
          have F3 := Aside0.mk hF
          clear hF hG hg ZC HB3
          go_simp
          clear mk
          refine hK.out _ _ ?_ (fun hNew => ?_)
          · exact ⟨(HB4.out.cell (p := ⟨w.heap.size, 0, none⟩) (by show w.heap.size < _; omega)).trans B0.out, (HB4.out.cell (p := ⟨w.heap.size, 1, none⟩) (by show w.heap.size < _; omega)).trans B1.out, (HB4.out.cell (p := ⟨w.heap.size, 2, none⟩) (by show w.heap.size < _; omega)).trans B2.out, (HB4.out.cell (p := ⟨w.heap.size, 3, none⟩) (by show w.heap.size < _; omega)).trans B3.out⟩
          clear hK K hHeld
          have hHeld := hNew
          clear hNew
          refine wpAnyH_ready (rs := [17]) (by kernel_rfl) (by simp) ?_
          refine (AllReadyH.cons rfl (fun K hK => ?_) AllReadyH.nil)
          obtain ⟨W5, ap, hP, hG⟩ := appendAt (P := Try.prog) Kd.string flatS 23 9 (.string ⟨#[]⟩) 16 Try.underlying23 (by kernel_rfl) rfl (by decide) 23 W4 A0_2 c0_2 l0_2 g2 (Kd.C_below R2.out ((XB.out.trans (HB4.out.mono (by omega))))) F2.out
          have ZC : w.heap.size + 2 ≤ W4.heap.size := by have := HB4.out.size; have := ZB.out; omega
          have HB5 := Aside0.mk (nd_grown_below hG HB4.out ZC z2.out)
          replace P1 := Aside0.mk (P1.out.keep flat48 hG n12.out)
          replace F3 := Aside0.mk (F3.out.keep hG n32.out)
          have P2 := Aside0.mk hP
          clear hP hG ZC HB4 F2
          rw [if_pos (by kernel_rfl)]
          refine oper_append_ran (.tmp 17) (.tmp 19) 23 rfl _ _ _ rfl rfl ap ?_
          simp only [Act.put, List.getElem_toArray, List.getElem_cons_zero, List.getElem_cons_succ, List.setIfInBounds_toArray, List.set_cons_zero, List.set_cons_succ]
          clear ap
          refine hK.out _ _ ?_ (fun hNew => ?_)
          · exact ⟨(HB5.out.cell (p := ⟨w.heap.size, 0, none⟩) (by show w.heap.size < _; omega)).trans B0.out, (HB5.out.cell (p := ⟨w.heap.size, 1, none⟩) (by show w.heap.size < _; omega)).trans B1.out, (HB5.out.cell (p := ⟨w.heap.size, 2, none⟩) (by show w.heap.size < _; omega)).trans B2.out, (HB5.out.cell (p := ⟨w.heap.size, 3, none⟩) (by show w.heap.size < _; omega)).trans B3.out⟩
          clear hK K hHeld
          have hHeld := hNew
          clear hNew
          refine wpAnyH_ready (rs := [25]) (by kernel_rfl) (by simp) ?_
          refine (AllReadyH.cons rfl (fun K hK => ?_) AllReadyH.nil)
          obtain ⟨W6, ap, hP, hG⟩ := appendAt (P := Try.prog) (Kd.int .i64) flatI 24 3 (.int .i64 0) 8 Try.underlying24 (by kernel_rfl) rfl (by decide) 24 W5 A0_3 c0_3 l0_3 g3 (Kd.C_below R3.out ((XB.out.trans (HB5.out.mono (by omega))))) F3.out
          have ZC : w.heap.size + 2 ≤ W5.heap.size := by have := HB5.out.size; have := ZB.out; omega
          have HB6 := Aside0.mk (nd_grown_below hG HB5.out ZC z3.out)
          replace P1 := Aside0.mk (P1.out.keep flat48 hG n13.out)
          replace P2 := Aside0.mk (P2.out.keep flatS hG n23.out)
          have P3 := Aside0.mk hP
          clear hP hG ZC HB5 F3
          rw [if_pos (by kernel_rfl)]
          refine oper_append_ran (.tmp 25) (.tmp 27) 24 rfl _ _ _ rfl rfl ap ?_
          simp only [Act.put, List.getElem_toArray, List.getElem_cons_zero, List.getElem_cons_succ, List.setIfInBounds_toArray, List.set_cons_zero, List.set_cons_succ]
          clear ap
          refine hK.out _ _ ?_ (fun hNew => ?_)
          · exact ⟨(HB6.out.cell (p := ⟨w.heap.size, 0, none⟩) (by show w.heap.size < _; omega)).trans B0.out, (HB6.out.cell (p := ⟨w.heap.size, 1, none⟩) (by show w.heap.size < _; omega)).trans B1.out, (HB6.out.cell (p := ⟨w.heap.size, 2, none⟩) (by show w.heap.size < _; omega)).trans B2.out, (HB6.out.cell (p := ⟨w.heap.size, 3, none⟩) (by show w.heap.size < _; omega)).trans B3.out⟩
          clear hK K hHeld
          have hHeld := hNew
          clear hNew
          refine wpAnyH_take (i := 26) (oi := _) (v := _) rfl (by kernel_rfl) (by kernel_rfl) (by kernel_rfl) (fun _ _ _ h => h) (Or.inl ⟨by rfl, by (intro w hSw; (try dsimp only at hSw); go_simp; try with_reducible rfl)⟩) hHeld ?_
          simp only [Act.put, List.getElem_toArray, List.getElem_cons_zero, List.getElem_cons_succ, List.setIfInBounds_toArray, List.set_cons_zero, List.set_cons_succ]
          refine wpAnyH_ready (rs := [27]) (by kernel_rfl) (by simp) ?_
          refine AllReadyH.cons rfl (fun K hK => ?_) AllReadyH.nil
          have t6 : W6.heap[w.heap.size + 1]? = some (.cells #[.bool false, .slice none 0 0, .slice none 0 0, .slice none 0 0] 31 (0, 0)) := (HB6.out.block _ (by omega)).trans TB.out
          have c0 : W6.cell? ⟨w.heap.size + 1, 0, none⟩ = some (.bool false) := blk_cell t6 0
          have c1 : W6.cell? ⟨w.heap.size + 1, 1, none⟩ = some (.slice none 0 0) := blk_cell t6 1
          have c2 : W6.cell? ⟨w.heap.size + 1, 2, none⟩ = some (.slice none 0 0) := blk_cell t6 2
          have c3 : W6.cell? ⟨w.heap.size + 1, 3, none⟩ = some (.slice none 0 0) := blk_cell t6 3
          have f0 : W6.frozen? ⟨w.heap.size + 1, 0, none⟩ = false := blk_frozen t6 0
          have f1 : W6.frozen? ⟨w.heap.size + 1, 1, none⟩ = false := blk_frozen t6 1
          have f2 : W6.frozen? ⟨w.heap.size + 1, 2, none⟩ = false := blk_frozen t6 2
          have f3 : W6.frozen? ⟨w.heap.size + 1, 3, none⟩ = false := blk_frozen t6 3
          go_simp
          obtain ⟨W7, e7, t7, G7⟩ := nd_set4 W6 (w.heap.size + 1) 31 _ _ _ _ (.bool a0_0) (.slice (some ⟨g1, 0, none⟩) l0_1.length (l0_1.length + 1)) (.slice (some ⟨g2, 0, none⟩) l0_2.length (l0_2.length + 1)) (.slice (some ⟨g3, 0, none⟩) l0_3.length (l0_3.length + 1)) t6
          rw [← e7]
          have HB7 := Aside0.mk (nd_grown_below G7 (XB.out.trans (HB6.out.mono (by omega))) (by have := XB.out.size; have := HB6.out.size; omega) (by omega))
          have P1' := Aside0.mk (P1.out.keep flat48 G7 (by have := z1.out; omega))
          have P2' := Aside0.mk (P2.out.keep flatS G7 (by have := z2.out; omega))
          have P3' := Aside0.mk (P3.out.keep flatI G7 (by have := z3.out; omega))
          have r0 : W7.cell? ⟨w.heap.size + 1, 0, none⟩ = some (.bool a0_0) := blk_cell t7 0
          have r1 : W7.cell? ⟨w.heap.size + 1, 1, none⟩ = some (.slice (some ⟨g1, 0, none⟩) l0_1.length (l0_1.length + 1)) := blk_cell t7 1
          have r2 : W7.cell? ⟨w.heap.size + 1, 2, none⟩ = some (.slice (some ⟨g2, 0, none⟩) l0_2.length (l0_2.length + 1)) := blk_cell t7 2
          have r3 : W7.cell? ⟨w.heap.size + 1, 3, none⟩ = some (.slice (some ⟨g3, 0, none⟩) l0_3.length (l0_3.length + 1)) := blk_cell t7 3
          refine hK.out _ _ ⟨nd_grown_cell G7 (by show w.heap.size ≠ _; omega) hHeld.1, nd_grown_cell G7 (by show w.heap.size ≠ _; omega) hHeld.2.1, nd_grown_cell G7 (by show w.heap.size ≠ _; omega) hHeld.2.2.1, nd_grown_cell G7 (by show w.heap.size ≠ _; omega) hHeld.2.2.2⟩ (fun _ => ?_)
          clear hK K hHeld e7 G7 c0 c1 c2 c3 f0 f1 f2 f3 t6 P1 P2 P3 HB6
          refine wpAnyH_done (by kernel_rfl) ?_ _
          go_wp2
          refine bodyPost_ret (results_cell_row rfl _ _ (w.heap.size + 1) 31 #[.bool a0_0, .slice (some ⟨g1, 0, none⟩) l0_1.length (l0_1.length + 1), .slice (some ⟨g2, 0, none⟩) l0_2.length (l0_2.length + 1), .slice (some ⟨g3, 0, none⟩) l0_3.length (l0_3.length + 1)] (0, 0) _ rfl t7 Try.underlying31 rfl (by kernel_rfl)) rfl ?_
          exact ⟨g1, g2, g3, rfl, by have := z1.out; omega, by have := z2.out; omega, by have := z3.out; omega, n12.out, n13.out, n23.out, P1'.out, P2'.out, P3'.out, HB7.out⟩
      · obtain ⟨g3, W3, hg, mk, hF, hG⟩ := makeIn (P := Try.prog) (Kd.int .i64) 24 3 (.int .i64 0) 8 Try.underlying24 (by kernel_rfl) rfl W2 l0_3.length H3.out (by omega)
        have ZC : w.heap.size + 2 ≤ W2.heap.size := by have := HB2.out.size; have := ZB.out; omega
        have z3 : Aside0 (w.heap.size + 2 ≤ g3) := ⟨by omega⟩
        have n13 : Aside0 (g1 ≠ g3) := ⟨by have := F1.out.lt; omega⟩
        have n23 : Aside0 (g2 ≠ g3) := ⟨by have := F2.out.lt; omega⟩
        have n31 : Aside0 (g3 ≠ g1) := ⟨Ne.symm n13.out⟩
        have n32 : Aside0 (g3 ≠ g2) := ⟨Ne.symm n23.out⟩
        have HB3 := Aside0.mk (nd_grown_below hG HB2.out ZC z3.out)
        replace F1 := Aside0.mk (F1.out.keep hG n13.out)
        replace F2 := Aside0.mk (F2.out.keep hG n23.out)
        have F3 := Aside0.mk hF
        clear hF hG hg ZC HB2
        go_simp
        clear mk
        refine hK.out _ _ ?_ (fun hNew => ?_)
        · exact ⟨(HB3.out.cell (p := ⟨w.heap.size, 0, none⟩) (by show w.heap.size < _; omega)).trans B0.out, (HB3.out.cell (p := ⟨w.heap.size, 1, none⟩) (by show w.heap.size < _; omega)).trans B1.out, (HB3.out.cell (p := ⟨w.heap.size, 2, none⟩) (by show w.heap.size < _; omega)).trans B2.out, (HB3.out.cell (p := ⟨w.heap.size, 3, none⟩) (by show w.heap.size < _; omega)).trans B3.out⟩
        clear hK K hHeld
        have hHeld := hNew
        clear hNew
        refine wpAnyH_ready (rs := [9]) (by kernel_rfl) (by simp) ?_
        refine (AllReadyH.cons rfl (fun K hK => ?_) AllReadyH.nil)
        obtain ⟨W4, ap, hP, hG⟩ := appendAt (P := Try.prog) k48 flat48 22 48 (.agg #[(.string ⟨#[]⟩), (.string ⟨#[]⟩)]) 32 Try.underlying22 (by kernel_rfl) rfl (by decide) 22 W3 A0_1 c0_1 l0_1 g1 (Kd.C_below R1.out ((XB.out.trans (HB3.out.mono (by omega))))) F1.out
        have ZC : w.heap.size + 2 ≤ W3.heap.size := by have := HB3.out.size; have := ZB.out; omega
        have HB4 := Aside0.mk (nd_grown_below hG HB3.out ZC z1.out)
        replace F2 := Aside0.mk (F2.out.keep hG n21.out)
        replace F3 := Aside0.mk (F3.out.keep hG n31.out)
        have P1 := Aside0.mk hP
        clear hP hG ZC HB3 F1
        rw [if_pos (by kernel_rfl)]
        refine oper_append_ran (.tmp 9) (.tmp 11) 22 rfl _ _ _ rfl rfl ap ?_
        simp only [Act.put, List.getElem_toArray, List.getElem_cons_zero, List.getElem_cons_succ, List.setIfInBounds_toArray, List.set_cons_zero, List.set_cons_succ]
        clear ap
        refine hK.out _ _ ?_ (fun hNew => ?_)
        · exact ⟨(HB4.out.cell (p := ⟨w.heap.size, 0, none⟩) (by show w.heap.size < _; omega)).trans B0.out, (HB4.out.cell (p := ⟨w.heap.size, 1, none⟩) (by show w.heap.size < _; omega)).trans B1.out, (HB4.out.cell (p := ⟨w.heap.size, 2, none⟩) (by show w.heap.size < _; omega)).trans B2.out, (HB4.out.cell (p := ⟨w.heap.size, 3, none⟩) (by show w.heap.size < _; omega)).trans B3.out⟩
        clear hK K hHeld
        have hHeld := hNew
        clear hNew
        refine wpAnyH_ready (rs := [17]) (by kernel_rfl) (by simp) ?_
        refine (AllReadyH.cons rfl (fun K hK => ?_) AllReadyH.nil)
        obtain ⟨W5, ap, hP, hG⟩ := appendAt (P := Try.prog) Kd.string flatS 23 9 (.string ⟨#[]⟩) 16 Try.underlying23 (by kernel_rfl) rfl (by decide) 23 W4 A0_2 c0_2 l0_2 g2 (Kd.C_below R2.out ((XB.out.trans (HB4.out.mono (by omega))))) F2.out
        have ZC : w.heap.size + 2 ≤ W4.heap.size := by have := HB4.out.size; have := ZB.out; omega
        have HB5 := Aside0.mk (nd_grown_below hG HB4.out ZC z2.out)
        replace P1 := Aside0.mk (P1.out.keep flat48 hG n12.out)
        replace F3 := Aside0.mk (F3.out.keep hG n32.out)
        have P2 := Aside0.mk hP
        clear hP hG ZC HB4 F2
        rw [if_pos (by kernel_rfl)]
        refine oper_append_ran (.tmp 17) (.tmp 19) 23 rfl _ _ _ rfl rfl ap ?_
        simp only [Act.put, List.getElem_toArray, List.getElem_cons_zero, List.getElem_cons_succ, List.setIfInBounds_toArray, List.set_cons_zero, List.set_cons_succ]
        clear ap
        refine hK.out _ _ ?_ (fun hNew => ?_)
        · exact ⟨(HB5.out.cell (p := ⟨w.heap.size, 0, none⟩) (by show w.heap.size < _; omega)).trans B0.out, (HB5.out.cell (p := ⟨w.heap.size, 1, none⟩) (by show w.heap.size < _; omega)).trans B1.out, (HB5.out.cell (p := ⟨w.heap.size, 2, none⟩) (by show w.heap.size < _; omega)).trans B2.out, (HB5.out.cell (p := ⟨w.heap.size, 3, none⟩) (by show w.heap.size < _; omega)).trans B3.out⟩
        clear hK K hHeld
        have hHeld := hNew
        clear hNew
        refine wpAnyH_ready (rs := [25]) (by kernel_rfl) (by simp) ?_
        refine (AllReadyH.cons rfl (fun K hK => ?_) AllReadyH.nil)
        obtain ⟨W6, ap, hP, hG⟩ := appendAt (P := Try.prog) (Kd.int .i64) flatI 24 3 (.int .i64 0) 8 Try.underlying24 (by kernel_rfl) rfl (by decide) 24 W5 A0_3 c0_3 l0_3 g3 (Kd.C_below R3.out ((XB.out.trans (HB5.out.mono (by omega))))) F3.out
        have ZC : w.heap.size + 2 ≤ W5.heap.size := by have := HB5.out.size; have := ZB.out; omega
        have HB6 := Aside0.mk (nd_grown_below hG HB5.out ZC z3.out)
        replace P1 := Aside0.mk (P1.out.keep flat48 hG n13.out)
        replace P2 := Aside0.mk (P2.out.keep flatS hG n23.out)
        have P3 := Aside0.mk hP
        clear hP hG ZC HB5 F3
        rw [if_pos (by kernel_rfl)]
        refine oper_append_ran (.tmp 25) (.tmp 27) 24 rfl _ _ _ rfl rfl ap ?_
        simp only [Act.put, List.getElem_toArray, List.getElem_cons_zero, List.getElem_cons_succ, List.setIfInBounds_toArray, List.set_cons_zero, List.set_cons_succ]
        clear ap
        refine hK.out _ _ ?_ (fun hNew => ?_)
        · exact ⟨(HB6.out.cell (p := ⟨w.heap.size, 0, none⟩) (by show w.heap.size < _; omega)).trans B0.out, (HB6.out.cell (p := ⟨w.heap.size, 1, none⟩) (by show w.heap.size < _; omega)).trans B1.out, (HB6.out.cell (p := ⟨w.heap.size, 2, none⟩) (by show w.heap.size < _; omega)).trans B2.out, (HB6.out.cell (p := ⟨w.heap.size, 3, none⟩) (by show w.heap.size < _; omega)).trans B3.out⟩
        clear hK K hHeld
        have hHeld := hNew
        clear hNew
        refine wpAnyH_take (i := 26) (oi := _) (v := _) rfl (by kernel_rfl) (by kernel_rfl) (by kernel_rfl) (fun _ _ _ h => h) (Or.inl ⟨by rfl, by (intro w hSw; (try dsimp only at hSw); go_simp; try with_reducible rfl)⟩) hHeld ?_
        simp only [Act.put, List.getElem_toArray, List.getElem_cons_zero, List.getElem_cons_succ, List.setIfInBounds_toArray, List.set_cons_zero, List.set_cons_succ]
        refine wpAnyH_ready (rs := [27]) (by kernel_rfl) (by simp) ?_
        refine AllReadyH.cons rfl (fun K hK => ?_) AllReadyH.nil
        have t6 : W6.heap[w.heap.size + 1]? = some (.cells #[.bool false, .slice none 0 0, .slice none 0 0, .slice none 0 0] 31 (0, 0)) := (HB6.out.block _ (by omega)).trans TB.out
        have c0 : W6.cell? ⟨w.heap.size + 1, 0, none⟩ = some (.bool false) := blk_cell t6 0
        have c1 : W6.cell? ⟨w.heap.size + 1, 1, none⟩ = some (.slice none 0 0) := blk_cell t6 1
        have c2 : W6.cell? ⟨w.heap.size + 1, 2, none⟩ = some (.slice none 0 0) := blk_cell t6 2
        have c3 : W6.cell? ⟨w.heap.size + 1, 3, none⟩ = some (.slice none 0 0) := blk_cell t6 3
        have f0 : W6.frozen? ⟨w.heap.size + 1, 0, none⟩ = false := blk_frozen t6 0
        have f1 : W6.frozen? ⟨w.heap.size + 1, 1, none⟩ = false := blk_frozen t6 1
        have f2 : W6.frozen? ⟨w.heap.size + 1, 2, none⟩ = false := blk_frozen t6 2
        have f3 : W6.frozen? ⟨w.heap.size + 1, 3, none⟩ = false := blk_frozen t6 3
        go_simp
        obtain ⟨W7, e7, t7, G7⟩ := nd_set4 W6 (w.heap.size + 1) 31 _ _ _ _ (.bool a0_0) (.slice (some ⟨g1, 0, none⟩) l0_1.length (l0_1.length + 1)) (.slice (some ⟨g2, 0, none⟩) l0_2.length (l0_2.length + 1)) (.slice (some ⟨g3, 0, none⟩) l0_3.length (l0_3.length + 1)) t6
        rw [← e7]
        have HB7 := Aside0.mk (nd_grown_below G7 (XB.out.trans (HB6.out.mono (by omega))) (by have := XB.out.size; have := HB6.out.size; omega) (by omega))
        have P1' := Aside0.mk (P1.out.keep flat48 G7 (by have := z1.out; omega))
        have P2' := Aside0.mk (P2.out.keep flatS G7 (by have := z2.out; omega))
        have P3' := Aside0.mk (P3.out.keep flatI G7 (by have := z3.out; omega))
        have r0 : W7.cell? ⟨w.heap.size + 1, 0, none⟩ = some (.bool a0_0) := blk_cell t7 0
        have r1 : W7.cell? ⟨w.heap.size + 1, 1, none⟩ = some (.slice (some ⟨g1, 0, none⟩) l0_1.length (l0_1.length + 1)) := blk_cell t7 1
        have r2 : W7.cell? ⟨w.heap.size + 1, 2, none⟩ = some (.slice (some ⟨g2, 0, none⟩) l0_2.length (l0_2.length + 1)) := blk_cell t7 2
        have r3 : W7.cell? ⟨w.heap.size + 1, 3, none⟩ = some (.slice (some ⟨g3, 0, none⟩) l0_3.length (l0_3.length + 1)) := blk_cell t7 3
        refine hK.out _ _ ⟨nd_grown_cell G7 (by show w.heap.size ≠ _; omega) hHeld.1, nd_grown_cell G7 (by show w.heap.size ≠ _; omega) hHeld.2.1, nd_grown_cell G7 (by show w.heap.size ≠ _; omega) hHeld.2.2.1, nd_grown_cell G7 (by show w.heap.size ≠ _; omega) hHeld.2.2.2⟩ (fun _ => ?_)
        clear hK K hHeld e7 G7 c0 c1 c2 c3 f0 f1 f2 f3 t6 P1 P2 P3 HB6
        refine wpAnyH_done (by kernel_rfl) ?_ _
        go_wp2
        refine bodyPost_ret (results_cell_row rfl _ _ (w.heap.size + 1) 31 #[.bool a0_0, .slice (some ⟨g1, 0, none⟩) l0_1.length (l0_1.length + 1), .slice (some ⟨g2, 0, none⟩) l0_2.length (l0_2.length + 1), .slice (some ⟨g3, 0, none⟩) l0_3.length (l0_3.length + 1)] (0, 0) _ rfl t7 Try.underlying31 rfl (by kernel_rfl)) rfl ?_
        exact ⟨g1, g2, g3, rfl, by have := z1.out; omega, by have := z2.out; omega, by have := z3.out; omega, n12.out, n13.out, n23.out, P1'.out, P2'.out, P3'.out, HB7.out⟩
    · obtain ⟨g3, W2, hg, mk, hF, hG⟩ := makeIn (P := Try.prog) (Kd.int .i64) 24 3 (.int .i64 0) 8 Try.underlying24 (by kernel_rfl) rfl W1 l0_3.length H3.out (by omega)
      have ZC : w.heap.size + 2 ≤ W1.heap.size := by have := HB1.out.size; have := ZB.out; omega
      have z3 : Aside0 (w.heap.size + 2 ≤ g3) := ⟨by omega⟩
      have n13 : Aside0 (g1 ≠ g3) := ⟨by have := F1.out.lt; omega⟩
      have n31 : Aside0 (g3 ≠ g1) := ⟨Ne.symm n13.out⟩
      have HB2 := Aside0.mk (nd_grown_below hG HB1.out ZC z3.out)
      replace F1 := Aside0.mk (F1.out.keep hG n13.out)
      have F3 := Aside0.mk hF
      clear hF hG hg ZC HB1
      go_simp
      clear mk
      refine hK.out _ _ ?_ (fun hNew => ?_)
      · exact ⟨(HB2.out.cell (p := ⟨w.heap.size, 0, none⟩) (by show w.heap.size < _; omega)).trans B0.out, (HB2.out.cell (p := ⟨w.heap.size, 1, none⟩) (by show w.heap.size < _; omega)).trans B1.out, (HB2.out.cell (p := ⟨w.heap.size, 2, none⟩) (by show w.heap.size < _; omega)).trans B2.out, (HB2.out.cell (p := ⟨w.heap.size, 3, none⟩) (by show w.heap.size < _; omega)).trans B3.out⟩
      clear hK K hHeld
      have hHeld := hNew
      clear hNew
      refine wpAnyH_ready (rs := [9, 14]) (by kernel_rfl) (by simp) ?_
      refine (AllReadyH.cons rfl (fun K hK => ?_) (AllReadyH.cons rfl (fun K hK => ?_) AllReadyH.nil))
      · obtain ⟨W3, ap, hP, hG⟩ := appendAt (P := Try.prog) k48 flat48 22 48 (.agg #[(.string ⟨#[]⟩), (.string ⟨#[]⟩)]) 32 Try.underlying22 (by kernel_rfl) rfl (by decide) 22 W2 A0_1 c0_1 l0_1 g1 (Kd.C_below R1.out ((XB.out.trans (HB2.out.mono (by omega))))) F1.out
        have ZC : w.heap.size + 2 ≤ W2.heap.size := by have := HB2.out.size; have := ZB.out; omega
        have HB3 := Aside0.mk (nd_grown_below hG HB2.out ZC z1.out)
        replace F3 := Aside0.mk (F3.out.keep hG n31.out)
        have P1 := Aside0.mk hP
        clear hP hG ZC HB2 F1
        rw [if_pos (by kernel_rfl)]
        refine oper_append_ran (.tmp 9) (.tmp 11) 22 rfl _ _ _ rfl rfl ap ?_
        simp only [Act.put, List.getElem_toArray, List.getElem_cons_zero, List.getElem_cons_succ, List.setIfInBounds_toArray, List.set_cons_zero, List.set_cons_succ]
        clear ap
        refine hK.out _ _ ?_ (fun hNew => ?_)
        · exact ⟨(HB3.out.cell (p := ⟨w.heap.size, 0, none⟩) (by show w.heap.size < _; omega)).trans B0.out, (HB3.out.cell (p := ⟨w.heap.size, 1, none⟩) (by show w.heap.size < _; omega)).trans B1.out, (HB3.out.cell (p := ⟨w.heap.size, 2, none⟩) (by show w.heap.size < _; omega)).trans B2.out, (HB3.out.cell (p := ⟨w.heap.size, 3, none⟩) (by show w.heap.size < _; omega)).trans B3.out⟩
        clear hK K hHeld
        have hHeld := hNew
        clear hNew
        refine wpAnyH_ready (rs := [14]) (by kernel_rfl) (by simp) ?_
        refine (AllReadyH.cons rfl (fun K hK => ?_) AllReadyH.nil)
        obtain ⟨g2, W4, hg, mk, hF, hG⟩ := makeIn (P := Try.prog) Kd.string 23 9 (.string ⟨#[]⟩) 16 Try.underlying23 (by kernel_rfl) rfl W3 l0_2.length H2.out (by omega)
        have ZC : w.heap.size + 2 ≤ W3.heap.size := by have := HB3.out.size; have := ZB.out; omega
        have z2 : Aside0 (w.heap.size + 2 ≤ g2) := ⟨by omega⟩
        have n12 : Aside0 (g1 ≠ g2) := ⟨by have := P1.out.lt; omega⟩
        have n32 : Aside0 (g3 ≠ g2) := ⟨by have := F3.out.lt; omega⟩
        have n21 : Aside0 (g2 ≠ g1) := ⟨Ne.symm n12.out⟩
        have n23 : Aside0 (g2 ≠ g3) := ⟨Ne.symm n32.out⟩
        have HB4 := Aside0.mk (nd_grown_below hG HB3.out ZC z2.out)
        replace P1 := Aside0.mk (P1.out.keep flat48 hG n12.out)
        replace F3 := Aside0.mk (F3.out.keep hG n32.out)
        have F2 := Aside0.mk hF
        clear hF hG hg ZC HB3
        go_simp
        clear mk
        refine hK.out _ _ ?_ (fun hNew => ?_)
        · exact ⟨(HB4.out.cell (p := ⟨w.heap.size, 0, none⟩) (by show w.heap.size < _; omega)).trans B0.out, (HB4.out.cell (p := ⟨w.heap.size, 1, none⟩) (by show w.heap.size < _; omega)).trans B1.out, (HB4.out.cell (p := ⟨w.heap.size, 2, none⟩) (by show w.heap.size < _; omega)).trans B2.out, (HB4.out.cell (p := ⟨w.heap.size, 3, none⟩) (by show w.heap.size < _; omega)).trans B3.out⟩
        clear hK K hHeld
        have hHeld := hNew
        clear hNew
        refine wpAnyH_ready (rs := [17]) (by kernel_rfl) (by simp) ?_
        refine (AllReadyH.cons rfl (fun K hK => ?_) AllReadyH.nil)
        obtain ⟨W5, ap, hP, hG⟩ := appendAt (P := Try.prog) Kd.string flatS 23 9 (.string ⟨#[]⟩) 16 Try.underlying23 (by kernel_rfl) rfl (by decide) 23 W4 A0_2 c0_2 l0_2 g2 (Kd.C_below R2.out ((XB.out.trans (HB4.out.mono (by omega))))) F2.out
        have ZC : w.heap.size + 2 ≤ W4.heap.size := by have := HB4.out.size; have := ZB.out; omega
        have HB5 := Aside0.mk (nd_grown_below hG HB4.out ZC z2.out)
        replace P1 := Aside0.mk (P1.out.keep flat48 hG n12.out)
        replace F3 := Aside0.mk (F3.out.keep hG n32.out)
        have P2 := Aside0.mk hP
        clear hP hG ZC HB4 F2
        rw [if_pos (by kernel_rfl)]
        refine oper_append_ran (.tmp 17) (.tmp 19) 23 rfl _ _ _ rfl rfl ap ?_
        simp only [Act.put, List.getElem_toArray, List.getElem_cons_zero, List.getElem_cons_succ, List.setIfInBounds_toArray, List.set_cons_zero, List.set_cons_succ]
        clear ap
        refine hK.out _ _ ?_ (fun hNew => ?_)
        · exact ⟨(HB5.out.cell (p := ⟨w.heap.size, 0, none⟩) (by show w.heap.size < _; omega)).trans B0.out, (HB5.out.cell (p := ⟨w.heap.size, 1, none⟩) (by show w.heap.size < _; omega)).trans B1.out, (HB5.out.cell (p := ⟨w.heap.size, 2, none⟩) (by show w.heap.size < _; omega)).trans B2.out, (HB5.out.cell (p := ⟨w.heap.size, 3, none⟩) (by show w.heap.size < _; omega)).trans B3.out⟩
        clear hK K hHeld
        have hHeld := hNew
        clear hNew
        refine wpAnyH_ready (rs := [25]) (by kernel_rfl) (by simp) ?_
        refine (AllReadyH.cons rfl (fun K hK => ?_) AllReadyH.nil)
        obtain ⟨W6, ap, hP, hG⟩ := appendAt (P := Try.prog) (Kd.int .i64) flatI 24 3 (.int .i64 0) 8 Try.underlying24 (by kernel_rfl) rfl (by decide) 24 W5 A0_3 c0_3 l0_3 g3 (Kd.C_below R3.out ((XB.out.trans (HB5.out.mono (by omega))))) F3.out
        have ZC : w.heap.size + 2 ≤ W5.heap.size := by have := HB5.out.size; have := ZB.out; omega
        have HB6 := Aside0.mk (nd_grown_below hG HB5.out ZC z3.out)
        replace P1 := Aside0.mk (P1.out.keep flat48 hG n13.out)
        replace P2 := Aside0.mk (P2.out.keep flatS hG n23.out)
        have P3 := Aside0.mk hP
        clear hP hG ZC HB5 F3
        rw [if_pos (by kernel_rfl)]
        refine oper_append_ran (.tmp 25) (.tmp 27) 24 rfl _ _ _ rfl rfl ap ?_
        simp only [Act.put, List.getElem_toArray, List.getElem_cons_zero, List.getElem_cons_succ, List.setIfInBounds_toArray, List.set_cons_zero, List.set_cons_succ]
        clear ap
        refine hK.out _ _ ?_ (fun hNew => ?_)
        · exact ⟨(HB6.out.cell (p := ⟨w.heap.size, 0, none⟩) (by show w.heap.size < _; omega)).trans B0.out, (HB6.out.cell (p := ⟨w.heap.size, 1, none⟩) (by show w.heap.size < _; omega)).trans B1.out, (HB6.out.cell (p := ⟨w.heap.size, 2, none⟩) (by show w.heap.size < _; omega)).trans B2.out, (HB6.out.cell (p := ⟨w.heap.size, 3, none⟩) (by show w.heap.size < _; omega)).trans B3.out⟩
        clear hK K hHeld
        have hHeld := hNew
        clear hNew
        refine wpAnyH_take (i := 26) (oi := _) (v := _) rfl (by kernel_rfl) (by kernel_rfl) (by kernel_rfl) (fun _ _ _ h => h) (Or.inl ⟨by rfl, by (intro w hSw; (try dsimp only at hSw); go_simp; try with_reducible rfl)⟩) hHeld ?_
        simp only [Act.put, List.getElem_toArray, List.getElem_cons_zero, List.getElem_cons_succ, List.setIfInBounds_toArray, List.set_cons_zero, List.set_cons_succ]
        refine wpAnyH_ready (rs := [27]) (by kernel_rfl) (by simp) ?_
        refine AllReadyH.cons rfl (fun K hK => ?_) AllReadyH.nil
        have t6 : W6.heap[w.heap.size + 1]? = some (.cells #[.bool false, .slice none 0 0, .slice none 0 0, .slice none 0 0] 31 (0, 0)) := (HB6.out.block _ (by omega)).trans TB.out
        have c0 : W6.cell? ⟨w.heap.size + 1, 0, none⟩ = some (.bool false) := blk_cell t6 0
        have c1 : W6.cell? ⟨w.heap.size + 1, 1, none⟩ = some (.slice none 0 0) := blk_cell t6 1
        have c2 : W6.cell? ⟨w.heap.size + 1, 2, none⟩ = some (.slice none 0 0) := blk_cell t6 2
        have c3 : W6.cell? ⟨w.heap.size + 1, 3, none⟩ = some (.slice none 0 0) := blk_cell t6 3
        have f0 : W6.frozen? ⟨w.heap.size + 1, 0, none⟩ = false := blk_frozen t6 0
        have f1 : W6.frozen? ⟨w.heap.size + 1, 1, none⟩ = false := blk_frozen t6 1
        have f2 : W6.frozen? ⟨w.heap.size + 1, 2, none⟩ = false := blk_frozen t6 2
        have f3 : W6.frozen? ⟨w.heap.size + 1, 3, none⟩ = false := blk_frozen t6 3
        go_simp
        obtain ⟨W7, e7, t7, G7⟩ := nd_set4 W6 (w.heap.size + 1) 31 _ _ _ _ (.bool a0_0) (.slice (some ⟨g1, 0, none⟩) l0_1.length (l0_1.length + 1)) (.slice (some ⟨g2, 0, none⟩) l0_2.length (l0_2.length + 1)) (.slice (some ⟨g3, 0, none⟩) l0_3.length (l0_3.length + 1)) t6
        rw [← e7]
        have HB7 := Aside0.mk (nd_grown_below G7 (XB.out.trans (HB6.out.mono (by omega))) (by have := XB.out.size; have := HB6.out.size; omega) (by omega))
        have P1' := Aside0.mk (P1.out.keep flat48 G7 (by have := z1.out; omega))
        have P2' := Aside0.mk (P2.out.keep flatS G7 (by have := z2.out; omega))
        have P3' := Aside0.mk (P3.out.keep flatI G7 (by have := z3.out; omega))
        have r0 : W7.cell? ⟨w.heap.size + 1, 0, none⟩ = some (.bool a0_0) := blk_cell t7 0
        have r1 : W7.cell? ⟨w.heap.size + 1, 1, none⟩ = some (.slice (some ⟨g1, 0, none⟩) l0_1.length (l0_1.length + 1)) := blk_cell t7 1
        have r2 : W7.cell? ⟨w.heap.size + 1, 2, none⟩ = some (.slice (some ⟨g2, 0, none⟩) l0_2.length (l0_2.length + 1)) := blk_cell t7 2
        have r3 : W7.cell? ⟨w.heap.size + 1, 3, none⟩ = some (.slice (some ⟨g3, 0, none⟩) l0_3.length (l0_3.length + 1)) := blk_cell t7 3
        refine hK.out _ _ ⟨nd_grown_cell G7 (by show w.heap.size ≠ _; omega) hHeld.1, nd_grown_cell G7 (by show w.heap.size ≠ _; omega) hHeld.2.1, nd_grown_cell G7 (by show w.heap.size ≠ _; omega) hHeld.2.2.1, nd_grown_cell G7 (by show w.heap.size ≠ _; omega) hHeld.2.2.2⟩ (fun _ => ?_)
        clear hK K hHeld e7 G7 c0 c1 c2 c3 f0 f1 f2 f3 t6 P1 P2 P3 HB6
        refine wpAnyH_done (by kernel_rfl) ?_ _
        go_wp2
        refine bodyPost_ret (results_cell_row rfl _ _ (w.heap.size + 1) 31 #[.bool a0_0, .slice (some ⟨g1, 0, none⟩) l0_1.length (l0_1.length + 1), .slice (some ⟨g2, 0, none⟩) l0_2.length (l0_2.length + 1), .slice (some ⟨g3, 0, none⟩) l0_3.length (l0_3.length + 1)] (0, 0) _ rfl t7 Try.underlying31 rfl (by kernel_rfl)) rfl ?_
        exact ⟨g1, g2, g3, rfl, by have := z1.out; omega, by have := z2.out; omega, by have := z3.out; omega, n12.out, n13.out, n23.out, P1'.out, P2'.out, P3'.out, HB7.out⟩
      · obtain ⟨g2, W3, hg, mk, hF, hG⟩ := makeIn (P := Try.prog) Kd.string 23 9 (.string ⟨#[]⟩) 16 Try.underlying23 (by kernel_rfl) rfl W2 l0_2.length H2.out (by omega)
        have ZC : w.heap.size + 2 ≤ W2.heap.size := by have := HB2.out.size; have := ZB.out; omega
        have z2 : Aside0 (w.heap.size + 2 ≤ g2) := ⟨by omega⟩
        have n12 : Aside0 (g1 ≠ g2) := ⟨by have := F1.out.lt; omega⟩
        have n32 : Aside0 (g3 ≠ g2) := ⟨by have := F3.out.lt; omega⟩
        have n21 : Aside0 (g2 ≠ g1) := ⟨Ne.symm n12.out⟩
        have n23 : Aside0 (g2 ≠ g3) := ⟨Ne.symm n32.out⟩
        have HB3 := Aside0.mk (nd_grown_below hG HB2.out ZC z2.out)
        replace F1 := Aside0.mk (F1.out.keep hG n12.out)
        replace F3 := Aside0.mk (F3.out.keep hG n32.out)
        have F2 := Aside0.mk hF
        clear hF hG hg ZC HB2
        go_simp
        clear mk
        refine hK.out _ _ ?_ (fun hNew => ?_)
        · exact ⟨(HB3.out.cell (p := ⟨w.heap.size, 0, none⟩) (by show w.heap.size < _; omega)).trans B0.out, (HB3.out.cell (p := ⟨w.heap.size, 1, none⟩) (by show w.heap.size < _; omega)).trans B1.out, (HB3.out.cell (p := ⟨w.heap.size, 2, none⟩) (by show w.heap.size < _; omega)).trans B2.out, (HB3.out.cell (p := ⟨w.heap.size, 3, none⟩) (by show w.heap.size < _; omega)).trans B3.out⟩
        clear hK K hHeld
        have hHeld := hNew
        clear hNew
        refine wpAnyH_ready (rs := [9]) (by kernel_rfl) (by simp) ?_
        refine (AllReadyH.cons rfl (fun K hK => ?_) AllReadyH.nil)
        obtain ⟨W4, ap, hP, hG⟩ := appendAt (P := Try.prog) k48 flat48 22 48 (.agg #[(.string ⟨#[]⟩), (.string ⟨#[]⟩)]) 32 Try.underlying22 (by kernel_rfl) rfl (by decide) 22 W3 A0_1 c0_1 l0_1 g1 (Kd.C_below R1.out ((XB.out.trans (HB3.out.mono (by omega))))) F1.out
        have ZC : w.heap.size + 2 ≤ W3.heap.size := by have := HB3.out.size; have := ZB.out; omega
        have HB4 := Aside0.mk (nd_grown_below hG HB3.out ZC z1.out)
        replace F2 := Aside0.mk (F2.out.keep hG n21.out)
        replace F3 := Aside0.mk (F3.out.keep hG n31.out)
        have P1 := Aside0.mk hP
        clear hP hG ZC HB3 F1
        rw [if_pos (by kernel_rfl)]
        refine oper_append_ran (.tmp 9) (.tmp 11) 22 rfl _ _ _ rfl rfl ap ?_
        simp only [Act.put, List.getElem_toArray, List.getElem_cons_zero, List.getElem_cons_succ, List.setIfInBounds_toArray, List.set_cons_zero, List.set_cons_succ]
        clear ap
        refine hK.out _ _ ?_ (fun hNew => ?_)
        · exact ⟨(HB4.out.cell (p := ⟨w.heap.size, 0, none⟩) (by show w.heap.size < _; omega)).trans B0.out, (HB4.out.cell (p := ⟨w.heap.size, 1, none⟩) (by show w.heap.size < _; omega)).trans B1.out, (HB4.out.cell (p := ⟨w.heap.size, 2, none⟩) (by show w.heap.size < _; omega)).trans B2.out, (HB4.out.cell (p := ⟨w.heap.size, 3, none⟩) (by show w.heap.size < _; omega)).trans B3.out⟩
        clear hK K hHeld
        have hHeld := hNew
        clear hNew
        refine wpAnyH_ready (rs := [17]) (by kernel_rfl) (by simp) ?_
        refine (AllReadyH.cons rfl (fun K hK => ?_) AllReadyH.nil)
        obtain ⟨W5, ap, hP, hG⟩ := appendAt (P := Try.prog) Kd.string flatS 23 9 (.string ⟨#[]⟩) 16 Try.underlying23 (by kernel_rfl) rfl (by decide) 23 W4 A0_2 c0_2 l0_2 g2 (Kd.C_below R2.out ((XB.out.trans (HB4.out.mono (by omega))))) F2.out
        have ZC : w.heap.size + 2 ≤ W4.heap.size := by have := HB4.out.size; have := ZB.out; omega
        have HB5 := Aside0.mk (nd_grown_below hG HB4.out ZC z2.out)
        replace P1 := Aside0.mk (P1.out.keep flat48 hG n12.out)
        replace F3 := Aside0.mk (F3.out.keep hG n32.out)
        have P2 := Aside0.mk hP
        clear hP hG ZC HB4 F2
        rw [if_pos (by kernel_rfl)]
        refine oper_append_ran (.tmp 17) (.tmp 19) 23 rfl _ _ _ rfl rfl ap ?_
        simp only [Act.put, List.getElem_toArray, List.getElem_cons_zero, List.getElem_cons_succ, List.setIfInBounds_toArray, List.set_cons_zero, List.set_cons_succ]
        clear ap
        refine hK.out _ _ ?_ (fun hNew => ?_)
        · exact ⟨(HB5.out.cell (p := ⟨w.heap.size, 0, none⟩) (by show w.heap.size < _; omega)).trans B0.out, (HB5.out.cell (p := ⟨w.heap.size, 1, none⟩) (by show w.heap.size < _; omega)).trans B1.out, (HB5.out.cell (p := ⟨w.heap.size, 2, none⟩) (by show w.heap.size < _; omega)).trans B2.out, (HB5.out.cell (p := ⟨w.heap.size, 3, none⟩) (by show w.heap.size < _; omega)).trans B3.out⟩
        clear hK K hHeld
        have hHeld := hNew
        clear hNew
        refine wpAnyH_ready (rs := [25]) (by kernel_rfl) (by simp) ?_
        refine (AllReadyH.cons rfl (fun K hK => ?_) AllReadyH.nil)
        obtain ⟨W6, ap, hP, hG⟩ := appendAt (P := Try.prog) (Kd.int .i64) flatI 24 3 (.int .i64 0) 8 Try.underlying24 (by kernel_rfl) rfl (by decide) 24 W5 A0_3 c0_3 l0_3 g3 (Kd.C_below R3.out ((XB.out.trans (HB5.out.mono (by omega))))) F3.out
        have ZC : w.heap.size + 2 ≤ W5.heap.size := by have := HB5.out.size; have := ZB.out; omega
        have HB6 := Aside0.mk (nd_grown_below hG HB5.out ZC z3.out)
        replace P1 := Aside0.mk (P1.out.keep flat48 hG n13.out)
        replace P2 := Aside0.mk (P2.out.keep flatS hG n23.out)
        have P3 := Aside0.mk hP
        clear hP hG ZC HB5 F3
        rw [if_pos (by kernel_rfl)]
        refine oper_append_ran (.tmp 25) (.tmp 27) 24 rfl _ _ _ rfl rfl ap ?_
        simp only [Act.put, List.getElem_toArray, List.getElem_cons_zero, List.getElem_cons_succ, List.setIfInBounds_toArray, List.set_cons_zero, List.set_cons_succ]
        clear ap
        refine hK.out _ _ ?_ (fun hNew => ?_)
        · exact ⟨(HB6.out.cell (p := ⟨w.heap.size, 0, none⟩) (by show w.heap.size < _; omega)).trans B0.out, (HB6.out.cell (p := ⟨w.heap.size, 1, none⟩) (by show w.heap.size < _; omega)).trans B1.out, (HB6.out.cell (p := ⟨w.heap.size, 2, none⟩) (by show w.heap.size < _; omega)).trans B2.out, (HB6.out.cell (p := ⟨w.heap.size, 3, none⟩) (by show w.heap.size < _; omega)).trans B3.out⟩
        clear hK K hHeld
        have hHeld := hNew
        clear hNew
        refine wpAnyH_take (i := 26) (oi := _) (v := _) rfl (by kernel_rfl) (by kernel_rfl) (by kernel_rfl) (fun _ _ _ h => h) (Or.inl ⟨by rfl, by (intro w hSw; (try dsimp only at hSw); go_simp; try with_reducible rfl)⟩) hHeld ?_
        simp only [Act.put, List.getElem_toArray, List.getElem_cons_zero, List.getElem_cons_succ, List.setIfInBounds_toArray, List.set_cons_zero, List.set_cons_succ]
        refine wpAnyH_ready (rs := [27]) (by kernel_rfl) (by simp) ?_
        refine AllReadyH.cons rfl (fun K hK => ?_) AllReadyH.nil
        have t6 : W6.heap[w.heap.size + 1]? = some (.cells #[.bool false, .slice none 0 0, .slice none 0 0, .slice none 0 0] 31 (0, 0)) := (HB6.out.block _ (by omega)).trans TB.out
        have c0 : W6.cell? ⟨w.heap.size + 1, 0, none⟩ = some (.bool false) := blk_cell t6 0
        have c1 : W6.cell? ⟨w.heap.size + 1, 1, none⟩ = some (.slice none 0 0) := blk_cell t6 1
        have c2 : W6.cell? ⟨w.heap.size + 1, 2, none⟩ = some (.slice none 0 0) := blk_cell t6 2
        have c3 : W6.cell? ⟨w.heap.size + 1, 3, none⟩ = some (.slice none 0 0) := blk_cell t6 3
        have f0 : W6.frozen? ⟨w.heap.size + 1, 0, none⟩ = false := blk_frozen t6 0
        have f1 : W6.frozen? ⟨w.heap.size + 1, 1, none⟩ = false := blk_frozen t6 1
        have f2 : W6.frozen? ⟨w.heap.size + 1, 2, none⟩ = false := blk_frozen t6 2
        have f3 : W6.frozen? ⟨w.heap.size + 1, 3, none⟩ = false := blk_frozen t6 3
        go_simp
        obtain ⟨W7, e7, t7, G7⟩ := nd_set4 W6 (w.heap.size + 1) 31 _ _ _ _ (.bool a0_0) (.slice (some ⟨g1, 0, none⟩) l0_1.length (l0_1.length + 1)) (.slice (some ⟨g2, 0, none⟩) l0_2.length (l0_2.length + 1)) (.slice (some ⟨g3, 0, none⟩) l0_3.length (l0_3.length + 1)) t6
        rw [← e7]
        have HB7 := Aside0.mk (nd_grown_below G7 (XB.out.trans (HB6.out.mono (by omega))) (by have := XB.out.size; have := HB6.out.size; omega) (by omega))
        have P1' := Aside0.mk (P1.out.keep flat48 G7 (by have := z1.out; omega))
        have P2' := Aside0.mk (P2.out.keep flatS G7 (by have := z2.out; omega))
        have P3' := Aside0.mk (P3.out.keep flatI G7 (by have := z3.out; omega))
        have r0 : W7.cell? ⟨w.heap.size + 1, 0, none⟩ = some (.bool a0_0) := blk_cell t7 0
        have r1 : W7.cell? ⟨w.heap.size + 1, 1, none⟩ = some (.slice (some ⟨g1, 0, none⟩) l0_1.length (l0_1.length + 1)) := blk_cell t7 1
        have r2 : W7.cell? ⟨w.heap.size + 1, 2, none⟩ = some (.slice (some ⟨g2, 0, none⟩) l0_2.length (l0_2.length + 1)) := blk_cell t7 2
        have r3 : W7.cell? ⟨w.heap.size + 1, 3, none⟩ = some (.slice (some ⟨g3, 0, none⟩) l0_3.length (l0_3.length + 1)) := blk_cell t7 3
        refine hK.out _ _ ⟨nd_grown_cell G7 (by show w.heap.size ≠ _; omega) hHeld.1, nd_grown_cell G7 (by show w.heap.size ≠ _; omega) hHeld.2.1, nd_grown_cell G7 (by show w.heap.size ≠ _; omega) hHeld.2.2.1, nd_grown_cell G7 (by show w.heap.size ≠ _; omega) hHeld.2.2.2⟩ (fun _ => ?_)
        clear hK K hHeld e7 G7 c0 c1 c2 c3 f0 f1 f2 f3 t6 P1 P2 P3 HB6
        refine wpAnyH_done (by kernel_rfl) ?_ _
        go_wp2
        refine bodyPost_ret (results_cell_row rfl _ _ (w.heap.size + 1) 31 #[.bool a0_0, .slice (some ⟨g1, 0, none⟩) l0_1.length (l0_1.length + 1), .slice (some ⟨g2, 0, none⟩) l0_2.length (l0_2.length + 1), .slice (some ⟨g3, 0, none⟩) l0_3.length (l0_3.length + 1)] (0, 0) _ rfl t7 Try.underlying31 rfl (by kernel_rfl)) rfl ?_
        exact ⟨g1, g2, g3, rfl, by have := z1.out; omega, by have := z2.out; omega, by have := z3.out; omega, n12.out, n13.out, n23.out, P1'.out, P2'.out, P3'.out, HB7.out⟩
  · obtain ⟨g2, W1, hg, mk, hF, hG⟩ := makeIn (P := Try.prog) Kd.string 23 9 (.string ⟨#[]⟩) 16 Try.underlying23 (by kernel_rfl) rfl W0 l0_2.length H2.out (by omega)
    have ZC : w.heap.size + 2 ≤ W0.heap.size := by have := HB0.out.size; have := ZB.out; omega
    have z2 : Aside0 (w.heap.size + 2 ≤ g2) := ⟨by omega⟩
    have HB1 := Aside0.mk (nd_grown_below hG HB0.out ZC z2.out)
    have F2 := Aside0.mk hF
    clear hF hG hg ZC HB0
    go_simp
    clear mk
    refine hK.out _ _ ?_ (fun hNew => ?_)
    · exact ⟨(HB1.out.cell (p := ⟨w.heap.size, 0, none⟩) (by show w.heap.size < _; omega)).trans B0.out, (HB1.out.cell (p := ⟨w.heap.size, 1, none⟩) (by show w.heap.size < _; omega)).trans B1.out, (HB1.out.cell (p := ⟨w.heap.size, 2, none⟩) (by show w.heap.size < _; omega)).trans B2.out, (HB1.out.cell (p := ⟨w.heap.size, 3, none⟩) (by show w.heap.size < _; omega)).trans B3.out⟩
    clear hK K hHeld
    have hHeld := hNew
    clear hNew
    refine wpAnyH_ready (rs := [6, 22]) (by kernel_rfl) (by simp) ?_
    refine (AllReadyH.cons rfl (fun K hK => ?_) (AllReadyH.cons rfl (fun K hK => ?_) AllReadyH.nil))
    · obtain ⟨g1, W2, hg, mk, hF, hG⟩ := makeIn (P := Try.prog) k48 22 48 (.agg #[(.string ⟨#[]⟩), (.string ⟨#[]⟩)]) 32 Try.underlying22 (by kernel_rfl) rfl W1 l0_1.length H1.out (by omega)
      have ZC : w.heap.size + 2 ≤ W1.heap.size := by have := HB1.out.size; have := ZB.out; omega
      have z1 : Aside0 (w.heap.size + 2 ≤ g1) := ⟨by omega⟩
      have n21 : Aside0 (g2 ≠ g1) := ⟨by have := F2.out.lt; omega⟩
      have n12 : Aside0 (g1 ≠ g2) := ⟨Ne.symm n21.out⟩
      have HB2 := Aside0.mk (nd_grown_below hG HB1.out ZC z1.out)
      replace F2 := Aside0.mk (F2.out.keep hG n21.out)
      have F1 := Aside0.mk hF
      clear hF hG hg ZC HB1
      go_simp
      clear mk
      refine hK.out _ _ ?_ (fun hNew => ?_)
      · exact ⟨(HB2.out.cell (p := ⟨w.heap.size, 0, none⟩) (by show w.heap.size < _; omega)).trans B0.out, (HB2.out.cell (p := ⟨w.heap.size, 1, none⟩) (by show w.heap.size < _; omega)).trans B1.out, (HB2.out.cell (p := ⟨w.heap.size, 2, none⟩) (by show w.heap.size < _; omega)).trans B2.out, (HB2.out.cell (p := ⟨w.heap.size, 3, none⟩) (by show w.heap.size < _; omega)).trans B3.out⟩
      clear hK K hHeld
      have hHeld := hNew
      clear hNew
      refine wpAnyH_ready (rs := [9, 22]) (by kernel_rfl) (by simp) ?_
      refine (AllReadyH.cons rfl (fun K hK => ?_) (AllReadyH.cons rfl (fun K hK => ?_) AllReadyH.nil))
      · obtain ⟨W3, ap, hP, hG⟩ := appendAt (P := Try.prog) k48 flat48 22 48 (.agg #[(.string ⟨#[]⟩), (.string ⟨#[]⟩)]) 32 Try.underlying22 (by kernel_rfl) rfl (by decide) 22 W2 A0_1 c0_1 l0_1 g1 (Kd.C_below R1.out ((XB.out.trans (HB2.out.mono (by omega))))) F1.out
        have ZC : w.heap.size + 2 ≤ W2.heap.size := by have := HB2.out.size; have := ZB.out; omega
        have HB3 := Aside0.mk (nd_grown_below hG HB2.out ZC z1.out)
        replace F2 := Aside0.mk (F2.out.keep hG n21.out)
        have P1 := Aside0.mk hP
        clear hP hG ZC HB2 F1
        rw [if_pos (by kernel_rfl)]
        refine oper_append_ran (.tmp 9) (.tmp 11) 22 rfl _ _ _ rfl rfl ap ?_
        simp only [Act.put, List.getElem_toArray, List.getElem_cons_zero, List.getElem_cons_succ, List.setIfInBounds_toArray, List.set_cons_zero, List.set_cons_succ]
        clear ap
        refine hK.out _ _ ?_ (fun hNew => ?_)
        · exact ⟨(HB3.out.cell (p := ⟨w.heap.size, 0, none⟩) (by show w.heap.size < _; omega)).trans B0.out, (HB3.out.cell (p := ⟨w.heap.size, 1, none⟩) (by show w.heap.size < _; omega)).trans B1.out, (HB3.out.cell (p := ⟨w.heap.size, 2, none⟩) (by show w.heap.size < _; omega)).trans B2.out, (HB3.out.cell (p := ⟨w.heap.size, 3, none⟩) (by show w.heap.size < _; omega)).trans B3.out⟩
        clear hK K hHeld
        have hHeld := hNew
        clear hNew
        refine wpAnyH_ready (rs := [17, 22]) (by kernel_rfl) (by simp) ?_
        refine (AllReadyH.cons rfl (fun K hK => ?_) (AllReadyH.cons rfl (fun K hK => ?_) AllReadyH.nil))
        · obtain ⟨W4, ap, hP, hG⟩ := appendAt (P := Try.prog) Kd.string flatS 23 9 (.string ⟨#[]⟩) 16 Try.underlying23 (by kernel_rfl) rfl (by decide) 23 W3 A0_2 c0_2 l0_2 g2 (Kd.C_below R2.out ((XB.out.trans (HB3.out.mono (by omega))))) F2.out
          have ZC : w.heap.size + 2 ≤ W3.heap.size := by have := HB3.out.size; have := ZB.out; omega
          have HB4 := Aside0.mk (nd_grown_below hG HB3.out ZC z2.out)
          replace P1 := Aside0.mk (P1.out.keep flat48 hG n12.out)
          have P2 := Aside0.mk hP
          clear hP hG ZC HB3 F2
          rw [if_pos (by kernel_rfl)]
          refine oper_append_ran (.tmp 17) (.tmp 19) 23 rfl _ _ _ rfl rfl ap ?_
          simp only [Act.put, List.getElem_toArray, List.getElem_cons_zero, List.getElem_cons_succ, List.setIfInBounds_toArray, List.set_cons_zero, List.set_cons_succ]
          clear ap
          refine hK.out _ _ ?_ (fun hNew => ?_)
          · exact ⟨(HB4.out.cell (p := ⟨w.heap.size, 0, none⟩) (by show w.heap.size < _; omega)).trans B0.out, (HB4.out.cell (p := ⟨w.heap.size, 1, none⟩) (by show w.heap.size < _; omega)).trans B1.out, (HB4.out.cell (p := ⟨w.heap.size, 2, none⟩) (by show w.heap.size < _; omega)).trans B2.out, (HB4.out.cell (p := ⟨w.heap.size, 3, none⟩) (by show w.heap.size < _; omega)).trans B3.out⟩
          clear hK K hHeld
          have hHeld := hNew
          clear hNew
          refine wpAnyH_ready (rs := [22]) (by kernel_rfl) (by simp) ?_
          refine (AllReadyH.cons rfl (fun K hK => ?_) AllReadyH.nil)
          obtain ⟨g3, W5, hg, mk, hF, hG⟩ := makeIn (P := Try.prog) (Kd.int .i64) 24 3 (.int .i64 0) 8 Try.underlying24 (by kernel_rfl) rfl W4 l0_3.length H3.out (by omega)
          have ZC : w.heap.size + 2 ≤ W4.heap.size := by have := HB4.out.size; have := ZB.out; omega
          have z3 : Aside0 (w.heap.size + 2 ≤ g3) := ⟨by omega⟩
          have n13 : Aside0 (g1 ≠ g3) := ⟨by have := P1.out.lt; omega⟩
          have n23 : Aside0 (g2 ≠ g3) := ⟨by have := P2.out.lt; omega⟩
          have n31 : Aside0 (g3 ≠ g1) := ⟨Ne.symm n13.out⟩
          have n32 : Aside0 (g3 ≠ g2) := ⟨Ne.symm n23.out⟩
          have HB5 := Aside0.mk (nd_grown_below hG HB4.out ZC z3.out)
          replace P1 := Aside0.mk (P1.out.keep flat48 hG n13.out)
          replace P2 := Aside0.mk (P2.out.keep flatS hG n23.out)
          have F3 := Aside0.mk hF
          clear hF hG hg ZC HB4
          go_simp
          clear mk
          refine hK.out _ _ ?_ (fun hNew => ?_)
          · exact ⟨(HB5.out.cell (p := ⟨w.heap.size, 0, none⟩) (by show w.heap.size < _; omega)).trans B0.out, (HB5.out.cell (p := ⟨w.heap.size, 1, none⟩) (by show w.heap.size < _; omega)).trans B1.out, (HB5.out.cell (p := ⟨w.heap.size, 2, none⟩) (by show w.heap.size < _; omega)).trans B2.out, (HB5.out.cell (p := ⟨w.heap.size, 3, none⟩) (by show w.heap.size < _; omega)).trans B3.out⟩
          clear hK K hHeld
          have hHeld := hNew
          clear hNew
          refine wpAnyH_ready (rs := [25]) (by kernel_rfl) (by simp) ?_
          refine (AllReadyH.cons rfl (fun K hK => ?_) AllReadyH.nil)
          obtain ⟨W6, ap, hP, hG⟩ := appendAt (P := Try.prog) (Kd.int .i64) flatI 24 3 (.int .i64 0) 8 Try.underlying24 (by kernel_rfl) rfl (by decide) 24 W5 A0_3 c0_3 l0_3 g3 (Kd.C_below R3.out ((XB.out.trans (HB5.out.mono (by omega))))) F3.out
          have ZC : w.heap.size + 2 ≤ W5.heap.size := by have := HB5.out.size; have := ZB.out; omega
          have HB6 := Aside0.mk (nd_grown_below hG HB5.out ZC z3.out)
          replace P1 := Aside0.mk (P1.out.keep flat48 hG n13.out)
          replace P2 := Aside0.mk (P2.out.keep flatS hG n23.out)
          have P3 := Aside0.mk hP
          clear hP hG ZC HB5 F3
          rw [if_pos (by kernel_rfl)]
          refine oper_append_ran (.tmp 25) (.tmp 27) 24 rfl _ _ _ rfl rfl ap ?_
          simp only [Act.put, List.getElem_toArray, List.getElem_cons_zero, List.getElem_cons_succ, List.setIfInBounds_toArray, List.set_cons_zero, List.set_cons_succ]
          clear ap
          refine hK.out _ _ ?_ (fun hNew => ?_)
          · exact ⟨(HB6.out.cell (p := ⟨w.heap.size, 0, none⟩) (by show w.heap.size < _; omega)).trans B0.out, (HB6.out.cell (p := ⟨w.heap.size, 1, none⟩) (by show w.heap.size < _; omega)).trans B1.out, (HB6.out.cell (p := ⟨w.heap.size, 2, none⟩) (by show w.heap.size < _; omega)).trans B2.out, (HB6.out.cell (p := ⟨w.heap.size, 3, none⟩) (by show w.heap.size < _; omega)).trans B3.out⟩
          clear hK K hHeld
          have hHeld := hNew
          clear hNew
          refine wpAnyH_take (i := 26) (oi := _) (v := _) rfl (by kernel_rfl) (by kernel_rfl) (by kernel_rfl) (fun _ _ _ h => h) (Or.inl ⟨by rfl, by (intro w hSw; (try dsimp only at hSw); go_simp; try with_reducible rfl)⟩) hHeld ?_
          simp only [Act.put, List.getElem_toArray, List.getElem_cons_zero, List.getElem_cons_succ, List.setIfInBounds_toArray, List.set_cons_zero, List.set_cons_succ]
          refine wpAnyH_ready (rs := [27]) (by kernel_rfl) (by simp) ?_
          refine AllReadyH.cons rfl (fun K hK => ?_) AllReadyH.nil
          have t6 : W6.heap[w.heap.size + 1]? = some (.cells #[.bool false, .slice none 0 0, .slice none 0 0, .slice none 0 0] 31 (0, 0)) := (HB6.out.block _ (by omega)).trans TB.out
          have c0 : W6.cell? ⟨w.heap.size + 1, 0, none⟩ = some (.bool false) := blk_cell t6 0
          have c1 : W6.cell? ⟨w.heap.size + 1, 1, none⟩ = some (.slice none 0 0) := blk_cell t6 1
          have c2 : W6.cell? ⟨w.heap.size + 1, 2, none⟩ = some (.slice none 0 0) := blk_cell t6 2
          have c3 : W6.cell? ⟨w.heap.size + 1, 3, none⟩ = some (.slice none 0 0) := blk_cell t6 3
          have f0 : W6.frozen? ⟨w.heap.size + 1, 0, none⟩ = false := blk_frozen t6 0
          have f1 : W6.frozen? ⟨w.heap.size + 1, 1, none⟩ = false := blk_frozen t6 1
          have f2 : W6.frozen? ⟨w.heap.size + 1, 2, none⟩ = false := blk_frozen t6 2
          have f3 : W6.frozen? ⟨w.heap.size + 1, 3, none⟩ = false := blk_frozen t6 3
          go_simp
          obtain ⟨W7, e7, t7, G7⟩ := nd_set4 W6 (w.heap.size + 1) 31 _ _ _ _ (.bool a0_0) (.slice (some ⟨g1, 0, none⟩) l0_1.length (l0_1.length + 1)) (.slice (some ⟨g2, 0, none⟩) l0_2.length (l0_2.length + 1)) (.slice (some ⟨g3, 0, none⟩) l0_3.length (l0_3.length + 1)) t6
          rw [← e7]
          have HB7 := Aside0.mk (nd_grown_below G7 (XB.out.trans (HB6.out.mono (by omega))) (by have := XB.out.size; have := HB6.out.size; omega) (by omega))
          have P1' := Aside0.mk (P1.out.keep flat48 G7 (by have := z1.out; omega))
          have P2' := Aside0.mk (P2.out.keep flatS G7 (by have := z2.out; omega))
          have P3' := Aside0.mk (P3.out.keep flatI G7 (by have := z3.out; omega))
          have r0 : W7.cell? ⟨w.heap.size + 1, 0, none⟩ = some (.bool a0_0) := blk_cell t7 0
          have r1 : W7.cell? ⟨w.heap.size + 1, 1, none⟩ = some (.slice (some ⟨g1, 0, none⟩) l0_1.length (l0_1.length + 1)) := blk_cell t7 1
          have r2 : W7.cell? ⟨w.heap.size + 1, 2, none⟩ = some (.slice (some ⟨g2, 0, none⟩) l0_2.length (l0_2.length + 1)) := blk_cell t7 2
          have r3 : W7.cell? ⟨w.heap.size + 1, 3, none⟩ = some (.slice (some ⟨g3, 0, none⟩) l0_3.length (l0_3.length + 1)) := blk_cell t7 3
          refine hK.out _ _ ⟨nd_grown_cell G7 (by show w.heap.size ≠ _; omega) hHeld.1, nd_grown_cell G7 (by show w.heap.size ≠ _; omega) hHeld.2.1, nd_grown_cell G7 (by show w.heap.size ≠ _; omega) hHeld.2.2.1, nd_grown_cell G7 (by show w.heap.size ≠ _; omega) hHeld.2.2.2⟩ (fun _ => ?_)
          clear hK K hHeld e7 G7 c0 c1 c2 c3 f0 f1 f2 f3 t6 P1 P2 P3 HB6
          refine wpAnyH_done (by kernel_rfl) ?_ _
          go_wp2
          refine bodyPost_ret (results_cell_row rfl _ _ (w.heap.size + 1) 31 #[.bool a0_0, .slice (some ⟨g1, 0, none⟩) l0_1.length (l0_1.length + 1), .slice (some ⟨g2, 0, none⟩) l0_2.length (l0_2.length + 1), .slice (some ⟨g3, 0, none⟩) l0_3.length (l0_3.length + 1)] (0, 0) _ rfl t7 Try.underlying31 rfl (by kernel_rfl)) rfl ?_
          exact ⟨g1, g2, g3, rfl, by have := z1.out; omega, by have := z2.out; omega, by have := z3.out; omega, n12.out, n13.out, n23.out, P1'.out, P2'.out, P3'.out, HB7.out⟩
        · obtain ⟨g3, W4, hg, mk, hF, hG⟩ := makeIn (P := Try.prog) (Kd.int .i64) 24 3 (.int .i64 0) 8 Try.underlying24 (by kernel_rfl) rfl W3 l0_3.length H3.out (by omega)
          have ZC : w.heap.size + 2 ≤ W3.heap.size := by have := HB3.out.size; have := ZB.out; omega
          have z3 : Aside0 (w.heap.size + 2 ≤ g3) := ⟨by omega⟩
          have n13 : Aside0 (g1 ≠ g3) := ⟨by have := P1.out.lt; omega⟩
          have n23 : Aside0 (g2 ≠ g3) := ⟨by have := F2.out.lt; omega⟩
          have n31 : Aside0 (g3 ≠ g1) := ⟨Ne.symm n13.out⟩
          have n32 : Aside0 (g3 ≠ g2) := ⟨Ne.symm n23.out⟩
          have HB4 := Aside0.mk (nd_grown_below hG HB3.out ZC z3.out)
          replace P1 := Aside0.mk (P1.out.keep flat48 hG n13.out)
          replace F2 := Aside0.mk (F2.out.keep hG n23.out)
          have F3 := Aside0.mk hF
          clear hF hG hg ZC HB3
          go_simp
          clear mk
          refine hK.out _ _ ?_ (fun hNew => ?_)
          · exact ⟨(HB4.out.cell (p := ⟨w.heap.size, 0, none⟩) (by show w.heap.size < _; omega)).trans B0.out, (HB4.out.cell (p := ⟨w.heap.size, 1, none⟩) (by show w.heap.size < _; omega)).trans B1.out, (HB4.out.cell (p := ⟨w.heap.size, 2, none⟩) (by show w.heap.size < _; omega)).trans B2.out, (HB4.out.cell (p := ⟨w.heap.size, 3, none⟩) (by show w.heap.size < _; omega)).trans B3.out⟩
          clear hK K hHeld
          have hHeld := hNew
          clear hNew
          refine wpAnyH_ready (rs := [17]) (by kernel_rfl) (by simp) ?_
          refine (AllReadyH.cons rfl (fun K hK => ?_) AllReadyH.nil)
          obtain ⟨W5, ap, hP, hG⟩ := appendAt (P := Try.prog) Kd.string flatS 23 9 (.string ⟨#[]⟩) 16 Try.underlying23 (by kernel_rfl) rfl (by decide) 23 W4 A0_2 c0_2 l0_2 g2 (Kd.C_below R2.out ((XB.out.trans (HB4.out.mono (by omega))))) F2.out
          have ZC : w.heap.size + 2 ≤ W4.heap.size := by have := HB4.out.size; have := ZB.out; omega
          have HB5 := Aside0.mk (nd_grown_below hG HB4.out ZC z2.out)
          replace P1 := Aside0.mk (P1.out.keep flat48 hG n12.out)
          replace F3 := Aside0.mk (F3.out.keep hG n32.out)
          have P2 := Aside0.mk hP
          clear hP hG ZC HB4 F2
          rw [if_pos (by kernel_rfl)]
          refine oper_append_ran (.tmp 17) (.tmp 19) 23 rfl _ _ _ rfl rfl ap ?_
          simp only [Act.put, List.getElem_toArray, List.getElem_cons_zero, List.getElem_cons_succ, List.setIfInBounds_toArray, List.set_cons_zero, List.set_cons_succ]
          clear ap
          refine hK.out _ _ ?_ (fun hNew => ?_)
          · exact ⟨(HB5.out.cell (p := ⟨w.heap.size, 0, none⟩) (by show w.heap.size < _; omega)).trans B0.out, (HB5.out.cell (p := ⟨w.heap.size, 1, none⟩) (by show w.heap.size < _; omega)).trans B1.out, (HB5.out.cell (p := ⟨w.heap.size, 2, none⟩) (by show w.heap.size < _; omega)).trans B2.out, (HB5.out.cell (p := ⟨w.heap.size, 3, none⟩) (by show w.heap.size < _; omega)).trans B3.out⟩
          clear hK K hHeld
          have hHeld := hNew
          clear hNew
          refine wpAnyH_ready (rs := [25]) (by kernel_rfl) (by simp) ?_
          refine (AllReadyH.cons rfl (fun K hK => ?_) AllReadyH.nil)
          obtain ⟨W6, ap, hP, hG⟩ := appendAt (P := Try.prog) (Kd.int .i64) flatI 24 3 (.int .i64 0) 8 Try.underlying24 (by kernel_rfl) rfl (by decide) 24 W5 A0_3 c0_3 l0_3 g3 (Kd.C_below R3.out ((XB.out.trans (HB5.out.mono (by omega))))) F3.out
          have ZC : w.heap.size + 2 ≤ W5.heap.size := by have := HB5.out.size; have := ZB.out; omega
          have HB6 := Aside0.mk (nd_grown_below hG HB5.out ZC z3.out)
          replace P1 := Aside0.mk (P1.out.keep flat48 hG n13.out)
          replace P2 := Aside0.mk (P2.out.keep flatS hG n23.out)
          have P3 := Aside0.mk hP
          clear hP hG ZC HB5 F3
          rw [if_pos (by kernel_rfl)]
          refine oper_append_ran (.tmp 25) (.tmp 27) 24 rfl _ _ _ rfl rfl ap ?_
          simp only [Act.put, List.getElem_toArray, List.getElem_cons_zero, List.getElem_cons_succ, List.setIfInBounds_toArray, List.set_cons_zero, List.set_cons_succ]
          clear ap
          refine hK.out _ _ ?_ (fun hNew => ?_)
          · exact ⟨(HB6.out.cell (p := ⟨w.heap.size, 0, none⟩) (by show w.heap.size < _; omega)).trans B0.out, (HB6.out.cell (p := ⟨w.heap.size, 1, none⟩) (by show w.heap.size < _; omega)).trans B1.out, (HB6.out.cell (p := ⟨w.heap.size, 2, none⟩) (by show w.heap.size < _; omega)).trans B2.out, (HB6.out.cell (p := ⟨w.heap.size, 3, none⟩) (by show w.heap.size < _; omega)).trans B3.out⟩
          clear hK K hHeld
          have hHeld := hNew
          clear hNew
          refine wpAnyH_take (i := 26) (oi := _) (v := _) rfl (by kernel_rfl) (by kernel_rfl) (by kernel_rfl) (fun _ _ _ h => h) (Or.inl ⟨by rfl, by (intro w hSw; (try dsimp only at hSw); go_simp; try with_reducible rfl)⟩) hHeld ?_
          simp only [Act.put, List.getElem_toArray, List.getElem_cons_zero, List.getElem_cons_succ, List.setIfInBounds_toArray, List.set_cons_zero, List.set_cons_succ]
          refine wpAnyH_ready (rs := [27]) (by kernel_rfl) (by simp) ?_
          refine AllReadyH.cons rfl (fun K hK => ?_) AllReadyH.nil
          have t6 : W6.heap[w.heap.size + 1]? = some (.cells #[.bool false, .slice none 0 0, .slice none 0 0, .slice none 0 0] 31 (0, 0)) := (HB6.out.block _ (by omega)).trans TB.out
          have c0 : W6.cell? ⟨w.heap.size + 1, 0, none⟩ = some (.bool false) := blk_cell t6 0
          have c1 : W6.cell? ⟨w.heap.size + 1, 1, none⟩ = some (.slice none 0 0) := blk_cell t6 1
          have c2 : W6.cell? ⟨w.heap.size + 1, 2, none⟩ = some (.slice none 0 0) := blk_cell t6 2
          have c3 : W6.cell? ⟨w.heap.size + 1, 3, none⟩ = some (.slice none 0 0) := blk_cell t6 3
          have f0 : W6.frozen? ⟨w.heap.size + 1, 0, none⟩ = false := blk_frozen t6 0
          have f1 : W6.frozen? ⟨w.heap.size + 1, 1, none⟩ = false := blk_frozen t6 1
          have f2 : W6.frozen? ⟨w.heap.size + 1, 2, none⟩ = false := blk_frozen t6 2
          have f3 : W6.frozen? ⟨w.heap.size + 1, 3, none⟩ = false := blk_frozen t6 3
          go_simp
          obtain ⟨W7, e7, t7, G7⟩ := nd_set4 W6 (w.heap.size + 1) 31 _ _ _ _ (.bool a0_0) (.slice (some ⟨g1, 0, none⟩) l0_1.length (l0_1.length + 1)) (.slice (some ⟨g2, 0, none⟩) l0_2.length (l0_2.length + 1)) (.slice (some ⟨g3, 0, none⟩) l0_3.length (l0_3.length + 1)) t6
          rw [← e7]
          have HB7 := Aside0.mk (nd_grown_below G7 (XB.out.trans (HB6.out.mono (by omega))) (by have := XB.out.size; have := HB6.out.size; omega) (by omega))
          have P1' := Aside0.mk (P1.out.keep flat48 G7 (by have := z1.out; omega))
          have P2' := Aside0.mk (P2.out.keep flatS G7 (by have := z2.out; omega))
          have P3' := Aside0.mk (P3.out.keep flatI G7 (by have := z3.out; omega))
          have r0 : W7.cell? ⟨w.heap.size + 1, 0, none⟩ = some (.bool a0_0) := blk_cell t7 0
          have r1 : W7.cell? ⟨w.heap.size + 1, 1, none⟩ = some (.slice (some ⟨g1, 0, none⟩) l0_1.length (l0_1.length + 1)) := blk_cell t7 1
          have r2 : W7.cell? ⟨w.heap.size + 1, 2, none⟩ = some (.slice (some ⟨g2, 0, none⟩) l0_2.length (l0_2.length + 1)) := blk_cell t7 2
          have r3 : W7.cell? ⟨w.heap.size + 1, 3, none⟩ = some (.slice (some ⟨g3, 0, none⟩) l0_3.length (l0_3.length + 1)) := blk_cell t7 3
          refine hK.out _ _ ⟨nd_grown_cell G7 (by show w.heap.size ≠ _; omega) hHeld.1, nd_grown_cell G7 (by show w.heap.size ≠ _; omega) hHeld.2.1, nd_grown_cell G7 (by show w.heap.size ≠ _; omega) hHeld.2.2.1, nd_grown_cell G7 (by show w.heap.size ≠ _; omega) hHeld.2.2.2⟩ (fun _ => ?_)
          clear hK K hHeld e7 G7 c0 c1 c2 c3 f0 f1 f2 f3 t6 P1 P2 P3 HB6
          refine wpAnyH_done (by kernel_rfl) ?_ _
          go_wp2
          refine bodyPost_ret (results_cell_row rfl _ _ (w.heap.size + 1) 31 #[.bool a0_0, .slice (some ⟨g1, 0, none⟩) l0_1.length (l0_1.length + 1), .slice (some ⟨g2, 0, none⟩) l0_2.length (l0_2.length + 1), .slice (some ⟨g3, 0, none⟩) l0_3.length (l0_3.length + 1)] (0, 0) _ rfl t7 Try.underlying31 rfl (by kernel_rfl)) rfl ?_
          exact ⟨g1, g2, g3, rfl, by have := z1.out; omega, by have := z2.out; omega, by have := z3.out; omega, n12.out, n13.out, n23.out, P1'.out, P2'.out, P3'.out, HB7.out⟩
      · obtain ⟨g3, W3, hg, mk, hF, hG⟩ := makeIn (P := Try.prog) (Kd.int .i64) 24 3 (.int .i64 0) 8 Try.underlying24 (by kernel_rfl) rfl W2 l0_3.length H3.out (by omega)
        have ZC : w.heap.size + 2 ≤ W2.heap.size := by have := HB2.out.size; have := ZB.out; omega
        have z3 : Aside0 (w.heap.size + 2 ≤ g3) := ⟨by omega⟩
        have n13 : Aside0 (g1 ≠ g3) := ⟨by have := F1.out.lt; omega⟩
        have n23 : Aside0 (g2 ≠ g3) := ⟨by have := F2.out.lt; omega⟩
        have n31 : Aside0 (g3 ≠ g1) := ⟨Ne.symm n13.out⟩
        have n32 : Aside0 (g3 ≠ g2) := ⟨Ne.symm n23.out⟩
        have HB3 := Aside0.mk (nd_grown_below hG HB2.out ZC z3.out)
        replace F1 := Aside0.mk (F1.out.keep hG n13.out)
        replace F2 := Aside0.mk (F2.out.keep hG n23.out)
        have F3 := Aside0.mk hF
        clear hF hG hg ZC HB2
        go_simp
        clear mk
        refine hK.out _ _ ?_ (fun hNew => ?_)
        · exact ⟨(HB3.out.cell (p := ⟨w.heap.size, 0, none⟩) (by show w.heap.size < _; omega)).trans B0.out, (HB3.out.cell (p := ⟨w.heap.size, 1, none⟩) (by show w.heap.size < _; omega)).trans B1.out, (HB3.out.cell (p := ⟨w.heap.size, 2, none⟩) (by show w.heap.size < _; omega)).trans B2.out, (HB3.out.cell (p := ⟨w.heap.size, 3, none⟩) (by show w.heap.size < _; omega)).trans B3.out⟩
        clear hK K hHeld
        have hHeld := hNew
        clear hNew
        refine wpAnyH_ready (rs := [9]) (by kernel_rfl) (by simp) ?_
        refine (AllReadyH.cons rfl (fun K hK => ?_) AllReadyH.nil)
        obtain ⟨W4, ap, hP, hG⟩ := appendAt (P := Try.prog) k48 flat48 22 48 (.agg #[(.string ⟨#[]⟩), (.string ⟨#[]⟩)]) 32 Try.underlying22 (by kernel_rfl) rfl (by decide) 22 W3 A0_1 c0_1 l0_1 g1 (Kd.C_below R1.out ((XB.out.trans (HB3.out.mono (by omega))))) F1.out
        have ZC : w.heap.size + 2 ≤ W3.heap.size := by have := HB3.out.size; have := ZB.out; omega
        have HB4 := Aside0.mk (nd_grown_below hG HB3.out ZC z1.out)
        replace F2 := Aside0.mk (F2.out.keep hG n21.out)
        replace F3 := Aside0.mk (F3.out.keep hG n31.out)
        have P1 := Aside0.mk hP
        clear hP hG ZC HB3 F1
        rw [if_pos (by kernel_rfl)]
        refine oper_append_ran (.tmp 9) (.tmp 11) 22 rfl _ _ _ rfl rfl ap ?_
        simp only [Act.put, List.getElem_toArray, List.getElem_cons_zero, List.getElem_cons_succ, List.setIfInBounds_toArray, List.set_cons_zero, List.set_cons_succ]
        clear ap
        refine hK.out _ _ ?_ (fun hNew => ?_)
        · exact ⟨(HB4.out.cell (p := ⟨w.heap.size, 0, none⟩) (by show w.heap.size < _; omega)).trans B0.out, (HB4.out.cell (p := ⟨w.heap.size, 1, none⟩) (by show w.heap.size < _; omega)).trans B1.out, (HB4.out.cell (p := ⟨w.heap.size, 2, none⟩) (by show w.heap.size < _; omega)).trans B2.out, (HB4.out.cell (p := ⟨w.heap.size, 3, none⟩) (by show w.heap.size < _; omega)).trans B3.out⟩
        clear hK K hHeld
        have hHeld := hNew
        clear hNew
        refine wpAnyH_ready (rs := [17]) (by kernel_rfl) (by simp) ?_
        refine (AllReadyH.cons rfl (fun K hK => ?_) AllReadyH.nil)
        obtain ⟨W5, ap, hP, hG⟩ := appendAt (P := Try.prog) Kd.string flatS 23 9 (.string ⟨#[]⟩) 16 Try.underlying23 (by kernel_rfl) rfl (by decide) 23 W4 A0_2 c0_2 l0_2 g2 (Kd.C_below R2.out ((XB.out.trans (HB4.out.mono (by omega))))) F2.out
        have ZC : w.heap.size + 2 ≤ W4.heap.size := by have := HB4.out.size; have := ZB.out; omega
        have HB5 := Aside0.mk (nd_grown_below hG HB4.out ZC z2.out)
        replace P1 := Aside0.mk (P1.out.keep flat48 hG n12.out)
        replace F3 := Aside0.mk (F3.out.keep hG n32.out)
        have P2 := Aside0.mk hP
        clear hP hG ZC HB4 F2
        rw [if_pos (by kernel_rfl)]
        refine oper_append_ran (.tmp 17) (.tmp 19) 23 rfl _ _ _ rfl rfl ap ?_
        simp only [Act.put, List.getElem_toArray, List.getElem_cons_zero, List.getElem_cons_succ, List.setIfInBounds_toArray, List.set_cons_zero, List.set_cons_succ]
        clear ap
        refine hK.out _ _ ?_ (fun hNew => ?_)
        · exact ⟨(HB5.out.cell (p := ⟨w.heap.size, 0, none⟩) (by show w.heap.size < _; omega)).trans B0.out, (HB5.out.cell (p := ⟨w.heap.size, 1, none⟩) (by show w.heap.size < _; omega)).trans B1.out, (HB5.out.cell (p := ⟨w.heap.size, 2, none⟩) (by show w.heap.size < _; omega)).trans B2.out, (HB5.out.cell (p := ⟨w.heap.size, 3, none⟩) (by show w.heap.size < _; omega)).trans B3.out⟩
        clear hK K hHeld
        have hHeld := hNew
        clear hNew
        refine wpAnyH_ready (rs := [25]) (by kernel_rfl) (by simp) ?_
        refine (AllReadyH.cons rfl (fun K hK => ?_) AllReadyH.nil)
        obtain ⟨W6, ap, hP, hG⟩ := appendAt (P := Try.prog) (Kd.int .i64) flatI 24 3 (.int .i64 0) 8 Try.underlying24 (by kernel_rfl) rfl (by decide) 24 W5 A0_3 c0_3 l0_3 g3 (Kd.C_below R3.out ((XB.out.trans (HB5.out.mono (by omega))))) F3.out
        have ZC : w.heap.size + 2 ≤ W5.heap.size := by have := HB5.out.size; have := ZB.out; omega
        have HB6 := Aside0.mk (nd_grown_below hG HB5.out ZC z3.out)
        replace P1 := Aside0.mk (P1.out.keep flat48 hG n13.out)
        replace P2 := Aside0.mk (P2.out.keep flatS hG n23.out)
        have P3 := Aside0.mk hP
        clear hP hG ZC HB5 F3
        rw [if_pos (by kernel_rfl)]
        refine oper_append_ran (.tmp 25) (.tmp 27) 24 rfl _ _ _ rfl rfl ap ?_
        simp only [Act.put, List.getElem_toArray, List.getElem_cons_zero, List.getElem_cons_succ, List.setIfInBounds_toArray, List.set_cons_zero, List.set_cons_succ]
        clear ap
        refine hK.out _ _ ?_ (fun hNew => ?_)
        · exact ⟨(HB6.out.cell (p := ⟨w.heap.size, 0, none⟩) (by show w.heap.size < _; omega)).trans B0.out, (HB6.out.cell (p := ⟨w.heap.size, 1, none⟩) (by show w.heap.size < _; omega)).trans B1.out, (HB6.out.cell (p := ⟨w.heap.size, 2, none⟩) (by show w.heap.size < _; omega)).trans B2.out, (HB6.out.cell (p := ⟨w.heap.size, 3, none⟩) (by show w.heap.size < _; omega)).trans B3.out⟩
        clear hK K hHeld
        have hHeld := hNew
        clear hNew
        refine wpAnyH_take (i := 26) (oi := _) (v := _) rfl (by kernel_rfl) (by kernel_rfl) (by kernel_rfl) (fun _ _ _ h => h) (Or.inl ⟨by rfl, by (intro w hSw; (try dsimp only at hSw); go_simp; try with_reducible rfl)⟩) hHeld ?_
        simp only [Act.put, List.getElem_toArray, List.getElem_cons_zero, List.getElem_cons_succ, List.setIfInBounds_toArray, List.set_cons_zero, List.set_cons_succ]
        refine wpAnyH_ready (rs := [27]) (by kernel_rfl) (by simp) ?_
        refine AllReadyH.cons rfl (fun K hK => ?_) AllReadyH.nil
        have t6 : W6.heap[w.heap.size + 1]? = some (.cells #[.bool false, .slice none 0 0, .slice none 0 0, .slice none 0 0] 31 (0, 0)) := (HB6.out.block _ (by omega)).trans TB.out
        have c0 : W6.cell? ⟨w.heap.size + 1, 0, none⟩ = some (.bool false) := blk_cell t6 0
        have c1 : W6.cell? ⟨w.heap.size + 1, 1, none⟩ = some (.slice none 0 0) := blk_cell t6 1
        have c2 : W6.cell? ⟨w.heap.size + 1, 2, none⟩ = some (.slice none 0 0) := blk_cell t6 2
        have c3 : W6.cell? ⟨w.heap.size + 1, 3, none⟩ = some (.slice none 0 0) := blk_cell t6 3
        have f0 : W6.frozen? ⟨w.heap.size + 1, 0, none⟩ = false := blk_frozen t6 0
        have f1 : W6.frozen? ⟨w.heap.size + 1, 1, none⟩ = false := blk_frozen t6 1
        have f2 : W6.frozen? ⟨w.heap.size + 1, 2, none⟩ = false := blk_frozen t6 2
        have f3 : W6.frozen? ⟨w.heap.size + 1, 3, none⟩ = false := blk_frozen t6 3
        go_simp
        obtain ⟨W7, e7, t7, G7⟩ := nd_set4 W6 (w.heap.size + 1) 31 _ _ _ _ (.bool a0_0) (.slice (some ⟨g1, 0, none⟩) l0_1.length (l0_1.length + 1)) (.slice (some ⟨g2, 0, none⟩) l0_2.length (l0_2.length + 1)) (.slice (some ⟨g3, 0, none⟩) l0_3.length (l0_3.length + 1)) t6
        rw [← e7]
        have HB7 := Aside0.mk (nd_grown_below G7 (XB.out.trans (HB6.out.mono (by omega))) (by have := XB.out.size; have := HB6.out.size; omega) (by omega))
        have P1' := Aside0.mk (P1.out.keep flat48 G7 (by have := z1.out; omega))
        have P2' := Aside0.mk (P2.out.keep flatS G7 (by have := z2.out; omega))
        have P3' := Aside0.mk (P3.out.keep flatI G7 (by have := z3.out; omega))
        have r0 : W7.cell? ⟨w.heap.size + 1, 0, none⟩ = some (.bool a0_0) := blk_cell t7 0
        have r1 : W7.cell? ⟨w.heap.size + 1, 1, none⟩ = some (.slice (some ⟨g1, 0, none⟩) l0_1.length (l0_1.length + 1)) := blk_cell t7 1
        have r2 : W7.cell? ⟨w.heap.size + 1, 2, none⟩ = some (.slice (some ⟨g2, 0, none⟩) l0_2.length (l0_2.length + 1)) := blk_cell t7 2
        have r3 : W7.cell? ⟨w.heap.size + 1, 3, none⟩ = some (.slice (some ⟨g3, 0, none⟩) l0_3.length (l0_3.length + 1)) := blk_cell t7 3
        refine hK.out _ _ ⟨nd_grown_cell G7 (by show w.heap.size ≠ _; omega) hHeld.1, nd_grown_cell G7 (by show w.heap.size ≠ _; omega) hHeld.2.1, nd_grown_cell G7 (by show w.heap.size ≠ _; omega) hHeld.2.2.1, nd_grown_cell G7 (by show w.heap.size ≠ _; omega) hHeld.2.2.2⟩ (fun _ => ?_)
        clear hK K hHeld e7 G7 c0 c1 c2 c3 f0 f1 f2 f3 t6 P1 P2 P3 HB6
        refine wpAnyH_done (by kernel_rfl) ?_ _
        go_wp2
        refine bodyPost_ret (results_cell_row rfl _ _ (w.heap.size + 1) 31 #[.bool a0_0, .slice (some ⟨g1, 0, none⟩) l0_1.length (l0_1.length + 1), .slice (some ⟨g2, 0, none⟩) l0_2.length (l0_2.length + 1), .slice (some ⟨g3, 0, none⟩) l0_3.length (l0_3.length + 1)] (0, 0) _ rfl t7 Try.underlying31 rfl (by kernel_rfl)) rfl ?_
        exact ⟨g1, g2, g3, rfl, by have := z1.out; omega, by have := z2.out; omega, by have := z3.out; omega, n12.out, n13.out, n23.out, P1'.out, P2'.out, P3'.out, HB7.out⟩
    · obtain ⟨g3, W2, hg, mk, hF, hG⟩ := makeIn (P := Try.prog) (Kd.int .i64) 24 3 (.int .i64 0) 8 Try.underlying24 (by kernel_rfl) rfl W1 l0_3.length H3.out (by omega)
      have ZC : w.heap.size + 2 ≤ W1.heap.size := by have := HB1.out.size; have := ZB.out; omega
      have z3 : Aside0 (w.heap.size + 2 ≤ g3) := ⟨by omega⟩
      have n23 : Aside0 (g2 ≠ g3) := ⟨by have := F2.out.lt; omega⟩
      have n32 : Aside0 (g3 ≠ g2) := ⟨Ne.symm n23.out⟩
      have HB2 := Aside0.mk (nd_grown_below hG HB1.out ZC z3.out)
      replace F2 := Aside0.mk (F2.out.keep hG n23.out)
      have F3 := Aside0.mk hF
      clear hF hG hg ZC HB1
      go_simp
      clear mk
      refine hK.out _ _ ?_ (fun hNew => ?_)
      · exact ⟨(HB2.out.cell (p := ⟨w.heap.size, 0, none⟩) (by show w.heap.size < _; omega)).trans B0.out, (HB2.out.cell (p := ⟨w.heap.size, 1, none⟩) (by show w.heap.size < _; omega)).trans B1.out, (HB2.out.cell (p := ⟨w.heap.size, 2, none⟩) (by show w.heap.size < _; omega)).trans B2.out, (HB2.out.cell (p := ⟨w.heap.size, 3, none⟩) (by show w.heap.size < _; omega)).trans B3.out⟩
      clear hK K hHeld
      have hHeld := hNew
      clear hNew
      refine wpAnyH_ready (rs := [6]) (by kernel_rfl) (by simp) ?_
      refine (AllReadyH.cons rfl (fun K hK => ?_) AllReadyH.nil)
      obtain ⟨g1, W3, hg, mk, hF, hG⟩ := makeIn (P := Try.prog) k48 22 48 (.agg #[(.string ⟨#[]⟩), (.string ⟨#[]⟩)]) 32 Try.underlying22 (by kernel_rfl) rfl W2 l0_1.length H1.out (by omega)
      have ZC : w.heap.size + 2 ≤ W2.heap.size := by have := HB2.out.size; have := ZB.out; omega
      have z1 : Aside0 (w.heap.size + 2 ≤ g1) := ⟨by omega⟩
      have n21 : Aside0 (g2 ≠ g1) := ⟨by have := F2.out.lt; omega⟩
      have n31 : Aside0 (g3 ≠ g1) := ⟨by have := F3.out.lt; omega⟩
      have n12 : Aside0 (g1 ≠ g2) := ⟨Ne.symm n21.out⟩
      have n13 : Aside0 (g1 ≠ g3) := ⟨Ne.symm n31.out⟩
      have HB3 := Aside0.mk (nd_grown_below hG HB2.out ZC z1.out)
      replace F2 := Aside0.mk (F2.out.keep hG n21.out)
      replace F3 := Aside0.mk (F3.out.keep hG n31.out)
      have F1 := Aside0.mk hF
      clear hF hG hg ZC HB2
      go_simp
      clear mk
      refine hK.out _ _ ?_ (fun hNew => ?_)
      · exact ⟨(HB3.out.cell (p := ⟨w.heap.size, 0, none⟩) (by show w.heap.size < _; omega)).trans B0.out, (HB3.out.cell (p := ⟨w.heap.size, 1, none⟩) (by show w.heap.size < _; omega)).trans B1.out, (HB3.out.cell (p := ⟨w.heap.size, 2, none⟩) (by show w.heap.size < _; omega)).trans B2.out, (HB3.out.cell (p := ⟨w.heap.size, 3, none⟩) (by show w.heap.size < _; omega)).trans B3.out⟩
      clear hK K hHeld
      have hHeld := hNew
      clear hNew
      refine wpAnyH_ready (rs := [9]) (by kernel_rfl) (by simp) ?_
      refine (AllReadyH.cons rfl (fun K hK => ?_) AllReadyH.nil)
      obtain ⟨W4, ap, hP, hG⟩ := appendAt (P := Try.prog) k48 flat48 22 48 (.agg #[(.string ⟨#[]⟩), (.string ⟨#[]⟩)]) 32 Try.underlying22 (by kernel_rfl) rfl (by decide) 22 W3 A0_1 c0_1 l0_1 g1 (Kd.C_below R1.out ((XB.out.trans (HB3.out.mono (by omega))))) F1.out
      have ZC : w.heap.size + 2 ≤ W3.heap.size := by have := HB3.out.size; have := ZB.out; omega
      have HB4 := Aside0.mk (nd_grown_below hG HB3.out ZC z1.out)
      replace F2 := Aside0.mk (F2.out.keep hG n21.out)
      replace F3 := Aside0.mk (F3.out.keep hG n31.out)
      have P1 := Aside0.mk hP
      clear hP hG ZC HB3 F1
      rw [if_pos (by kernel_rfl)]
      refine oper_append_ran (.tmp 9) (.tmp 11) 22 rfl _ _ _ rfl rfl ap ?_
      simp only [Act.put, List.getElem_toArray, List.getElem_cons_zero, List.getElem_cons_succ, List.setIfInBounds_toArray, List.set_cons_zero, List.set_cons_succ]
      clear ap
      refine hK.out _ _ ?_ (fun hNew => ?_)
      · exact ⟨(HB4.out.cell (p := ⟨w.heap.size, 0, none⟩) (by show w.heap.size < _; omega)).trans B0.out, (HB4.out.cell (p := ⟨w.heap.size, 1, none⟩) (by show w.heap.size < _; omega)).trans B1.out, (HB4.out.cell (p := ⟨w.heap.size, 2, none⟩) (by show w.heap.size < _; omega)).trans B2.out, (HB4.out.cell (p := ⟨w.heap.size, 3, none⟩) (by show w.heap.size < _; omega)).trans B3.out⟩
      clear hK K hHeld
      have hHeld := hNew
      clear hNew
      refine wpAnyH_ready (rs := [17]) (by kernel_rfl) (by simp) ?_
      refine (AllReadyH.cons rfl (fun K hK => ?_) AllReadyH.nil)
      obtain ⟨W5, ap, hP, hG⟩ := appendAt (P := Try.prog) Kd.string flatS 23 9 (.string ⟨#[]⟩) 16 Try.underlying23 (by kernel_rfl) rfl (by decide) 23 W4 A0_2 c0_2 l0_2 g2 (Kd.C_below R2.out ((XB.out.trans (HB4.out.mono (by omega))))) F2.out
      have ZC : w.heap.size + 2 ≤ W4.heap.size := by have := HB4.out.size; have := ZB.out; omega
      have HB5 := Aside0.mk (nd_grown_below hG HB4.out ZC z2.out)
      replace P1 := Aside0.mk (P1.out.keep flat48 hG n12.out)
      replace F3 := Aside0.mk (F3.out.keep hG n32.out)
      have P2 := Aside0.mk hP
      clear hP hG ZC HB4 F2
      rw [if_pos (by kernel_rfl)]
      refine oper_append_ran (.tmp 17) (.tmp 19) 23 rfl _ _ _ rfl rfl ap ?_
      simp only [Act.put, List.getElem_toArray, List.getElem_cons_zero, List.getElem_cons_succ, List.setIfInBounds_toArray, List.set_cons_zero, List.set_cons_succ]
      clear ap
      refine hK.out _ _ ?_ (fun hNew => ?_)
      · exact ⟨(HB5.out.cell (p := ⟨w.heap.size, 0, none⟩) (by show w.heap.size < _; omega)).trans B0.out, (HB5.out.cell (p := ⟨w.heap.size, 1, none⟩) (by show w.heap.size < _; omega)).trans B1.out, (HB5.out.cell (p := ⟨w.heap.size, 2, none⟩) (by show w.heap.size < _; omega)).trans B2.out, (HB5.out.cell (p := ⟨w.heap.size, 3, none⟩) (by show w.heap.size < _; omega)).trans B3.out⟩
      clear hK K hHeld
      have hHeld := hNew
      clear hNew
      refine wpAnyH_ready (rs := [25]) (by kernel_rfl) (by simp) ?_
      refine (AllReadyH.cons rfl (fun K hK => ?_) AllReadyH.nil)
      obtain ⟨W6, ap, hP, hG⟩ := appendAt (P := Try.prog) (Kd.int .i64) flatI 24 3 (.int .i64 0) 8 Try.underlying24 (by kernel_rfl) rfl (by decide) 24 W5 A0_3 c0_3 l0_3 g3 (Kd.C_below R3.out ((XB.out.trans (HB5.out.mono (by omega))))) F3.out
      have ZC : w.heap.size + 2 ≤ W5.heap.size := by have := HB5.out.size; have := ZB.out; omega
      have HB6 := Aside0.mk (nd_grown_below hG HB5.out ZC z3.out)
      replace P1 := Aside0.mk (P1.out.keep flat48 hG n13.out)
      replace P2 := Aside0.mk (P2.out.keep flatS hG n23.out)
      have P3 := Aside0.mk hP
      clear hP hG ZC HB5 F3
      rw [if_pos (by kernel_rfl)]
      refine oper_append_ran (.tmp 25) (.tmp 27) 24 rfl _ _ _ rfl rfl ap ?_
      simp only [Act.put, List.getElem_toArray, List.getElem_cons_zero, List.getElem_cons_succ, List.setIfInBounds_toArray, List.set_cons_zero, List.set_cons_succ]
      clear ap
      refine hK.out _ _ ?_ (fun hNew => ?_)
      · exact ⟨(HB6.out.cell (p := ⟨w.heap.size, 0, none⟩) (by show w.heap.size < _; omega)).trans B0.out, (HB6.out.cell (p := ⟨w.heap.size, 1, none⟩) (by show w.heap.size < _; omega)).trans B1.out, (HB6.out.cell (p := ⟨w.heap.size, 2, none⟩) (by show w.heap.size < _; omega)).trans B2.out, (HB6.out.cell (p := ⟨w.heap.size, 3, none⟩) (by show w.heap.size < _; omega)).trans B3.out⟩
      clear hK K hHeld
      have hHeld := hNew
      clear hNew
      refine wpAnyH_take (i := 26) (oi := _) (v := _) rfl (by kernel_rfl) (by kernel_rfl) (by kernel_rfl) (fun _ _ _ h => h) (Or.inl ⟨by rfl, by (intro w hSw; (try dsimp only at hSw); go_simp; try with_reducible rfl)⟩) hHeld ?_
      simp only [Act.put, List.getElem_toArray, List.getElem_cons_zero, List.getElem_cons_succ, List.setIfInBounds_toArray, List.set_cons_zero, List.set_cons_succ]
      refine wpAnyH_ready (rs := [27]) (by kernel_rfl) (by simp) ?_
      refine AllReadyH.cons rfl (fun K hK => ?_) AllReadyH.nil
      have t6 : W6.heap[w.heap.size + 1]? = some (.cells #[.bool false, .slice none 0 0, .slice none 0 0, .slice none 0 0] 31 (0, 0)) := (HB6.out.block _ (by omega)).trans TB.out
      have c0 : W6.cell? ⟨w.heap.size + 1, 0, none⟩ = some (.bool false) := blk_cell t6 0
      have c1 : W6.cell? ⟨w.heap.size + 1, 1, none⟩ = some (.slice none 0 0) := blk_cell t6 1
      have c2 : W6.cell? ⟨w.heap.size + 1, 2, none⟩ = some (.slice none 0 0) := blk_cell t6 2
      have c3 : W6.cell? ⟨w.heap.size + 1, 3, none⟩ = some (.slice none 0 0) := blk_cell t6 3
      have f0 : W6.frozen? ⟨w.heap.size + 1, 0, none⟩ = false := blk_frozen t6 0
      have f1 : W6.frozen? ⟨w.heap.size + 1, 1, none⟩ = false := blk_frozen t6 1
      have f2 : W6.frozen? ⟨w.heap.size + 1, 2, none⟩ = false := blk_frozen t6 2
      have f3 : W6.frozen? ⟨w.heap.size + 1, 3, none⟩ = false := blk_frozen t6 3
      go_simp
      obtain ⟨W7, e7, t7, G7⟩ := nd_set4 W6 (w.heap.size + 1) 31 _ _ _ _ (.bool a0_0) (.slice (some ⟨g1, 0, none⟩) l0_1.length (l0_1.length + 1)) (.slice (some ⟨g2, 0, none⟩) l0_2.length (l0_2.length + 1)) (.slice (some ⟨g3, 0, none⟩) l0_3.length (l0_3.length + 1)) t6
      rw [← e7]
      have HB7 := Aside0.mk (nd_grown_below G7 (XB.out.trans (HB6.out.mono (by omega))) (by have := XB.out.size; have := HB6.out.size; omega) (by omega))
      have P1' := Aside0.mk (P1.out.keep flat48 G7 (by have := z1.out; omega))
      have P2' := Aside0.mk (P2.out.keep flatS G7 (by have := z2.out; omega))
      have P3' := Aside0.mk (P3.out.keep flatI G7 (by have := z3.out; omega))
      have r0 : W7.cell? ⟨w.heap.size + 1, 0, none⟩ = some (.bool a0_0) := blk_cell t7 0
      have r1 : W7.cell? ⟨w.heap.size + 1, 1, none⟩ = some (.slice (some ⟨g1, 0, none⟩) l0_1.length (l0_1.length + 1)) := blk_cell t7 1
      have r2 : W7.cell? ⟨w.heap.size + 1, 2, none⟩ = some (.slice (some ⟨g2, 0, none⟩) l0_2.length (l0_2.length + 1)) := blk_cell t7 2
      have r3 : W7.cell? ⟨w.heap.size + 1, 3, none⟩ = some (.slice (some ⟨g3, 0, none⟩) l0_3.length (l0_3.length + 1)) := blk_cell t7 3
      refine hK.out _ _ ⟨nd_grown_cell G7 (by show w.heap.size ≠ _; omega) hHeld.1, nd_grown_cell G7 (by show w.heap.size ≠ _; omega) hHeld.2.1, nd_grown_cell G7 (by show w.heap.size ≠ _; omega) hHeld.2.2.1, nd_grown_cell G7 (by show w.heap.size ≠ _; omega) hHeld.2.2.2⟩ (fun _ => ?_)
      clear hK K hHeld e7 G7 c0 c1 c2 c3 f0 f1 f2 f3 t6 P1 P2 P3 HB6
      refine wpAnyH_done (by kernel_rfl) ?_ _
      go_wp2
      refine bodyPost_ret (results_cell_row rfl _ _ (w.heap.size + 1) 31 #[.bool a0_0, .slice (some ⟨g1, 0, none⟩) l0_1.length (l0_1.length + 1), .slice (some ⟨g2, 0, none⟩) l0_2.length (l0_2.length + 1), .slice (some ⟨g3, 0, none⟩) l0_3.length (l0_3.length + 1)] (0, 0) _ rfl t7 Try.underlying31 rfl (by kernel_rfl)) rfl ?_
      exact ⟨g1, g2, g3, rfl, by have := z1.out; omega, by have := z2.out; omega, by have := z3.out; omega, n12.out, n13.out, n23.out, P1'.out, P2'.out, P3'.out, HB7.out⟩
  · obtain ⟨g3, W1, hg, mk, hF, hG⟩ := makeIn (P := Try.prog) (Kd.int .i64) 24 3 (.int .i64 0) 8 Try.underlying24 (by kernel_rfl) rfl W0 l0_3.length H3.out (by omega)
    have ZC : w.heap.size + 2 ≤ W0.heap.size := by have := HB0.out.size; have := ZB.out; omega
    have z3 : Aside0 (w.heap.size + 2 ≤ g3) := ⟨by omega⟩
    have HB1 := Aside0.mk (nd_grown_below hG HB0.out ZC z3.out)
    have F3 := Aside0.mk hF
    clear hF hG hg ZC HB0
    go_simp
    clear mk
    refine hK.out _ _ ?_ (fun hNew => ?_)
    · exact ⟨(HB1.out.cell (p := ⟨w.heap.size, 0, none⟩) (by show w.heap.size < _; omega)).trans B0.out, (HB1.out.cell (p := ⟨w.heap.size, 1, none⟩) (by show w.heap.size < _; omega)).trans B1.out, (HB1.out.cell (p := ⟨w.heap.size, 2, none⟩) (by show w.heap.size < _; omega)).trans B2.out, (HB1.out.cell (p := ⟨w.heap.size, 3, none⟩) (by show w.heap.size < _; omega)).trans B3.out⟩
    clear hK K hHeld
    have hHeld := hNew
    clear hNew
    refine wpAnyH_ready (rs := [6, 14]) (by kernel_rfl) (by simp) ?_
    refine (AllReadyH.cons rfl (fun K hK => ?_) (AllReadyH.cons rfl (fun K hK => ?_) AllReadyH.nil))
    · obtain ⟨g1, W2, hg, mk, hF, hG⟩ := makeIn (P := Try.prog) k48 22 48 (.agg #[(.string ⟨#[]⟩), (.string ⟨#[]⟩)]) 32 Try.underlying22 (by kernel_rfl) rfl W1 l0_1.length H1.out (by omega)
      have ZC : w.heap.size + 2 ≤ W1.heap.size := by have := HB1.out.size; have := ZB.out; omega
      have z1 : Aside0 (w.heap.size + 2 ≤ g1) := ⟨by omega⟩
      have n31 : Aside0 (g3 ≠ g1) := ⟨by have := F3.out.lt; omega⟩
      have n13 : Aside0 (g1 ≠ g3) := ⟨Ne.symm n31.out⟩
      have HB2 := Aside0.mk (nd_grown_below hG HB1.out ZC z1.out)
      replace F3 := Aside0.mk (F3.out.keep hG n31.out)
      have F1 := Aside0.mk hF
      clear hF hG hg ZC HB1
      go_simp
      clear mk
      refine hK.out _ _ ?_ (fun hNew => ?_)
      · exact ⟨(HB2.out.cell (p := ⟨w.heap.size, 0, none⟩) (by show w.heap.size < _; omega)).trans B0.out, (HB2.out.cell (p := ⟨w.heap.size, 1, none⟩) (by show w.heap.size < _; omega)).trans B1.out, (HB2.out.cell (p := ⟨w.heap.size, 2, none⟩) (by show w.heap.size < _; omega)).trans B2.out, (HB2.out.cell (p := ⟨w.heap.size, 3, none⟩) (by show w.heap.size < _; omega)).trans B3.out⟩
      clear hK K hHeld
      have hHeld := hNew
      clear hNew
      refine wpAnyH_ready (rs := [9, 14]) (by kernel_rfl) (by simp) ?_
      refine (AllReadyH.cons rfl (fun K hK => ?_) (AllReadyH.cons rfl (fun K hK => ?_) AllReadyH.nil))
      · obtain ⟨W3, ap, hP, hG⟩ := appendAt (P := Try.prog) k48 flat48 22 48 (.agg #[(.string ⟨#[]⟩), (.string ⟨#[]⟩)]) 32 Try.underlying22 (by kernel_rfl) rfl (by decide) 22 W2 A0_1 c0_1 l0_1 g1 (Kd.C_below R1.out ((XB.out.trans (HB2.out.mono (by omega))))) F1.out
        have ZC : w.heap.size + 2 ≤ W2.heap.size := by have := HB2.out.size; have := ZB.out; omega
        have HB3 := Aside0.mk (nd_grown_below hG HB2.out ZC z1.out)
        replace F3 := Aside0.mk (F3.out.keep hG n31.out)
        have P1 := Aside0.mk hP
        clear hP hG ZC HB2 F1
        rw [if_pos (by kernel_rfl)]
        refine oper_append_ran (.tmp 9) (.tmp 11) 22 rfl _ _ _ rfl rfl ap ?_
        simp only [Act.put, List.getElem_toArray, List.getElem_cons_zero, List.getElem_cons_succ, List.setIfInBounds_toArray, List.set_cons_zero, List.set_cons_succ]
        clear ap
        refine hK.out _ _ ?_ (fun hNew => ?_)
        · exact ⟨(HB3.out.cell (p := ⟨w.heap.size, 0, none⟩) (by show w.heap.size < _; omega)).trans B0.out, (HB3.out.cell (p := ⟨w.heap.size, 1, none⟩) (by show w.heap.size < _; omega)).trans B1.out, (HB3.out.cell (p := ⟨w.heap.size, 2, none⟩) (by show w.heap.size < _; omega)).trans B2.out, (HB3.out.cell (p := ⟨w.heap.size, 3, none⟩) (by show w.heap.size < _; omega)).trans B3.out⟩
        clear hK K hHeld
        have hHeld := hNew
        clear hNew
        refine wpAnyH_ready (rs := [14]) (by kernel_rfl) (by simp) ?_
        refine (AllReadyH.cons rfl (fun K hK => ?_) AllReadyH.nil)
        obtain ⟨g2, W4, hg, mk, hF, hG⟩ := makeIn (P := Try.prog) Kd.string 23 9 (.string ⟨#[]⟩) 16 Try.underlying23 (by kernel_rfl) rfl W3 l0_2.length H2.out (by omega)
        have ZC : w.heap.size + 2 ≤ W3.heap.size := by have := HB3.out.size; have := ZB.out; omega
        have z2 : Aside0 (w.heap.size + 2 ≤ g2) := ⟨by omega⟩
        have n12 : Aside0 (g1 ≠ g2) := ⟨by have := P1.out.lt; omega⟩
        have n32 : Aside0 (g3 ≠ g2) := ⟨by have := F3.out.lt; omega⟩
        have n21 : Aside0 (g2 ≠ g1) := ⟨Ne.symm n12.out⟩
        have n23 : Aside0 (g2 ≠ g3) := ⟨Ne.symm n32.out⟩
        have HB4 := Aside0.mk (nd_grown_below hG HB3.out ZC z2.out)
        replace P1 := Aside0.mk (P1.out.keep flat48 hG n12.out)
        replace F3 := Aside0.mk (F3.out.keep hG n32.out)
        have F2 := Aside0.mk hF
        clear hF hG hg ZC HB3
        go_simp
        clear mk
        refine hK.out _ _ ?_ (fun hNew => ?_)
        · exact ⟨(HB4.out.cell (p := ⟨w.heap.size, 0, none⟩) (by show w.heap.size < _; omega)).trans B0.out, (HB4.out.cell (p := ⟨w.heap.size, 1, none⟩) (by show w.heap.size < _; omega)).trans B1.out, (HB4.out.cell (p := ⟨w.heap.size, 2, none⟩) (by show w.heap.size < _; omega)).trans B2.out, (HB4.out.cell (p := ⟨w.heap.size, 3, none⟩) (by show w.heap.size < _; omega)).trans B3.out⟩
        clear hK K hHeld
        have hHeld := hNew
        clear hNew
        refine wpAnyH_ready (rs := [17]) (by kernel_rfl) (by simp) ?_
        refine (AllReadyH.cons rfl (fun K hK => ?_) AllReadyH.nil)
        obtain ⟨W5, ap, hP, hG⟩ := appendAt (P := Try.prog) Kd.string flatS 23 9 (.string ⟨#[]⟩) 16 Try.underlying23 (by kernel_rfl) rfl (by decide) 23 W4 A0_2 c0_2 l0_2 g2 (Kd.C_below R2.out ((XB.out.trans (HB4.out.mono (by omega))))) F2.out
        have ZC : w.heap.size + 2 ≤ W4.heap.size := by have := HB4.out.size; have := ZB.out; omega
        have HB5 := Aside0.mk (nd_grown_below hG HB4.out ZC z2.out)
        replace P1 := Aside0.mk (P1.out.keep flat48 hG n12.out)
        replace F3 := Aside0.mk (F3.out.keep hG n32.out)
        have P2 := Aside0.mk hP
        clear hP hG ZC HB4 F2
        rw [if_pos (by kernel_rfl)]
        refine oper_append_ran (.tmp 17) (.tmp 19) 23 rfl _ _ _ rfl rfl ap ?_
        simp only [Act.put, List.getElem_toArray, List.getElem_cons_zero, List.getElem_cons_succ, List.setIfInBounds_toArray, List.set_cons_zero, List.set_cons_succ]
        clear ap
        refine hK.out _ _ ?_ (fun hNew => ?_)
        · exact ⟨(HB5.out.cell (p := ⟨w.heap.size, 0, none⟩) (by show w.heap.size < _; omega)).trans B0.out, (HB5.out.cell (p := ⟨w.heap.size, 1, none⟩) (by show w.heap.size < _; omega)).trans B1.out, (HB5.out.cell (p := ⟨w.heap.size, 2, none⟩) (by show w.heap.size < _; omega)).trans B2.out, (HB5.out.cell (p := ⟨w.heap.size, 3, none⟩) (by show w.heap.size < _; omega)).trans B3.out⟩
        clear hK K hHeld
        have hHeld := hNew
        clear hNew
        refine wpAnyH_ready (rs := [25]) (by kernel_rfl) (by simp) ?_
        refine (AllReadyH.cons rfl (fun K hK => ?_) AllReadyH.nil)
        obtain ⟨W6, ap, hP, hG⟩ := appendAt (P := Try.prog) (Kd.int .i64) flatI 24 3 (.int .i64 0) 8 Try.underlying24 (by kernel_rfl) rfl (by decide) 24 W5 A0_3 c0_3 l0_3 g3 (Kd.C_below R3.out ((XB.out.trans (HB5.out.mono (by omega))))) F3.out
        have ZC : w.heap.size + 2 ≤ W5.heap.size := by have := HB5.out.size; have := ZB.out; omega
        have HB6 := Aside0.mk (nd_grown_below hG HB5.out ZC z3.out)
        replace P1 := Aside0.mk (P1.out.keep flat48 hG n13.out)
        replace P2 := Aside0.mk (P2.out.keep flatS hG n23.out)
        have P3 := Aside0.mk hP
        clear hP hG ZC HB5 F3
        rw [if_pos (by kernel_rfl)]
        refine oper_append_ran (.tmp 25) (.tmp 27) 24 rfl _ _ _ rfl rfl ap ?_
        simp only [Act.put, List.getElem_toArray, List.getElem_cons_zero, List.getElem_cons_succ, List.setIfInBounds_toArray, List.set_cons_zero, List.set_cons_succ]
        clear ap
        refine hK.out _ _ ?_ (fun hNew => ?_)
        · exact ⟨(HB6.out.cell (p := ⟨w.heap.size, 0, none⟩) (by show w.heap.size < _; omega)).trans B0.out, (HB6.out.cell (p := ⟨w.heap.size, 1, none⟩) (by show w.heap.size < _; omega)).trans B1.out, (HB6.out.cell (p := ⟨w.heap.size, 2, none⟩) (by show w.heap.size < _; omega)).trans B2.out, (HB6.out.cell (p := ⟨w.heap.size, 3, none⟩) (by show w.heap.size < _; omega)).trans B3.out⟩
        clear hK K hHeld
        have hHeld := hNew
        clear hNew
        refine wpAnyH_take (i := 26) (oi := _) (v := _) rfl (by kernel_rfl) (by kernel_rfl) (by kernel_rfl) (fun _ _ _ h => h) (Or.inl ⟨by rfl, by (intro w hSw; (try dsimp only at hSw); go_simp; try with_reducible rfl)⟩) hHeld ?_
        simp only [Act.put, List.getElem_toArray, List.getElem_cons_zero, List.getElem_cons_succ, List.setIfInBounds_toArray, List.set_cons_zero, List.set_cons_succ]
        refine wpAnyH_ready (rs := [27]) (by kernel_rfl) (by simp) ?_
        refine AllReadyH.cons rfl (fun K hK => ?_) AllReadyH.nil
        have t6 : W6.heap[w.heap.size + 1]? = some (.cells #[.bool false, .slice none 0 0, .slice none 0 0, .slice none 0 0] 31 (0, 0)) := (HB6.out.block _ (by omega)).trans TB.out
        have c0 : W6.cell? ⟨w.heap.size + 1, 0, none⟩ = some (.bool false) := blk_cell t6 0
        have c1 : W6.cell? ⟨w.heap.size + 1, 1, none⟩ = some (.slice none 0 0) := blk_cell t6 1
        have c2 : W6.cell? ⟨w.heap.size + 1, 2, none⟩ = some (.slice none 0 0) := blk_cell t6 2
        have c3 : W6.cell? ⟨w.heap.size + 1, 3, none⟩ = some (.slice none 0 0) := blk_cell t6 3
        have f0 : W6.frozen? ⟨w.heap.size + 1, 0, none⟩ = false := blk_frozen t6 0
        have f1 : W6.frozen? ⟨w.heap.size + 1, 1, none⟩ = false := blk_frozen t6 1
        have f2 : W6.frozen? ⟨w.heap.size + 1, 2, none⟩ = false := blk_frozen t6 2
        have f3 : W6.frozen? ⟨w.heap.size + 1, 3, none⟩ = false := blk_frozen t6 3
        go_simp
        obtain ⟨W7, e7, t7, G7⟩ := nd_set4 W6 (w.heap.size + 1) 31 _ _ _ _ (.bool a0_0) (.slice (some ⟨g1, 0, none⟩) l0_1.length (l0_1.length + 1)) (.slice (some ⟨g2, 0, none⟩) l0_2.length (l0_2.length + 1)) (.slice (some ⟨g3, 0, none⟩) l0_3.length (l0_3.length + 1)) t6
        rw [← e7]
        have HB7 := Aside0.mk (nd_grown_below G7 (XB.out.trans (HB6.out.mono (by omega))) (by have := XB.out.size; have := HB6.out.size; omega) (by omega))
        have P1' := Aside0.mk (P1.out.keep flat48 G7 (by have := z1.out; omega))
        have P2' := Aside0.mk (P2.out.keep flatS G7 (by have := z2.out; omega))
        have P3' := Aside0.mk (P3.out.keep flatI G7 (by have := z3.out; omega))
        have r0 : W7.cell? ⟨w.heap.size + 1, 0, none⟩ = some (.bool a0_0) := blk_cell t7 0
        have r1 : W7.cell? ⟨w.heap.size + 1, 1, none⟩ = some (.slice (some ⟨g1, 0, none⟩) l0_1.length (l0_1.length + 1)) := blk_cell t7 1
        have r2 : W7.cell? ⟨w.heap.size + 1, 2, none⟩ = some (.slice (some ⟨g2, 0, none⟩) l0_2.length (l0_2.length + 1)) := blk_cell t7 2
        have r3 : W7.cell? ⟨w.heap.size + 1, 3, none⟩ = some (.slice (some ⟨g3, 0, none⟩) l0_3.length (l0_3.length + 1)) := blk_cell t7 3
        refine hK.out _ _ ⟨nd_grown_cell G7 (by show w.heap.size ≠ _; omega) hHeld.1, nd_grown_cell G7 (by show w.heap.size ≠ _; omega) hHeld.2.1, nd_grown_cell G7 (by show w.heap.size ≠ _; omega) hHeld.2.2.1, nd_grown_cell G7 (by show w.heap.size ≠ _; omega) hHeld.2.2.2⟩ (fun _ => ?_)
        clear hK K hHeld e7 G7 c0 c1 c2 c3 f0 f1 f2 f3 t6 P1 P2 P3 HB6
        refine wpAnyH_done (by kernel_rfl) ?_ _
        go_wp2
        refine bodyPost_ret (results_cell_row rfl _ _ (w.heap.size + 1) 31 #[.bool a0_0, .slice (some ⟨g1, 0, none⟩) l0_1.length (l0_1.length + 1), .slice (some ⟨g2, 0, none⟩) l0_2.length (l0_2.length + 1), .slice (some ⟨g3, 0, none⟩) l0_3.length (l0_3.length + 1)] (0, 0) _ rfl t7 Try.underlying31 rfl (by kernel_rfl)) rfl ?_
        exact ⟨g1, g2, g3, rfl, by have := z1.out; omega, by have := z2.out; omega, by have := z3.out; omega, n12.out, n13.out, n23.out, P1'.out, P2'.out, P3'.out, HB7.out⟩
      · obtain ⟨g2, W3, hg, mk, hF, hG⟩ := makeIn (P := Try.prog) Kd.string 23 9 (.string ⟨#[]⟩) 16 Try.underlying23 (by kernel_rfl) rfl W2 l0_2.length H2.out (by omega)
        have ZC : w.heap.size + 2 ≤ W2.heap.size := by have := HB2.out.size; have := ZB.out; omega
        have z2 : Aside0 (w.heap.size + 2 ≤ g2) := ⟨by omega⟩
        have n12 : Aside0 (g1 ≠ g2) := ⟨by have := F1.out.lt; omega⟩
        have n32 : Aside0 (g3 ≠ g2) := ⟨by have := F3.out.lt; omega⟩
        have n21 : Aside0 (g2 ≠ g1) := ⟨Ne.symm n12.out⟩
        have n23 : Aside0 (g2 ≠ g3) := ⟨Ne.symm n32.out⟩
        have HB3 := Aside0.mk (nd_grown_below hG HB2.out ZC z2.out)
        replace F1 := Aside0.mk (F1.out.keep hG n12.out)
        replace F3 := Aside0.mk (F3.out.keep hG n32.out)
        have F2 := Aside0.mk hF
        clear hF hG hg ZC HB2
        go_simp
        clear mk
        refine hK.out _ _ ?_ (fun hNew => ?_)
        · exact ⟨(HB3.out.cell (p := ⟨w.heap.size, 0, none⟩) (by show w.heap.size < _; omega)).trans B0.out, (HB3.out.cell (p := ⟨w.heap.size, 1, none⟩) (by show w.heap.size < _; omega)).trans B1.out, (HB3.out.cell (p := ⟨w.heap.size, 2, none⟩) (by show w.heap.size < _; omega)).trans B2.out, (HB3.out.cell (p := ⟨w.heap.size, 3, none⟩) (by show w.heap.size < _; omega)).trans B3.out⟩
        clear hK K hHeld
        have hHeld := hNew
        clear hNew
        refine wpAnyH_ready (rs := [9]) (by kernel_rfl) (by simp) ?_
        refine (AllReadyH.cons rfl (fun K hK => ?_) AllReadyH.nil)
        obtain ⟨W4, ap, hP, hG⟩ := appendAt (P := Try.prog) k48 flat48 22 48 (.agg #[(.string ⟨#[]⟩), (.string ⟨#[]⟩)]) 32 Try.underlying22 (by kernel_rfl) rfl (by decide) 22 W3 A0_1 c0_1 l0_1 g1 (Kd.C_below R1.out ((XB.out.trans (HB3.out.mono (by omega))))) F1.out
        have ZC : w.heap.size + 2 ≤ W3.heap.size := by have := HB3.out.size; have := ZB.out; omega
        have HB4 := Aside0.mk (nd_grown_below hG HB3.out ZC z1.out)
        replace F2 := Aside0.mk (F2.out.keep hG n21.out)
        replace F3 := Aside0.mk (F3.out.keep hG n31.out)
        have P1 := Aside0.mk hP
        clear hP hG ZC HB3 F1
        rw [if_pos (by kernel_rfl)]
        refine oper_append_ran (.tmp 9) (.tmp 11) 22 rfl _ _ _ rfl rfl ap ?_
        simp only [Act.put, List.getElem_toArray, List.getElem_cons_zero, List.getElem_cons_succ, List.setIfInBounds_toArray, List.set_cons_zero, List.set_cons_succ]
        clear ap
        refine hK.out _ _ ?_ (fun hNew => ?_)
        · exact ⟨(HB4.out.cell (p := ⟨w.heap.size, 0, none⟩) (by show w.heap.size < _; omega)).trans B0.out, (HB4.out.cell (p := ⟨w.heap.size, 1, none⟩) (by show w.heap.size < _; omega)).trans B1.out, (HB4.out.cell (p := ⟨w.heap.size, 2, none⟩) (by show w.heap.size < _; omega)).trans B2.out, (HB4.out.cell (p := ⟨w.heap.size, 3, none⟩) (by show w.heap.size < _; omega)).trans B3.out⟩
        clear hK K hHeld
        have hHeld := hNew
        clear hNew
        refine wpAnyH_ready (rs := [17]) (by kernel_rfl) (by simp) ?_
        refine (AllReadyH.cons rfl (fun K hK => ?_) AllReadyH.nil)
        obtain ⟨W5, ap, hP, hG⟩ := appendAt (P := Try.prog) Kd.string flatS 23 9 (.string ⟨#[]⟩) 16 Try.underlying23 (by kernel_rfl) rfl (by decide) 23 W4 A0_2 c0_2 l0_2 g2 (Kd.C_below R2.out ((XB.out.trans (HB4.out.mono (by omega))))) F2.out
        have ZC : w.heap.size + 2 ≤ W4.heap.size := by have := HB4.out.size; have := ZB.out; omega
        have HB5 := Aside0.mk (nd_grown_below hG HB4.out ZC z2.out)
        replace P1 := Aside0.mk (P1.out.keep flat48 hG n12.out)
        replace F3 := Aside0.mk (F3.out.keep hG n32.out)
        have P2 := Aside0.mk hP
        clear hP hG ZC HB4 F2
        rw [if_pos (by kernel_rfl)]
        refine oper_append_ran (.tmp 17) (.tmp 19) 23 rfl _ _ _ rfl rfl ap ?_
        simp only [Act.put, List.getElem_toArray, List.getElem_cons_zero, List.getElem_cons_succ, List.setIfInBounds_toArray, List.set_cons_zero, List.set_cons_succ]
        clear ap
        refine hK.out _ _ ?_ (fun hNew => ?_)
        · exact ⟨(HB5.out.cell (p := ⟨w.heap.size, 0, none⟩) (by show w.heap.size < _; omega)).trans B0.out, (HB5.out.cell (p := ⟨w.heap.size, 1, none⟩) (by show w.heap.size < _; omega)).trans B1.out, (HB5.out.cell (p := ⟨w.heap.size, 2, none⟩) (by show w.heap.size < _; omega)).trans B2.out, (HB5.out.cell (p := ⟨w.heap.size, 3, none⟩) (by show w.heap.size < _; omega)).trans B3.out⟩
        clear hK K hHeld
        have hHeld := hNew
        clear hNew
        refine wpAnyH_ready (rs := [25]) (by kernel_rfl) (by simp) ?_
        refine (AllReadyH.cons rfl (fun K hK => ?_) AllReadyH.nil)
        obtain ⟨W6, ap, hP, hG⟩ := appendAt (P := Try.prog) (Kd.int .i64) flatI 24 3 (.int .i64 0) 8 Try.underlying24 (by kernel_rfl) rfl (by decide) 24 W5 A0_3 c0_3 l0_3 g3 (Kd.C_below R3.out ((XB.out.trans (HB5.out.mono (by omega))))) F3.out
        have ZC : w.heap.size + 2 ≤ W5.heap.size := by have := HB5.out.size; have := ZB.out; omega
        have HB6 := Aside0.mk (nd_grown_below hG HB5.out ZC z3.out)
        replace P1 := Aside0.mk (P1.out.keep flat48 hG n13.out)
        replace P2 := Aside0.mk (P2.out.keep flatS hG n23.out)
        have P3 := Aside0.mk hP
        clear hP hG ZC HB5 F3
        rw [if_pos (by kernel_rfl)]
        refine oper_append_ran (.tmp 25) (.tmp 27) 24 rfl _ _ _ rfl rfl ap ?_
        simp only [Act.put, List.getElem_toArray, List.getElem_cons_zero, List.getElem_cons_succ, List.setIfInBounds_toArray, List.set_cons_zero, List.set_cons_succ]
        clear ap
        refine hK.out _ _ ?_ (fun hNew => ?_)
        · exact ⟨(HB6.out.cell (p := ⟨w.heap.size, 0, none⟩) (by show w.heap.size < _; omega)).trans B0.out, (HB6.out.cell (p := ⟨w.heap.size, 1, none⟩) (by show w.heap.size < _; omega)).trans B1.out, (HB6.out.cell (p := ⟨w.heap.size, 2, none⟩) (by show w.heap.size < _; omega)).trans B2.out, (HB6.out.cell (p := ⟨w.heap.size, 3, none⟩) (by show w.heap.size < _; omega)).trans B3.out⟩
        clear hK K hHeld
        have hHeld := hNew
        clear hNew
        refine wpAnyH_take (i := 26) (oi := _) (v := _) rfl (by kernel_rfl) (by kernel_rfl) (by kernel_rfl) (fun _ _ _ h => h) (Or.inl ⟨by rfl, by (intro w hSw; (try dsimp only at hSw); go_simp; try with_reducible rfl)⟩) hHeld ?_
        simp only [Act.put, List.getElem_toArray, List.getElem_cons_zero, List.getElem_cons_succ, List.setIfInBounds_toArray, List.set_cons_zero, List.set_cons_succ]
        refine wpAnyH_ready (rs := [27]) (by kernel_rfl) (by simp) ?_
        refine AllReadyH.cons rfl (fun K hK => ?_) AllReadyH.nil
        have t6 : W6.heap[w.heap.size + 1]? = some (.cells #[.bool false, .slice none 0 0, .slice none 0 0, .slice none 0 0] 31 (0, 0)) := (HB6.out.block _ (by omega)).trans TB.out
        have c0 : W6.cell? ⟨w.heap.size + 1, 0, none⟩ = some (.bool false) := blk_cell t6 0
        have c1 : W6.cell? ⟨w.heap.size + 1, 1, none⟩ = some (.slice none 0 0) := blk_cell t6 1
        have c2 : W6.cell? ⟨w.heap.size + 1, 2, none⟩ = some (.slice none 0 0) := blk_cell t6 2
        have c3 : W6.cell? ⟨w.heap.size + 1, 3, none⟩ = some (.slice none 0 0) := blk_cell t6 3
        have f0 : W6.frozen? ⟨w.heap.size + 1, 0, none⟩ = false := blk_frozen t6 0
        have f1 : W6.frozen? ⟨w.heap.size + 1, 1, none⟩ = false := blk_frozen t6 1
        have f2 : W6.frozen? ⟨w.heap.size + 1, 2, none⟩ = false := blk_frozen t6 2
        have f3 : W6.frozen? ⟨w.heap.size + 1, 3, none⟩ = false := blk_frozen t6 3
        go_simp
        obtain ⟨W7, e7, t7, G7⟩ := nd_set4 W6 (w.heap.size + 1) 31 _ _ _ _ (.bool a0_0) (.slice (some ⟨g1, 0, none⟩) l0_1.length (l0_1.length + 1)) (.slice (some ⟨g2, 0, none⟩) l0_2.length (l0_2.length + 1)) (.slice (some ⟨g3, 0, none⟩) l0_3.length (l0_3.length + 1)) t6
        rw [← e7]
        have HB7 := Aside0.mk (nd_grown_below G7 (XB.out.trans (HB6.out.mono (by omega))) (by have := XB.out.size; have := HB6.out.size; omega) (by omega))
        have P1' := Aside0.mk (P1.out.keep flat48 G7 (by have := z1.out; omega))
        have P2' := Aside0.mk (P2.out.keep flatS G7 (by have := z2.out; omega))
        have P3' := Aside0.mk (P3.out.keep flatI G7 (by have := z3.out; omega))
        have r0 : W7.cell? ⟨w.heap.size + 1, 0, none⟩ = some (.bool a0_0) := blk_cell t7 0
        have r1 : W7.cell? ⟨w.heap.size + 1, 1, none⟩ = some (.slice (some ⟨g1, 0, none⟩) l0_1.length (l0_1.length + 1)) := blk_cell t7 1
        have r2 : W7.cell? ⟨w.heap.size + 1, 2, none⟩ = some (.slice (some ⟨g2, 0, none⟩) l0_2.length (l0_2.length + 1)) := blk_cell t7 2
        have r3 : W7.cell? ⟨w.heap.size + 1, 3, none⟩ = some (.slice (some ⟨g3, 0, none⟩) l0_3.length (l0_3.length + 1)) := blk_cell t7 3
        refine hK.out _ _ ⟨nd_grown_cell G7 (by show w.heap.size ≠ _; omega) hHeld.1, nd_grown_cell G7 (by show w.heap.size ≠ _; omega) hHeld.2.1, nd_grown_cell G7 (by show w.heap.size ≠ _; omega) hHeld.2.2.1, nd_grown_cell G7 (by show w.heap.size ≠ _; omega) hHeld.2.2.2⟩ (fun _ => ?_)
        clear hK K hHeld e7 G7 c0 c1 c2 c3 f0 f1 f2 f3 t6 P1 P2 P3 HB6
        refine wpAnyH_done (by kernel_rfl) ?_ _
        go_wp2
        refine bodyPost_ret (results_cell_row rfl _ _ (w.heap.size + 1) 31 #[.bool a0_0, .slice (some ⟨g1, 0, none⟩) l0_1.length (l0_1.length + 1), .slice (some ⟨g2, 0, none⟩) l0_2.length (l0_2.length + 1), .slice (some ⟨g3, 0, none⟩) l0_3.length (l0_3.length + 1)] (0, 0) _ rfl t7 Try.underlying31 rfl (by kernel_rfl)) rfl ?_
        exact ⟨g1, g2, g3, rfl, by have := z1.out; omega, by have := z2.out; omega, by have := z3.out; omega, n12.out, n13.out, n23.out, P1'.out, P2'.out, P3'.out, HB7.out⟩
    · obtain ⟨g2, W2, hg, mk, hF, hG⟩ := makeIn (P := Try.prog) Kd.string 23 9 (.string ⟨#[]⟩) 16 Try.underlying23 (by kernel_rfl) rfl W1 l0_2.length H2.out (by omega)
      have ZC : w.heap.size + 2 ≤ W1.heap.size := by have := HB1.out.size; have := ZB.out; omega
      have z2 : Aside0 (w.heap.size + 2 ≤ g2) := ⟨by omega⟩
      have n32 : Aside0 (g3 ≠ g2) := ⟨by have := F3.out.lt; omega⟩
      have n23 : Aside0 (g2 ≠ g3) := ⟨Ne.symm n32.out⟩
      have HB2 := Aside0.mk (nd_grown_below hG HB1.out ZC z2.out)
      replace F3 := Aside0.mk (F3.out.keep hG n32.out)
      have F2 := Aside0.mk hF
      clear hF hG hg ZC HB1
      go_simp
      clear mk
      refine hK.out _ _ ?_ (fun hNew => ?_)
      · exact ⟨(HB2.out.cell (p := ⟨w.heap.size, 0, none⟩) (by show w.heap.size < _; omega)).trans B0.out, (HB2.out.cell (p := ⟨w.heap.size, 1, none⟩) (by show w.heap.size < _; omega)).trans B1.out, (HB2.out.cell (p := ⟨w.heap.size, 2, none⟩) (by show w.heap.size < _; omega)).trans B2.out, (HB2.out.cell (p := ⟨w.heap.size, 3, none⟩) (by show w.heap.size < _; omega)).trans B3.out⟩
      clear hK K hHeld
      have hHeld := hNew
      clear hNew
      refine wpAnyH_ready (rs := [6]) (by kernel_rfl) (by simp) ?_
      refine (AllReadyH.cons rfl (fun K hK => ?_) AllReadyH.nil)
      obtain ⟨g1, W3, hg, mk, hF, hG⟩ := makeIn (P := Try.prog) k48 22 48 (.agg #[(.string ⟨#[]⟩), (.string ⟨#[]⟩)]) 32 Try.underlying22 (by kernel_rfl) rfl W2 l0_1.length H1.out (by omega)
      have ZC : w.heap.size + 2 ≤ W2.heap.size := by have := HB2.out.size; have := ZB.out; omega
      have z1 : Aside0 (w.heap.size + 2 ≤ g1) := ⟨by omega⟩
      have n21 : Aside0 (g2 ≠ g1) := ⟨by have := F2.out.lt; omega⟩
      have n31 : Aside0 (g3 ≠ g1) := ⟨by have := F3.out.lt; omega⟩
      have n12 : Aside0 (g1 ≠ g2) := ⟨Ne.symm n21.out⟩
      have n13 : Aside0 (g1 ≠ g3) := ⟨Ne.symm n31.out⟩
      have HB3 := Aside0.mk (nd_grown_below hG HB2.out ZC z1.out)
      replace F2 := Aside0.mk (F2.out.keep hG n21.out)
      replace F3 := Aside0.mk (F3.out.keep hG n31.out)
      have F1 := Aside0.mk hF
      clear hF hG hg ZC HB2
      go_simp
      clear mk
      refine hK.out _ _ ?_ (fun hNew => ?_)
      · exact ⟨(HB3.out.cell (p := ⟨w.heap.size, 0, none⟩) (by show w.heap.size < _; omega)).trans B0.out, (HB3.out.cell (p := ⟨w.heap.size, 1, none⟩) (by show w.heap.size < _; omega)).trans B1.out, (HB3.out.cell (p := ⟨w.heap.size, 2, none⟩) (by show w.heap.size < _; omega)).trans B2.out, (HB3.out.cell (p := ⟨w.heap.size, 3, none⟩) (by show w.heap.size < _; omega)).trans B3.out⟩
      clear hK K hHeld
      have hHeld := hNew
      clear hNew
      refine wpAnyH_ready (rs := [9]) (by kernel_rfl) (by simp) ?_
      refine (AllReadyH.cons rfl (fun K hK => ?_) AllReadyH.nil)
      obtain ⟨W4, ap, hP, hG⟩ := appendAt (P := Try.prog) k48 flat48 22 48 (.agg #[(.string ⟨#[]⟩), (.string ⟨#[]⟩)]) 32 Try.underlying22 (by kernel_rfl) rfl (by decide) 22 W3 A0_1 c0_1 l0_1 g1 (Kd.C_below R1.out ((XB.out.trans (HB3.out.mono (by omega))))) F1.out
      have ZC : w.heap.size + 2 ≤ W3.heap.size := by have := HB3.out.size; have := ZB.out; omega
      have HB4 := Aside0.mk (nd_grown_below hG HB3.out ZC z1.out)
      replace F2 := Aside0.mk (F2.out.keep hG n21.out)
      replace F3 := Aside0.mk (F3.out.keep hG n31.out)
      have P1 := Aside0.mk hP
      clear hP hG ZC HB3 F1
      rw [if_pos (by kernel_rfl)]
      refine oper_append_ran (.tmp 9) (.tmp 11) 22 rfl _ _ _ rfl rfl ap ?_
      simp only [Act.put, List.getElem_toArray, List.getElem_cons_zero, List.getElem_cons_succ, List.setIfInBounds_toArray, List.set_cons_zero, List.set_cons_succ]
      clear ap
      refine hK.out _ _ ?_ (fun hNew => ?_)
      · exact ⟨(HB4.out.cell (p := ⟨w.heap.size, 0, none⟩) (by show w.heap.size < _; omega)).trans B0.out, (HB4.out.cell (p := ⟨w.heap.size, 1, none⟩) (by show w.heap.size < _; omega)).trans B1.out, (HB4.out.cell (p := ⟨w.heap.size, 2, none⟩) (by show w.heap.size < _; omega)).trans B2.out, (HB4.out.cell (p := ⟨w.heap.size, 3, none⟩) (by show w.heap.size < _; omega)).trans B3.out⟩
      clear hK K hHeld
      have hHeld := hNew
      clear hNew
      refine wpAnyH_ready (rs := [17]) (by kernel_rfl) (by simp) ?_
      refine (AllReadyH.cons rfl (fun K hK => ?_) AllReadyH.nil)
      obtain ⟨W5, ap, hP, hG⟩ := appendAt (P := Try.prog) Kd.string flatS 23 9 (.string ⟨#[]⟩) 16 Try.underlying23 (by kernel_rfl) rfl (by decide) 23 W4 A0_2 c0_2 l0_2 g2 (Kd.C_below R2.out ((XB.out.trans (HB4.out.mono (by omega))))) F2.out
      have ZC : w.heap.size + 2 ≤ W4.heap.size := by have := HB4.out.size; have := ZB.out; omega
      have HB5 := Aside0.mk (nd_grown_below hG HB4.out ZC z2.out)
      replace P1 := Aside0.mk (P1.out.keep flat48 hG n12.out)
      replace F3 := Aside0.mk (F3.out.keep hG n32.out)
      have P2 := Aside0.mk hP
      clear hP hG ZC HB4 F2
      rw [if_pos (by kernel_rfl)]
      refine oper_append_ran (.tmp 17) (.tmp 19) 23 rfl _ _ _ rfl rfl ap ?_
      simp only [Act.put, List.getElem_toArray, List.getElem_cons_zero, List.getElem_cons_succ, List.setIfInBounds_toArray, List.set_cons_zero, List.set_cons_succ]
      clear ap
      refine hK.out _ _ ?_ (fun hNew => ?_)
      · exact ⟨(HB5.out.cell (p := ⟨w.heap.size, 0, none⟩) (by show w.heap.size < _; omega)).trans B0.out, (HB5.out.cell (p := ⟨w.heap.size, 1, none⟩) (by show w.heap.size < _; omega)).trans B1.out, (HB5.out.cell (p := ⟨w.heap.size, 2, none⟩) (by show w.heap.size < _; omega)).trans B2.out, (HB5.out.cell (p := ⟨w.heap.size, 3, none⟩) (by show w.heap.size < _; omega)).trans B3.out⟩
      clear hK K hHeld
      have hHeld := hNew
      clear hNew
      refine wpAnyH_ready (rs := [25]) (by kernel_rfl) (by simp) ?_
      refine (AllReadyH.cons rfl (fun K hK => ?_) AllReadyH.nil)
      obtain ⟨W6, ap, hP, hG⟩ := appendAt (P := Try.prog) (Kd.int .i64) flatI 24 3 (.int .i64 0) 8 Try.underlying24 (by kernel_rfl) rfl (by decide) 24 W5 A0_3 c0_3 l0_3 g3 (Kd.C_below R3.out ((XB.out.trans (HB5.out.mono (by omega))))) F3.out
      have ZC : w.heap.size + 2 ≤ W5.heap.size := by have := HB5.out.size; have := ZB.out; omega
      have HB6 := Aside0.mk (nd_grown_below hG HB5.out ZC z3.out)
      replace P1 := Aside0.mk (P1.out.keep flat48 hG n13.out)
      replace P2 := Aside0.mk (P2.out.keep flatS hG n23.out)
      have P3 := Aside0.mk hP
      clear hP hG ZC HB5 F3
      rw [if_pos (by kernel_rfl)]
      refine oper_append_ran (.tmp 25) (.tmp 27) 24 rfl _ _ _ rfl rfl ap ?_
      simp only [Act.put, List.getElem_toArray, List.getElem_cons_zero, List.getElem_cons_succ, List.setIfInBounds_toArray, List.set_cons_zero, List.set_cons_succ]
      clear ap
      refine hK.out _ _ ?_ (fun hNew => ?_)
      · exact ⟨(HB6.out.cell (p := ⟨w.heap.size, 0, none⟩) (by show w.heap.size < _; omega)).trans B0.out, (HB6.out.cell (p := ⟨w.heap.size, 1, none⟩) (by show w.heap.size < _; omega)).trans B1.out, (HB6.out.cell (p := ⟨w.heap.size, 2, none⟩) (by show w.heap.size < _; omega)).trans B2.out, (HB6.out.cell (p := ⟨w.heap.size, 3, none⟩) (by show w.heap.size < _; omega)).trans B3.out⟩
      clear hK K hHeld
      have hHeld := hNew
      clear hNew
      refine wpAnyH_take (i := 26) (oi := _) (v := _) rfl (by kernel_rfl) (by kernel_rfl) (by kernel_rfl) (fun _ _ _ h => h) (Or.inl ⟨by rfl, by (intro w hSw; (try dsimp only at hSw); go_simp; try with_reducible rfl)⟩) hHeld ?_
      simp only [Act.put, List.getElem_toArray, List.getElem_cons_zero, List.getElem_cons_succ, List.setIfInBounds_toArray, List.set_cons_zero, List.set_cons_succ]
      refine wpAnyH_ready (rs := [27]) (by kernel_rfl) (by simp) ?_
      refine AllReadyH.cons rfl (fun K hK => ?_) AllReadyH.nil
      have t6 : W6.heap[w.heap.size + 1]? = some (.cells #[.bool false, .slice none 0 0, .slice none 0 0, .slice none 0 0] 31 (0, 0)) := (HB6.out.block _ (by omega)).trans TB.out
      have c0 : W6.cell? ⟨w.heap.size + 1, 0, none⟩ = some (.bool false) := blk_cell t6 0
      have c1 : W6.cell? ⟨w.heap.size + 1, 1, none⟩ = some (.slice none 0 0) := blk_cell t6 1
      have c2 : W6.cell? ⟨w.heap.size + 1, 2, none⟩ = some (.slice none 0 0) := blk_cell t6 2
      have c3 : W6.cell? ⟨w.heap.size + 1, 3, none⟩ = some (.slice none 0 0) := blk_cell t6 3
      have f0 : W6.frozen? ⟨w.heap.size + 1, 0, none⟩ = false := blk_frozen t6 0
      have f1 : W6.frozen? ⟨w.heap.size + 1, 1, none⟩ = false := blk_frozen t6 1
      have f2 : W6.frozen? ⟨w.heap.size + 1, 2, none⟩ = false := blk_frozen t6 2
      have f3 : W6.frozen? ⟨w.heap.size + 1, 3, none⟩ = false := blk_frozen t6 3
      go_simp
      obtain ⟨W7, e7, t7, G7⟩ := nd_set4 W6 (w.heap.size + 1) 31 _ _ _ _ (.bool a0_0) (.slice (some ⟨g1, 0, none⟩) l0_1.length (l0_1.length + 1)) (.slice (some ⟨g2, 0, none⟩) l0_2.length (l0_2.length + 1)) (.slice (some ⟨g3, 0, none⟩) l0_3.length (l0_3.length + 1)) t6
      rw [← e7]
      have HB7 := Aside0.mk (nd_grown_below G7 (XB.out.trans (HB6.out.mono (by omega))) (by have := XB.out.size; have := HB6.out.size; omega) (by omega))
      have P1' := Aside0.mk (P1.out.keep flat48 G7 (by have := z1.out; omega))
      have P2' := Aside0.mk (P2.out.keep flatS G7 (by have := z2.out; omega))
      have P3' := Aside0.mk (P3.out.keep flatI G7 (by have := z3.out; omega))
      have r0 : W7.cell? ⟨w.heap.size + 1, 0, none⟩ = some (.bool a0_0) := blk_cell t7 0
      have r1 : W7.cell? ⟨w.heap.size + 1, 1, none⟩ = some (.slice (some ⟨g1, 0, none⟩) l0_1.length (l0_1.length + 1)) := blk_cell t7 1
      have r2 : W7.cell? ⟨w.heap.size + 1, 2, none⟩ = some (.slice (some ⟨g2, 0, none⟩) l0_2.length (l0_2.length + 1)) := blk_cell t7 2
      have r3 : W7.cell? ⟨w.heap.size + 1, 3, none⟩ = some (.slice (some ⟨g3, 0, none⟩) l0_3.length (l0_3.length + 1)) := blk_cell t7 3
      refine hK.out _ _ ⟨nd_grown_cell G7 (by show w.heap.size ≠ _; omega) hHeld.1, nd_grown_cell G7 (by show w.heap.size ≠ _; omega) hHeld.2.1, nd_grown_cell G7 (by show w.heap.size ≠ _; omega) hHeld.2.2.1, nd_grown_cell G7 (by show w.heap.size ≠ _; omega) hHeld.2.2.2⟩ (fun _ => ?_)
      clear hK K hHeld e7 G7 c0 c1 c2 c3 f0 f1 f2 f3 t6 P1 P2 P3 HB6
      refine wpAnyH_done (by kernel_rfl) ?_ _
      go_wp2
      refine bodyPost_ret (results_cell_row rfl _ _ (w.heap.size + 1) 31 #[.bool a0_0, .slice (some ⟨g1, 0, none⟩) l0_1.length (l0_1.length + 1), .slice (some ⟨g2, 0, none⟩) l0_2.length (l0_2.length + 1), .slice (some ⟨g3, 0, none⟩) l0_3.length (l0_3.length + 1)] (0, 0) _ rfl t7 Try.underlying31 rfl (by kernel_rfl)) rfl ?_
      exact ⟨g1, g2, g3, rfl, by have := z1.out; omega, by have := z2.out; omega, by have := z3.out; omega, n12.out, n13.out, n23.out, P1'.out, P2'.out, P3'.out, HB7.out⟩
def cisternlaw11_of.f (a0_0 : Bool) (l0_1 : List (S48)) (l0_2 : List ByteArray) (l0_3 : List Int) : Option (Bool × List S48 × List ByteArray × List Int) := if 32 * (l0_1.length + 1) ≤ 281474976710656 ∧ 16 * (l0_2.length + 1) ≤ 281474976710656 ∧ 8 * (l0_3.length + 1) ≤ 281474976710656 then some (a0_0, l0_1, l0_2, l0_3) else none
theorem cisternlaw11_of.calls (a0_0 : Bool) (A0_1 : Option Addr) (c0_1 : Nat) (l0_1 : List (S48)) (A0_2 : Option Addr) (c0_2 : Nat) (l0_2 : List ByteArray) (A0_3 : Option Addr) (c0_3 : Nat) (l0_3 : List Int) (r1 : Bool) (r2 : List (S48)) (r3 : List ByteArray) (r4 : List Int) (w : World) (hr0_1 : Kd.C k48 w A0_1 l0_1.length l0_1) (hc0_1 : l0_1.length ≤ c0_1) (hr0_2 : Kd.C Kd.string w A0_2 l0_2.length l0_2) (hc0_2 : l0_2.length ≤ c0_2) (hr0_3 : Kd.C (Kd.int .i64) w A0_3 l0_3.length l0_3) (hc0_3 : l0_3.length ≤ c0_3) (h : cisternlaw11_of.f a0_0 l0_1 l0_2 l0_3 = some (r1, r2, r3, r4)) :
    Calls Try.prog 14 #[.agg #[.bool a0_0, .slice A0_1 l0_1.length c0_1, .slice A0_2 l0_2.length c0_2, .slice A0_3 l0_3.length c0_3]] w fun e w' => ∃ v1_ v2_ v3_ : Value, e = .returned (.agg #[.bool r1, v1_, v2_, v3_]) ∧ Kd.R k48 48 w' w.heap.size (fun _ => True) v1_ r2 ∧ Kd.R Kd.string 9 w' w.heap.size (fun _ => True) v2_ r3 ∧ Kd.R (Kd.int .i64) 3 w' w.heap.size (fun _ => True) v3_ r4 ∧ Below w.heap.size w w' := by
  unfold cisternlaw11_of.f at h
  split at h
  · rename_i hb
    cases h
    refine (of_strong a0_0 A0_1 c0_1 l0_1 A0_2 c0_2 l0_2 A0_3 c0_3 l0_3 w hr0_1 hr0_2 hr0_3 hb.1 hb.2.1 hb.2.2).mono ?_
    rintro e w' ⟨g1, g2, g3, rfl, z1, z2, z3, _, _, _, P1, P2, P3, B⟩
    exact ⟨_, _, _, rfl, P1.R flat48 (by decide) z1 (by have := hb.1; simp only [maxLen]; omega), P2.R flatS (by decide) z2 (by have := hb.2.1; simp only [maxLen]; omega), P3.R flatI (by decide) z3 (by have := hb.2.2; simp only [maxLen]; omega), B⟩
  · cases h
end
end Go.Proofs.Ytjjfeoigjhbbpaa.PA
namespace Go.Proofs.Ytjjfeoigjhbbpaa.PA
section

open Go.RowKit Go.Proofs.YtjjfeoigjhbbpaaW.PrintWords Go.Proofs.YtjjfeoigjhbbpaaW.PrintLast Go.Proofs.YtjjfeoigjhbbpaaW.PrintMore
attribute [local go_sem] pr_leq pr_geq pr_gtr max2_int min2_int max_two min_two max_three min_three max_four min_four
set_option linter.unusedVariables false
set_option linter.unusedSimpArgs false

-- NOT PRINTED: function 17 (cisternref11_DocSplit)
theorem R_empty {α : Type} (d : Kd α) (e : Nat) (w : World) : d.R e (w.alloc (.cells #[] e)) w.heap.size (fun _ => True) (.slice (some ⟨w.heap.size, 0, none⟩) 0 0) [] :=
  ⟨fun _ _ => trivial, [], ⟨by simp, Or.inr ⟨w.heap.size, 0, #[], rfl, Nat.le_refl _, heap_alloc_new w _, Nat.le_refl _, by decide, by simp, by simp⟩⟩, Reps.none _ _⟩
def api_Pair_44.f (l0 : List (S48)) : Option (List (S48)) := if l0.length * 32 ≤ 140737488355328 then some l0 else none
set_option maxHeartbeats 2000000 in
set_option maxRecDepth 100000 in
theorem api_Pair_44.calls (A0 : Option Addr) (c0 : Nat) (l0 : List (S48)) (r : List (S48)) (w : World) (hr0 : Kd.C k48 w A0 l0.length l0) (hc0 : l0.length ≤ c0) (h : api_Pair_44.f l0 = some r) :
    Calls Try.prog 44 #[.slice A0 l0.length c0] w fun e w' => ∃ v0_ : Value, e = .returned (v0_) ∧ Kd.R k48 48 w' w.heap.size (fun _ => True) v0_ r ∧ Below w.heap.size w w' := by
  unfold api_Pair_44.f at h
  split at h
  · rename_i hb
    cases h
    cases A0 with
    | none =>
      have h0 : l0 = [] := by
        rcases Nat.eq_zero_or_pos l0.length with h0 | h0
        · exact List.eq_nil_of_length_eq_zero h0
        · obtain ⟨ad, h, _⟩ := hr0.2.2 h0
          cases h
      subst h0
      clear hr0 hc0 hb
      have q : ∀ (w : World) (a : Option Addr) (n c n' c' : Nat), (binOp .eql 22 (.slice a n c) (.slice none n' c')).run Try.prog w = .ok (.bool a.isNone) w := fun w a n c n' c' => Lib.run_eql_slice_nil w _ _ a n c n' c' Try.underlying22
      go_enter Try.func44, Try.ntmps44
      go_wp2
      go_ret
      exact ⟨_, rfl, Kd.R_nil _ _ _ _ _, Below.refl _ _⟩
    | some ad =>
      have HR := Aside0.mk hr0
      have HB := Aside0.mk hb
      have RE := Aside0.mk (R_empty k48 48 w)
      have BA := Aside0.mk (below_alloc (Below.refl w.heap.size w) (.cells #[] 48))
      have SA : Aside0 (w.heap.size ≤ (w.alloc (.cells #[] 48)).heap.size) := ⟨BA.out.size⟩
      clear hr0 hc0 hb
      have q : ∀ (w : World) (a : Option Addr) (n c n' c' : Nat), (binOp .eql 22 (.slice a n c) (.slice none n' c')).run Try.prog w = .ok (.bool a.isNone) w := fun w a n c n' c' => Lib.run_eql_slice_nil w _ _ a n c n' c' Try.underlying22
      go_enter Try.func44, Try.ntmps44
      go_wp2_with (first | (at_builtin; refine Kd.R_append_rows k48 (Rr := Kd.K k48 w) (w0 := w) w.heap.size rfl (.tmp 5) (.tmp 6) 22 48 (.agg #[(.string ⟨#[]⟩), (.string ⟨#[]⟩)]) 32 rfl Try.underlying22 (by kernel_rfl) rfl (by decide) (by decide) _ [] l0 (some ad) l0.length c0 (fun _ => True) (fun k => k < w.heap.size) rfl rfl RE.out ?aR ?aK ?aO (fun _ _ => trivial) BA.out SA.out ?aL ?_) | fail)
      case aR => exact (Kd.C_below HR.out BA.out)
      case aK => exact fun x cs hx => flat48 _ _ _ _ _ _ hx
      case aO => exact fun k hk => ⟨trivial, fun e => by have := Option.some.inj e; simp at this; omega⟩
      case aL => simpa using HB.out
      intro v1 w1 hR hB _ _
      have H1 := Aside0.mk hR
      have H2 := Aside0.mk hB
      clear hR hB
      go_wp2
      go_ret
      exact ⟨_, rfl, H1.out, H2.out⟩
  · cases h
def slices_Clone_int_int.f (l0 : List Int) : Option (List Int) := if l0.length * 8 ≤ 140737488355328 then some l0 else none
set_option maxHeartbeats 2000000 in
set_option maxRecDepth 100000 in
theorem slices_Clone_int_int.calls (A0 : Option Addr) (c0 : Nat) (l0 : List Int) (r : List Int) (w : World) (hr0 : Kd.C (Kd.int .i64) w A0 l0.length l0) (hc0 : l0.length ≤ c0) (h : slices_Clone_int_int.f l0 = some r) :
    Calls Try.prog 42 #[.slice A0 l0.length c0] w fun e w' => ∃ v0_ : Value, e = .returned (v0_) ∧ Kd.R (Kd.int .i64) 3 w' w.heap.size (fun _ => True) v0_ r ∧ Below w.heap.size w w' := by
  unfold slices_Clone_int_int.f at h
  split at h
  · rename_i hb
    cases h
    cases A0 with
    | none =>
      have h0 : l0 = [] := by
        rcases Nat.eq_zero_or_pos l0.length with h0 | h0
        · exact List.eq_nil_of_length_eq_zero h0
        · obtain ⟨ad, h, _⟩ := hr0.2.2 h0
          cases h
      subst h0
      clear hr0 hc0 hb
      have q : ∀ (w : World) (a : Option Addr) (n c n' c' : Nat), (binOp .eql 24 (.slice a n c) (.slice none n' c')).run Try.prog w = .ok (.bool a.isNone) w := fun w a n c n' c' => Lib.run_eql_slice_nil w _ _ a n c n' c' Try.underlying24
      go_enter Try.func42, Try.ntmps42
      go_wp2
      go_ret
      exact ⟨_, rfl, Kd.R_nil _ _ _ _ _, Below.refl _ _⟩
    | some ad =>
      have HR := Aside0.mk hr0
      have HB := Aside0.mk hb
      have RE := Aside0.mk (R_empty (Kd.int .i64) 3 w)
      have BA := Aside0.mk (below_alloc (Below.refl w.heap.size w) (.cells #[] 3))
      have SA : Aside0 (w.heap.size ≤ (w.alloc (.cells #[] 3)).heap.size) := ⟨BA.out.size⟩
      clear hr0 hc0 hb
      have q : ∀ (w : World) (a : Option Addr) (n c n' c' : Nat), (binOp .eql 24 (.slice a n c) (.slice none n' c')).run Try.prog w = .ok (.bool a.isNone) w := fun w a n c n' c' => Lib.run_eql_slice_nil w _ _ a n c n' c' Try.underlying24
      go_enter Try.func42, Try.ntmps42
      go_wp2_with (first | (at_builtin; refine Kd.R_append_rows (Kd.int .i64) (Rr := Kd.K (Kd.int .i64) w) (w0 := w) w.heap.size rfl (.tmp 5) (.tmp 6) 24 3 (.int .i64 0) 8 rfl Try.underlying24 (by kernel_rfl) rfl (by decide) (by decide) _ [] l0 (some ad) l0.length c0 (fun _ => True) (fun k => k < w.heap.size) rfl rfl RE.out ?aR ?aK ?aO (fun _ _ => trivial) BA.out SA.out ?aL ?_) | fail)
      case aR => exact (Kd.C_below HR.out BA.out)
      case aK => exact fun x cs hx => flatI _ _ _ _ _ _ hx
      case aO => exact fun k hk => ⟨trivial, fun e => by have := Option.some.inj e; simp at this; omega⟩
      case aL => simpa using HB.out
      intro v1 w1 hR hB _ _
      have H1 := Aside0.mk hR
      have H2 := Aside0.mk hB
      clear hR hB
      go_wp2
      go_ret
      exact ⟨_, rfl, H1.out, H2.out⟩
  · cases h
def slices_Clone_string_string.f (l0 : List ByteArray) : Option (List ByteArray) := if l0.length * 16 ≤ 140737488355328 then some l0 else none
set_option maxHeartbeats 2000000 in
set_option maxRecDepth 100000 in
theorem slices_Clone_string_string.calls (A0 : Option Addr) (c0 : Nat) (l0 : List ByteArray) (r : List ByteArray) (w : World) (hr0 : Kd.C Kd.string w A0 l0.length l0) (hc0 : l0.length ≤ c0) (h : slices_Clone_string_string.f l0 = some r) :
    Calls Try.prog 43 #[.slice A0 l0.length c0] w fun e w' => ∃ v0_ : Value, e = .returned (v0_) ∧ Kd.R Kd.string 9 w' w.heap.size (fun _ => True) v0_ r ∧ Below w.heap.size w w' := by
  unfold slices_Clone_string_string.f at h
  split at h
  · rename_i hb
    cases h
    cases A0 with
    | none =>
      have h0 : l0 = [] := by
        rcases Nat.eq_zero_or_pos l0.length with h0 | h0
        · exact List.eq_nil_of_length_eq_zero h0
        · obtain ⟨ad, h, _⟩ := hr0.2.2 h0
          cases h
      subst h0
      clear hr0 hc0 hb
      have q : ∀ (w : World) (a : Option Addr) (n c n' c' : Nat), (binOp .eql 23 (.slice a n c) (.slice none n' c')).run Try.prog w = .ok (.bool a.isNone) w := fun w a n c n' c' => Lib.run_eql_slice_nil w _ _ a n c n' c' Try.underlying23
      go_enter Try.func43, Try.ntmps43
      go_wp2
      go_ret
      exact ⟨_, rfl, Kd.R_nil _ _ _ _ _, Below.refl _ _⟩
    | some ad =>
      have HR := Aside0.mk hr0
      have HB := Aside0.mk hb
      have RE := Aside0.mk (R_empty Kd.string 9 w)
      have BA := Aside0.mk (below_alloc (Below.refl w.heap.size w) (.cells #[] 9))
      have SA : Aside0 (w.heap.size ≤ (w.alloc (.cells #[] 9)).heap.size) := ⟨BA.out.size⟩
      clear hr0 hc0 hb
      have q : ∀ (w : World) (a : Option Addr) (n c n' c' : Nat), (binOp .eql 23 (.slice a n c) (.slice none n' c')).run Try.prog w = .ok (.bool a.isNone) w := fun w a n c n' c' => Lib.run_eql_slice_nil w _ _ a n c n' c' Try.underlying23
      go_enter Try.func43, Try.ntmps43
      go_wp2_with (first | (at_builtin; refine Kd.R_append_rows Kd.string (Rr := Kd.K Kd.string w) (w0 := w) w.heap.size rfl (.tmp 5) (.tmp 6) 23 9 (.string ⟨#[]⟩) 16 rfl Try.underlying23 (by kernel_rfl) rfl (by decide) (by decide) _ [] l0 (some ad) l0.length c0 (fun _ => True) (fun k => k < w.heap.size) rfl rfl RE.out ?aR ?aK ?aO (fun _ _ => trivial) BA.out SA.out ?aL ?_) | fail)
      case aR => exact (Kd.C_below HR.out BA.out)
      case aK => exact fun x cs hx => flatS _ _ _ _ _ _ hx
      case aO => exact fun k hk => ⟨trivial, fun e => by have := Option.some.inj e; simp at this; omega⟩
      case aL => simpa using HB.out
      intro v1 w1 hR hB _ _
      have H1 := Aside0.mk hR
      have H2 := Aside0.mk hB
      clear hR hB
      go_wp2
      go_ret
      exact ⟨_, rfl, H1.out, H2.out⟩
  · cases h


-- NOT PRINTED: function 18 (node_Split)
end
end Go.Proofs.Ytjjfeoigjhbbpaa.PA
namespace Go.Proofs.Ytjjfeoigjhbbpaa.PA
section

open Go.RowKit Go.Proofs.YtjjfeoigjhbbpaaW.PrintWords Go.Proofs.YtjjfeoigjhbbpaaW.PrintLast Go.Proofs.YtjjfeoigjhbbpaaW.PrintMore
attribute [local go_sem] pr_leq pr_geq pr_gtr max2_int min2_int max_two min_two max_three min_three max_four min_four
set_option linter.unusedVariables false
set_option linter.unusedSimpArgs false
theorem nd_put4 (W : World) (g t : Nat) (a0 a1 a2 a3 b0 b1 b2 b3 : Value) (h : W.heap[g]? = some (.cells #[a0, a1, a2, a3] t (0, 0))) :
    ((((W.setCell ⟨g, 0, none⟩ b0).setCell ⟨g, 1, none⟩ b1).setCell ⟨g, 2, none⟩ b2).setCell ⟨g, 3, none⟩ b3).heap[g]? = some (.cells #[b0, b1, b2, b3] t (0, 0)) := by
  obtain ⟨W7, rfl, h, _⟩ := nd_set4 W g t a0 a1 a2 a3 b0 b1 b2 b3 h
  exact h
theorem nd_grown4 (W : World) (g : Nat) (b0 b1 b2 b3 : Value) : W.grownBy ((((W.setCell ⟨g, 0, none⟩ b0).setCell ⟨g, 1, none⟩ b1).setCell ⟨g, 2, none⟩ b2).setCell ⟨g, 3, none⟩ b3) (some g) :=
  grown_setCells g [b0, b1, b2, b3] 0 W W ⟨rfl, rfl, rfl, Nat.le_refl _, fun _ _ _ => rfl⟩
end
end Go.Proofs.Ytjjfeoigjhbbpaa.PA
namespace Go.Proofs.Ytjjfeoigjhbbpaa.PA
section

open Go.RowKit Go.Proofs.YtjjfeoigjhbbpaaW.PrintWords Go.Proofs.YtjjfeoigjhbbpaaW.PrintLast Go.Proofs.YtjjfeoigjhbbpaaW.PrintMore
attribute [local go_sem] pr_leq pr_geq pr_gtr max2_int min2_int max_two min_two max_three min_three max_four min_four
set_option linter.unusedVariables false
set_option linter.unusedSimpArgs false
theorem one_sc {α : Type} {enc : α → Value} {h1 : ∀ x, (enc x).oneCell' = true} {w : World} {vb t : Nat} {p : α} (hv : w.heap[vb]? = some (.cells #[enc p] t (0, 0))) : ReadsRow ((Kd.scalar enc h1).K w) (Kd.scalar enc h1).sz w (some ⟨vb, 0, none⟩) 1 [p] := ⟨rfl, by decide, fun _ => ⟨_, rfl, fun j q hj => by
  cases j with
  | zero =>
    cases hj
    refine ⟨[enc p], rfl, rfl, fun i u hu => ?_⟩
    rw [add_plain, blk_cell hv]
    match i, hu with
    | 0, hu => exact hu
  | succ j => cases hj⟩⟩
end
end Go.Proofs.Ytjjfeoigjhbbpaa.PA
