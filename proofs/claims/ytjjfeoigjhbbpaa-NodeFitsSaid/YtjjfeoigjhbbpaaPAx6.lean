-- Laid by a program of this work over the seat's translation.
import Derived.Test.YtjjfeoigjhbbpaaPAx0
import Derived.Test.YtjjfeoigjhbbpaaPAx3
import Derived.Test.YtjjfeoigjhbbpaaPAx4
import Derived.Test.YtjjfeoigjhbbpaaPAx5
namespace Go.Proofs.Ytjjfeoigjhbbpaa.PA
open Go.RowKit Go.Proofs.YtjjfeoigjhbbpaaW.PrintWords Go.Proofs.YtjjfeoigjhbbpaaW.PrintLast Go.Proofs.YtjjfeoigjhbbpaaW.PrintMore
attribute [local go_sem] pr_leq pr_geq pr_gtr max2_int min2_int max_two min_two max_three min_three max_four min_four   -- for this text's walks alone
set_option linter.unusedVariables false
set_option linter.unusedSimpArgs false

/-! ### node_Encode: function 13 (by hand) -/
/-! ### strings.Builder (a builder of the call's own; the shelf's walks turned to this program) -/
theorem bd_size : (Try.prog.info? 68).map (·.size) = some 2 := by kernel_rfl
theorem bd_byte : (Try.prog.info? 5).map (fun i => (i.zero, i.size, i.bytes)) = some (some (.int .u8 0), 1, 1) := by kernel_rfl
/-- What a builder's call leaves as it is: every block that is neither the builder's nor one of bytes. -/
def Kb (b : Nat) (w w' : World) : Prop := ∀ k cs T, T ≠ 5 → k ≠ b → w.heap[k]? = some (.cells cs T (0, 0)) → w'.heap[k]? = some (.cells cs T (0, 0))
theorem Kb.refl (b : Nat) (w : World) : Kb b w w := fun _ _ _ _ _ h => h
theorem Kb.trans {b : Nat} {w w1 w2 : World} (h : Kb b w w1) (h' : Kb b w1 w2) : Kb b w w2 := fun k cs T hT hk hh => h' k cs T hT hk (h k cs T hT hk hh)
theorem Kb.set {b j : Nat} {w w1 : World} (h : Kb b w w1) (u : Value) : Kb b w (w1.setCell ⟨b, j, none⟩ u) := fun k cs T hT hk hh => (Below.heap_setCell w1 ⟨b, j, none⟩ u k hk).trans (h k cs T hT hk hh)
theorem Kb.alloc {b : Nat} {w w1 : World} (h : Kb b w w1) (o : Obj) : Kb b w (w1.alloc o) := fun k cs T hT hk hh => (Lib.alloc_old w1 o k (blk_lt (h k cs T hT hk hh))).trans (h k cs T hT hk hh)
theorem Kb.grown {b B n : Nat} {v : Value} {xs : List Value} {w w1 w2 : World} (h : Kb b w w1) (ho : w1.ownsRow B 5 1 v n xs) (hg : w1.grownBy w2 v.ownBlock) : Kb b w w2 := fun k cs T hT hk hh => by
  have h1 := h k cs T hT hk hh
  rw [hg.block k (blk_lt h1) (fun e => ?_)]
  · exact h1
  · obtain ⟨cells, hc⟩ := own_typed ho k e.symm
    rw [h1] at hc
    injection hc with hc
    injection hc with _ hc
    exact hT hc
def Bd (B b : Nat) (bs : List Value) (w : World) : Prop := Lib.IsBuilder 68 5 B b bs w
set_option maxRecDepth 100000 in
theorem copyCheck_used (b : Nat) (w : World) (h0 : w.cell? ⟨b, 0, none⟩ = some (.pointer (some ⟨b, 0, none⟩))) :
    Calls Try.prog 58 #[.pointer (some ⟨b, 0, none⟩)] w fun e w' => e = .returned (.tuple #[]) ∧ w' = w := by
  obtain ⟨j, hj, _⟩ := Option.map_eq_some_iff.1 bd_size
  go_enter Try.func58, Try.ntmps58
  go_wp2
  rw [Lib.run_neq_ptr_same w _ Try.underlying65 hj]
  go_wp2
  go_end0
  exact ⟨rfl, rfl⟩
set_option maxRecDepth 100000 in
theorem copyCheck_fresh (b : Nat) (w : World) (h0 : w.cell? ⟨b, 0, none⟩ = some (.pointer none)) (hsh : w.shape? b = some (68, 2)) (hfz : w.frozen? ⟨b, 0, none⟩ = false) :
    Calls Try.prog 58 #[.pointer (some ⟨b, 0, none⟩)] w fun e w' => e = .returned (.tuple #[]) ∧ w' = w.setCell ⟨b, 0, none⟩ (.pointer (some ⟨b, 0, none⟩)) := by
  obtain ⟨j, hj, hjs⟩ := Option.map_eq_some_iff.1 bd_size
  go_enter Try.func58, Try.ntmps58
  go_wp2
  rw [Lib.run_to_unsafe w ⟨b, 0, none⟩ Try.underlying65 Try.underlying120 hj (by rw [hjs]; decide) hsh (Nat.zero_lt_succ 1)]
  simp only [Result.andThen]
  rw [Oper.upon_value]
  go_wp2
  rw [run_callFunc_extern Try.func81 (by kernel_rfl) (by kernel_rfl) (by kernel_rfl) (e := Extern.AbiNoEscape.same) (by kernel_rfl)]
  rw [Lib.run_noEscape]
  simp only [Result.andThen]
  rw [Oper.upon_value]
  go_wp2
  rw [Lib.run_from_unsafe w ⟨b, 0, none⟩ Try.underlying120 Try.underlying65 hj hsh (by kernel_rfl)]
  simp only [Result.andThen]
  rw [Oper.upon_value]
  go_wp2
  go_end0
  exact ⟨rfl, rfl⟩
theorem copyCheck_calls (B b : Nat) (bs : List Value) (w : World) (h : Bd B b bs w) :
    Calls Try.prog 58 #[.pointer (some ⟨b, 0, none⟩)] w fun e w' => e = .returned (.tuple #[]) ∧ (Lib.BuilderAt 68 5 B b (.pointer (some ⟨b, 0, none⟩)) bs w' ∧ Below B w w' ∧ Kb b w w') := by
  rcases h with h | h
  · refine (copyCheck_fresh b w h.cell0 h.shape h.frozen0).mono ?_
    rintro e w' ⟨rfl, rfl⟩
    exact ⟨rfl, h.used _, (Below.refl B w).setCell (p := ⟨b, 0, none⟩) h.1 _, (Kb.refl b w).set _⟩
  · refine (copyCheck_used b w h.cell0).mono ?_
    rintro e w' ⟨rfl, rfl⟩
    exact ⟨rfl, h, Below.refl B _, Kb.refl b _⟩
set_option maxHeartbeats 2000000 in
set_option maxRecDepth 100000 in
theorem writeByte_calls (B b : Nat) (bs : List Value) (c : Int) (w : World) (h : Bd B b bs w) (hlen : bs.length + 1 ≤ 140737488355328) (hBw : B ≤ w.heap.size) :
    Calls Try.prog 36 #[.pointer (some ⟨b, 0, none⟩), .int .u8 c] w fun e w' => e = .returned .nilIface ∧ (Bd B b (bs ++ [.int .u8 c]) w' ∧ Below B w w' ∧ Kb b w w') := by
  obtain ⟨i0, hi, hzz⟩ := Option.map_eq_some_iff.1 bd_byte
  simp only [Prod.mk.injEq] at hzz
  obtain ⟨hz0, hz1, hz2⟩ := hzz
  go_enter Try.func36, Try.ntmps36
  go_wp2_with (first | (go_at_call 58; refine (copyCheck_calls B b bs _ h).mono ?_) | fail)
  rintro e w1 ⟨rfl, h1, hb1, hk1⟩
  obtain ⟨hB, v, hbk, hown, hne⟩ := h1
  have c0 : w1.cell? ⟨b, 0, none⟩ = some (.pointer (some ⟨b, 0, none⟩)) := by rw [Lib.cell_of_heap hbk]; rfl
  have c1 : w1.cell? ⟨b, 1, none⟩ = some v := by rw [Lib.cell_of_heap hbk]; rfl
  go_wp2_with (first | (at_builtin; refine wpList_append_own _ rfl _ _ 66 rfl B 5 i0 (.int .u8 0) 1 1 Try.underlying66 hi hz0 hz1 hz2 rfl (by decide) _ _ _ rfl (hown.alloc _) ⟨w1.heap.size, 0, none⟩ 1 1 [.int .u8 c] rfl rfl ?c1 ?c2 ?c3 ?c4 ?c5 ?_) | fail)
  case c1 =>
    intro j u hj
    match j, hj with
    | 0, hj => simp at hj; subst hj; simp [Addr.add]
  case c2 => intro u hu; simp at hu; subst hu; rfl
  case c3 => unfold maxLen; omega
  case c4 => omega
  case c5 => have := hb1.size; simp; omega
  intro v' w2 hown' hgrow _
  have hlt : b < w1.heap.size := by
    rcases Nat.lt_or_ge b w1.heap.size with h' | h'
    · exact h'
    · simp [Array.getElem?_eq_none h'] at hbk
  have hb2 : w2.heap[b]? = some (.cells #[.pointer (some ⟨b, 0, none⟩), v] 68 (0, 0)) := by
    rw [hgrow.block b (by simp; omega) (fun e => hne e.symm), Lib.alloc_old w1 _ b hlt]
    exact hbk
  have d0 : w2.cell? ⟨b, 0, none⟩ = some (.pointer (some ⟨b, 0, none⟩)) := by rw [Lib.cell_of_heap hb2]; rfl
  have d1 : w2.cell? ⟨b, 1, none⟩ = some v := by rw [Lib.cell_of_heap hb2]; rfl
  have f1 : w2.frozen? ⟨b, 1, none⟩ = false := Lib.frozen_of_heap hb2 1
  obtain ⟨g, cap, rfl⟩ : ∃ g cap, v' = .slice (some ⟨g, 0, none⟩) (bs.length + 1) cap := by
    rcases hown'.2 with ⟨_, h0⟩ | ⟨g, cap, cur, hv, _⟩
    · omega
    · exact ⟨g, cap, hv⟩
  go_wp2
  go_ret
  refine ⟨rfl, Or.inr ?_, ?_, ((hk1.alloc _).grown (hown.alloc _) hgrow).set _⟩
  · exact Lib.BuilderAt.put (T := 68) (e := 5) hB hb2 (bs' := bs ++ [.int .u8 c]) (by simpa using hown') (by decide)
  · exact ((hb1.alloc (by have := hb1.size; omega) _).grown hgrow (by have := hb1.size; simp; omega) (fun k hk => (hown.lt k hk).1)).setCell (p := ⟨b, 1, none⟩) hB _
set_option maxHeartbeats 2000000 in
set_option maxRecDepth 100000 in
theorem writeString_calls (B b : Nat) (bs : List Value) (s : ByteArray) (w : World) (h : Bd B b bs w) (hlen : bs.length + s.size ≤ 140737488355328) (hBw : B ≤ w.heap.size) :
    Calls Try.prog 37 #[.pointer (some ⟨b, 0, none⟩), .string s] w fun e w' => e = .returned (.tuple #[.int .i64 s.size, .nilIface]) ∧ (Bd B b (bs ++ Lib.strCells s) w' ∧ Below B w w' ∧ Kb b w w') := by
  obtain ⟨i0, hi, hzz⟩ := Option.map_eq_some_iff.1 bd_byte
  simp only [Prod.mk.injEq] at hzz
  obtain ⟨hz0, hz1, hz2⟩ := hzz
  go_enter Try.func37, Try.ntmps37
  go_wp2_with (first | (go_at_call 58; refine (copyCheck_calls B b bs _ h).mono ?_) | fail)
  rintro e w1 ⟨rfl, h1, hb1, hk1⟩
  obtain ⟨hB, v, hbk, hown, hne⟩ := h1
  have c0 : w1.cell? ⟨b, 0, none⟩ = some (.pointer (some ⟨b, 0, none⟩)) := by rw [Lib.cell_of_heap hbk]; rfl
  have c1 : w1.cell? ⟨b, 1, none⟩ = some v := by rw [Lib.cell_of_heap hbk]; rfl
  go_wp2_with (first | (at_builtin; refine Lib.wpList_append_own_string _ rfl _ _ 66 9 rfl B 5 i0 Try.underlying66 Try.underlying9 hi hz0 hz1 hz2 _ _ _ rfl hown s rfl ?c3 ?c4 ?c5 ?_) | fail)
  case c3 => unfold maxLen; omega
  case c4 => omega
  case c5 => have := hb1.size; omega
  intro v' w2 hown' hgrow _
  have hlt : b < w1.heap.size := by
    rcases Nat.lt_or_ge b w1.heap.size with h' | h'
    · exact h'
    · simp [Array.getElem?_eq_none h'] at hbk
  have hb2 : w2.heap[b]? = some (.cells #[.pointer (some ⟨b, 0, none⟩), v] 68 (0, 0)) := by
    rw [hgrow.block b hlt (fun e => hne e.symm)]
    exact hbk
  have d0 : w2.cell? ⟨b, 0, none⟩ = some (.pointer (some ⟨b, 0, none⟩)) := by rw [Lib.cell_of_heap hb2]; rfl
  have d1 : w2.cell? ⟨b, 1, none⟩ = some v := by rw [Lib.cell_of_heap hb2]; rfl
  have f1 : w2.frozen? ⟨b, 1, none⟩ = false := Lib.frozen_of_heap hb2 1
  obtain ⟨ao, n', cap, rfl⟩ : ∃ ao n' cap, v' = .slice ao n' cap := by
    rcases hown'.2 with ⟨hv, _⟩ | ⟨g, cap, cur, hv, _⟩
    · exact ⟨_, _, _, hv⟩
    · exact ⟨_, _, _, hv⟩
  go_wp2
  go_ret2
  refine ⟨rfl, Or.inr ?_, ?_, (hk1.grown hown hgrow).set _⟩
  · exact Lib.BuilderAt.put (T := 68) (e := 5) hB hb2 (bs' := bs ++ Lib.strCells s) (by simpa [Lib.strCells_length] using hown') (by decide)
  · exact (hb1.grown hgrow (by have := hb1.size; omega) (fun k hk => (hown.lt k hk).1)).setCell (p := ⟨b, 1, none⟩) hB _
set_option maxHeartbeats 1000000 in
set_option maxRecDepth 100000 in
theorem builderString_calls (B b : Nat) (l : List UInt8) (w : World) (h : Bd B b (Lib.byteCells l) w) (h0 : l ≠ []) :
    Calls Try.prog 38 #[.pointer (some ⟨b, 0, none⟩)] w fun e w' => e = .returned (.string ⟨l.toArray⟩) ∧ Below B w w' := by
  obtain ⟨p, hB, v, hbk, hown, hne⟩ : ∃ p, Lib.BuilderAt 68 5 B b p (Lib.byteCells l) w := by
    rcases h with h | h
    · exact ⟨_, h⟩
    · exact ⟨_, h⟩
  have hl0 : l.length ≠ 0 := by simpa using h0
  rw [Lib.byteCells_length] at hown
  obtain ⟨g, cap, cur, rfl, hbg, hg, hnc, hcm, hcs, htake⟩ : ∃ g cap cur, v = .slice (some ⟨g, 0, none⟩) l.length cap ∧ B ≤ g ∧ w.heap[g]? = some (.cells cur 5 (0, 0)) ∧ l.length ≤ cap ∧ cap ≤ maxLen ∧ cur.size = cap * 1 ∧ cur.toList.take (l.length * 1) = Lib.byteCells l := by
    rcases hown.2 with ⟨_, hz⟩ | ⟨g, cap, cur, hv, r⟩
    · exact absurd hz hl0
    · exact ⟨g, cap, cur, hv, r⟩
  have c1 : w.drew.cell? ⟨b, 1, none⟩ = some (.slice (some ⟨g, 0, none⟩) l.length cap) := by
    have : w.drew.heap[b]? = some (.cells #[p, .slice (some ⟨g, 0, none⟩) l.length cap] 68 (0, 0)) := hbk
    rw [Lib.cell_of_heap this]; rfl
  have hSD : (Builtin.unsafeSliceData_ #[66] 97 #[.slice (some ⟨g, 0, none⟩) l.length cap]).run Try.prog w.drew = .ok (.pointer (some ⟨g, 0, none⟩)) w.drew :=
    Lib.run_unsafeSliceData_row _ _ _ _ _ _ (by omega)
  have hUS : (Builtin.unsafeString_ #[97, 3] 9 #[.pointer (some ⟨g, 0, none⟩), .int .i64 l.length]).run Try.prog w.drew = .ok (.string ⟨l.toArray⟩) (w.drew.freeze ⟨g, 0, none⟩ l.length) := by
    refine Lib.run_unsafeString_row w.drew 97 3 9 5 Try.underlying97 (by kernel_rfl) g cur.size (by have hg' : w.drew.heap[g]? = some (.cells cur 5 (0, 0)) := hg; simp [World.shape?, hg']) l h0 (by omega) (by unfold maxLen at hcm; omega) ?_
    intro j x hx
    have := hown.cells (g := g) rfl j (.int .u8 x.toNat) (by simp [Lib.byteCells, hx])
    exact this
  go_enter Try.func38, Try.ntmps38
  go_wp2
  go_region
  all_goals (go_wp2; go_ret; exact ⟨rfl, Lib.below_freeze (Below.drew (Below.refl B w)) (p := ⟨g, 0, none⟩) hbg _⟩)

/-! ### A node's bytes and their number -/
def textL (s : ByteArray) : List UInt8 := UInt8.ofNat s.size :: s.data.toList
def pairL (p : S48) : List UInt8 := textL p.f0 ++ textL p.f1
def kidL (k : Int) : List UInt8 := [UInt8.ofNat (k % 256).toNat, UInt8.ofNat (k / 256 % 256).toNat]
def encL (lf : Bool) (P : List S48) (K : List ByteArray) (D : List Int) : List UInt8 := if lf then 1 :: UInt8.ofNat P.length :: P.flatMap pairL else 2 :: UInt8.ofNat D.length :: (D.flatMap kidL ++ K.flatMap textL)
def weightN (P : List S48) : Nat := (P.map fun p => 2 + p.f0.size + p.f1.size).sum
def sizeN (lf : Bool) (P : List S48) (K : List ByteArray) (D : List Int) : Nat := if lf then 2 + weightN P else 2 + 2 * D.length + (K.map fun k => 1 + k.size).sum
theorem textL_length (s : ByteArray) : (textL s).length = 1 + s.size := by
  have h : s.data.toList.length = s.size := rfl
  unfold textL
  rw [List.length_cons, h]
  omega
theorem pairL_length (p : S48) : (pairL p).length = 2 + p.f0.size + p.f1.size := by
  unfold pairL
  rw [List.length_append, textL_length, textL_length]
  omega
theorem pairs_length (P : List S48) : (P.flatMap pairL).length = weightN P := by
  unfold weightN
  rw [List.length_flatMap]
  congr 1
  exact List.map_congr_left fun p _ => pairL_length p
theorem keys_length (K : List ByteArray) : (K.flatMap textL).length = (K.map fun k => 1 + k.size).sum := by
  rw [List.length_flatMap]
  congr 1
  exact List.map_congr_left fun p _ => textL_length p
theorem kids_length (D : List Int) : (D.flatMap kidL).length = 2 * D.length := by
  induction D with
  | nil => rfl
  | cons k D ih => rw [List.flatMap_cons, List.length_append, ih, List.length_cons]; show 2 + _ = _; omega
theorem encL_length (lf : Bool) (P : List S48) (K : List ByteArray) (D : List Int) : (encL lf P K D).length = sizeN lf P K D := by
  unfold encL sizeN
  cases lf
  · simp only [Bool.false_eq_true, if_false, List.length_cons, List.length_append, kids_length, keys_length]
    omega
  · simp only [if_true, List.length_cons, pairs_length]
    omega
theorem wrap_small {n : Nat} (h : n ≤ 20912) : wrap64 (n : Int) = (n : Int) := by unfold wrap64; omega
theorem w64_l (a b : Int) : wrap64 (wrap64 a + b) = wrap64 (a + b) := by unfold wrap64; omega
theorem w64_r (a b : Int) : wrap64 (a + wrap64 b) = wrap64 (a + b) := by unfold wrap64; omega
theorem weight_l0 (l : List S48) (hl : l.length ≤ 9223372036854775807) : ∀ (k i : Nat) (x : Int), i ≤ l.length → l.length - i < k → node_weight.l0 k (wrap64 x) l (l.length : Int) (i : Int) = some (wrap64 (x + (weightN (l.drop i) : Nat)))
  | 0, _, _, _, h => by omega
  | k + 1, i, x, hi, hk => by
    unfold node_weight.l0
    by_cases h : i < l.length
    · have e1 : wrap64 ((i : Int) + 1) = ((i + 1 : Nat) : Int) := by unfold wrap64; omega
      have e2 : rd_T48 l (i : Int) = l[i] := by unfold rd_T48; rw [Int.toNat_natCast, List.getD_eq_getElem?_getD, List.getElem?_eq_getElem h]; rfl
      have e3 : weightN (l.drop i) = 2 + l[i].f0.size + l[i].f1.size + weightN (l.drop (i + 1)) := by
        unfold weightN
        rw [List.drop_eq_getElem_cons h, List.map_cons, List.sum_cons]
      rw [if_pos (by omega), if_pos (by omega), if_pos (by omega), e1, e2]
      have e4 : wrap64 (wrap64 x + wrap64 (wrap64 (2 + (l[i].f0.size : Int)) + (l[i].f1.size : Int))) = wrap64 (x + (2 + l[i].f0.size + l[i].f1.size : Nat)) := by
        simp only [w64_l, w64_r]
        congr 1
      rw [e4, weight_l0 l hl k (i + 1) _ (by omega) (by omega), e3]
      congr 2
      omega
    · rw [if_neg (by omega), List.drop_eq_nil_of_le (by omega)]
      congr 2
      show x = x + ((0 : Nat) : Int)
      omega
theorem weight_val (l : List S48) (hl : l.length ≤ 9223372036854775807) (k : Nat) (hk : l.length < k) : node_weight.f k l = some (wrap64 (weightN l : Nat)) := by
  have h := weight_l0 l hl k 0 0 (by omega) (by omega)
  unfold node_weight.f
  have e : wrap64 0 = 0 := by unfold wrap64; omega
  rw [e] at h
  rw [Int.ofNat_zero] at h
  rw [h, List.drop_zero, Int.zero_add]
theorem size_l0 (l : List ByteArray) (hl : l.length ≤ 9223372036854775807) : ∀ (k i : Nat) (x : Int), i ≤ l.length → l.length - i < k → node_Size.l0 k (wrap64 x) l (l.length : Int) (i : Int) = some (wrap64 (x + (((l.drop i).map fun s => 1 + s.size).sum : Nat)))
  | 0, _, _, _, h => by omega
  | k + 1, i, x, hi, hk => by
    unfold node_Size.l0
    by_cases h : i < l.length
    · have e1 : wrap64 ((i : Int) + 1) = ((i + 1 : Nat) : Int) := by unfold wrap64; omega
      have e2 : rdOf ByteArray.empty l (i : Int) = l[i] := by unfold rdOf; rw [Int.toNat_natCast, List.getD_eq_getElem?_getD, List.getElem?_eq_getElem h]; rfl
      have e3 : ((l.drop i).map fun s => 1 + s.size).sum = 1 + l[i].size + ((l.drop (i + 1)).map fun s => 1 + s.size).sum := by
        rw [List.drop_eq_getElem_cons h, List.map_cons, List.sum_cons]
      rw [if_pos (by omega), if_pos (by omega), if_pos (by omega), e1, e2]
      have e4 : wrap64 (wrap64 x + wrap64 (1 + (l[i].size : Int))) = wrap64 (x + (1 + l[i].size : Nat)) := by
        simp only [w64_l, w64_r]
        congr 1
      rw [e4, size_l0 l hl k (i + 1) _ (by omega) (by omega), e3]
      congr 2
      omega
    · rw [if_neg (by omega), List.drop_eq_nil_of_le (by omega)]
      congr 2
      show x = x + ((0 : Nat) : Int)
      omega
theorem size_val (lf : Bool) (P : List S48) (K : List ByteArray) (D : List Int) (h1 : P.length ≤ 9223372036854775807) (h2 : K.length ≤ 9223372036854775807) (k : Nat) (hk1 : P.length < k) (hk2 : K.length < k) : node_Size.f k lf P K D = some (wrap64 (sizeN lf P K D : Nat)) := by
  unfold node_Size.f sizeN
  cases lf
  · have h := size_l0 K h2 k 0 (2 + 2 * (D.length : Int)) (by omega) (by omega)
    rw [if_neg (by decide), if_neg (by decide)]
    have e : wrap64 (2 + wrap64 (2 * (D.length : Int))) = wrap64 (2 + 2 * (D.length : Int)) := w64_r _ _
    rw [e, ← Int.ofNat_zero, h, List.drop_zero]
    congr 2
  · rw [if_pos rfl, if_pos rfl, weight_val P h1 k hk1]
    show some (wrap64 (2 + wrap64 _)) = _
    rw [w64_r]
    rfl
theorem nd_toList (a : ByteArray) : a.toList = a.data.toList := by
  have key : ∀ (d i : Nat) (r : List UInt8), i + d = a.size → ByteArray.toList.loop a i r = r.reverse ++ a.data.toList.drop i := by
    intro d
    induction d with
    | zero =>
      intro i r h
      unfold ByteArray.toList.loop
      rw [if_neg (by omega), List.drop_eq_nil_of_le (by simp; show a.size ≤ i; omega), List.append_nil]
    | succ d ih =>
      intro i r h
      have hi : i < a.data.toList.length := by simp; show i < a.size; omega
      unfold ByteArray.toList.loop
      rw [if_pos (by omega), ih (i + 1) _ (by omega), List.drop_eq_getElem_cons hi]
      have : a.get! i = a.data.toList[i] := by
        cases a with
        | mk bs =>
          simp at hi
          show bs[i]! = _
          rw [getElem!_pos bs i hi]
          simp
      simp [this]
  have := key a.size 0 [] (by omega)
  simpa [ByteArray.toList] using this
theorem keyB_size {s : ByteArray} (h : keyB s = true) : 1 ≤ s.size ∧ s.size ≤ 32 := by
  unfold keyB at h
  split at h
  · cases h
  · rename_i hn
    have := of_decide_eq_true h
    refine ⟨?_, by omega⟩
    rcases Nat.eq_zero_or_pos s.size with h0 | h0
    · exfalso
      apply hn
      have : s.toList.length = s.size := by rw [nd_toList]; rfl
      exact List.eq_nil_of_length_eq_zero (by omega)
    · omega
theorem weight_le (P : List S48) (h : P.any badP = false) : weightN P ≤ 82 * P.length := by
  unfold weightN
  induction P with
  | nil => simp
  | cons p P ih =>
    rw [List.any_cons, Bool.or_eq_false_iff] at h
    have h2 := ih h.2
    have h1 := h.1
    unfold badP at h1
    simp only [Bool.or_eq_false_iff, Bool.not_eq_false', decide_eq_false_iff_not] at h1
    have := keyB_size h1.1
    rw [List.map_cons, List.sum_cons, List.length_cons]
    omega
theorem keys_le (K : List ByteArray) (h : K.any badS = false) : (K.map fun k => 1 + k.size).sum ≤ 33 * K.length := by
  induction K with
  | nil => simp
  | cons p P ih =>
    rw [List.any_cons, Bool.or_eq_false_iff] at h
    have h2 := ih h.2
    have h1 := h.1
    unfold badS at h1
    rw [Bool.not_eq_false'] at h1
    have := keyB_size h1
    rw [List.map_cons, List.sum_cons, List.length_cons]
    omega
theorem leafV_true {lf : Bool} {P : List S48} {K : List ByteArray} {D : List Int} (h : leafV lf P K D = true) : lf = true ∧ K = [] ∧ D = [] ∧ P.length ≤ 255 ∧ P.any badP = false ∧ risesB (P.map (·.f0)) = true := by
  unfold leafV at h
  simp only [Bool.and_eq_true, decide_eq_true_eq, Bool.not_eq_true'] at h
  obtain ⟨⟨⟨⟨h1, h2⟩, h3⟩, h4⟩, h5⟩ := h
  exact ⟨h1, List.eq_nil_of_length_eq_zero (by omega), List.eq_nil_of_length_eq_zero (by omega), h3, h4, h5⟩
theorem innerV_true {lf : Bool} {P : List S48} {K : List ByteArray} {D : List Int} (h : innerV lf P K D = true) : lf = false ∧ P = [] ∧ 1 ≤ D.length ∧ D.length ≤ 255 ∧ K.length + 1 = D.length ∧ K.any badS = false ∧ D.any badI = false ∧ risesB K = true := by
  unfold innerV at h
  simp only [Bool.and_eq_true, decide_eq_true_eq, Bool.not_eq_true'] at h
  obtain ⟨⟨⟨⟨⟨⟨⟨h1, h2⟩, h3⟩, h4⟩, h5⟩, h6⟩, h7⟩, h8⟩ := h
  exact ⟨h1, List.eq_nil_of_length_eq_zero h2, h3, h4, h5, h6, h7, h8⟩
theorem size_form {lf : Bool} {P : List S48} {K : List ByteArray} {D : List Int} (h : (leafV lf P K D || innerV lf P K D) = true) : sizeN lf P K D ≤ 20912 := by
  rcases Bool.or_eq_true_iff.1 h with h | h
  · obtain ⟨rfl, rfl, rfl, h1, h2, _⟩ := leafV_true h
    have := weight_le P h2
    show 2 + weightN P ≤ _
    omega
  · obtain ⟨rfl, rfl, h1, h2, h3, h4, _⟩ := innerV_true h
    have := keys_le K h4
    show 2 + 2 * D.length + (K.map fun k => 1 + k.size).sum ≤ _
    omega
theorem check_val (lf : Bool) (P : List S48) (K : List ByteArray) (D : List Int) : node_Check.f lf P K D = some (if (leafV lf P K D || innerV lf P K D) = true then 0 else 2) := by
  unfold node_Check.f node_Node_leaf.f node_Node_inner.f
  rw [Option.bind_some, Option.bind_some]
  cases leafV lf P K D <;> cases innerV lf P K D <;> rfl
theorem pair_size {P : List S48} (h : P.any badP = false) (x : S48) (hx : x ∈ P) : x.f0.size ≤ 32 ∧ x.f1.size ≤ 48 ∧ 1 ≤ x.f0.size := by
  have h1 := (List.any_eq_false.1 h) x hx
  unfold badP at h1
  rw [Bool.not_eq_true, Bool.or_eq_false_iff, Bool.not_eq_false', decide_eq_false_iff_not] at h1
  have := keyB_size h1.1
  omega
theorem key_size {K : List ByteArray} (h : K.any badS = false) (x : ByteArray) (hx : x ∈ K) : x.size ≤ 32 ∧ 1 ≤ x.size := by
  have h1 := (List.any_eq_false.1 h) x hx
  unfold badS at h1
  rw [Bool.not_eq_true, Bool.not_eq_false'] at h1
  have := keyB_size h1
  omega
theorem kid_size {D : List Int} (h : D.any badI = false) (x : Int) (hx : x ∈ D) : 1 ≤ x ∧ x ≤ 65535 := by
  have h1 := (List.any_eq_false.1 h) x hx
  unfold badI at h1
  rw [Bool.not_eq_true, Bool.or_eq_false_iff, decide_eq_false_iff_not, decide_eq_false_iff_not] at h1
  omega
theorem pairs_take (P : List S48) (m : Nat) (h : m < P.length) : ((P.take m).flatMap pairL).length + (pairL P[m]).length ≤ (P.flatMap pairL).length := by
  have e : P.flatMap pairL = (P.take (m + 1)).flatMap pairL ++ (P.drop (m + 1)).flatMap pairL := by rw [← List.flatMap_append, List.take_append_drop]
  rw [e, List.length_append, List.take_succ_eq_append_getElem h, List.flatMap_append, List.length_append, List.flatMap_cons, List.flatMap_nil, List.append_nil]
  omega
theorem keys_take (P : List ByteArray) (m : Nat) (h : m < P.length) : ((P.take m).flatMap textL).length + (textL P[m]).length ≤ (P.flatMap textL).length := by
  have e : P.flatMap textL = (P.take (m + 1)).flatMap textL ++ (P.drop (m + 1)).flatMap textL := by rw [← List.flatMap_append, List.take_append_drop]
  rw [e, List.length_append, List.take_succ_eq_append_getElem h, List.flatMap_append, List.length_append, List.flatMap_cons, List.flatMap_nil, List.append_nil]
  omega
/-! ### The builder's bytes -/
def BdL (B b : Nat) (l : List UInt8) (w : World) : Prop := Bd B b (Lib.byteCells l) w
theorem BdL.below {B b : Nat} {l : List UInt8} {w w1 : World} (h : BdL B b l w) (hb : Below w.heap.size w w1) : BdL B b l w1 := by
  have key : ∀ p, Lib.BuilderAt 68 5 B b p (Lib.byteCells l) w → Lib.BuilderAt 68 5 B b p (Lib.byteCells l) w1 := fun p ⟨h1, v, h2, h3, h4⟩ =>
    ⟨h1, v, (hb.block b (blk_lt h2)).trans h2, own_move h3 (fun k hk => hb.block k (own_lt h3 k hk)), h4⟩
  rcases h with h | h
  · exact Or.inl (key _ h)
  · exact Or.inr (key _ h)
theorem blt {B b : Nat} {l : List UInt8} {w : World} (h : BdL B b l w) : b < w.heap.size := by
  rcases h with h | h
  · exact h.lt
  · exact h.lt
theorem Kb.cell {b k i T : Nat} {cs : Array Value} {w w1 : World} (h : Kb b w w1) (hT : T ≠ 5) (hk : k ≠ b) (hh : w.heap[k]? = some (.cells cs T (0, 0))) : w1.cell? ⟨k, i, none⟩ = cs[i]? := blk_cell (h k cs T hT hk hh) i
theorem wb_calls (B b : Nat) (l : List UInt8) (c : UInt8) (x : Int) (w : World) (h : BdL B b l w) (hx : x = (c.toNat : Int)) (hlen : l.length ≤ 20912) (hBw : B ≤ w.heap.size) :
    Calls Try.prog 36 #[.pointer (some ⟨b, 0, none⟩), .int .u8 x] w fun e w' => e = .returned .nilIface ∧ (BdL B b (l ++ [c]) w' ∧ Below B w w' ∧ Kb b w w') := by
  subst hx
  refine (writeByte_calls B b _ (c.toNat : Int) w h (by rw [Lib.byteCells_length]; omega) hBw).mono ?_
  rintro e w' ⟨rfl, h1, h2, h3⟩
  refine ⟨rfl, ?_, h2, h3⟩
  unfold BdL
  rw [Lib.byteCells_append]
  exact h1
theorem ws_calls (B b : Nat) (l : List UInt8) (s : ByteArray) (w : World) (h : BdL B b l w) (hlen : l.length + s.size ≤ 20912) (hBw : B ≤ w.heap.size) :
    Calls Try.prog 37 #[.pointer (some ⟨b, 0, none⟩), .string s] w fun e w' => e = .returned (.tuple #[.int .i64 s.size, .nilIface]) ∧ (BdL B b (l ++ s.data.toList) w' ∧ Below B w w' ∧ Kb b w w') := by
  refine (writeString_calls B b _ s w h (by rw [Lib.byteCells_length]; omega) hBw).mono ?_
  rintro e w' ⟨rfl, h1, h2, h3⟩
  refine ⟨rfl, ?_, h2, h3⟩
  unfold BdL
  rw [Lib.byteCells_append, ← Lib.strCells_eq]
  exact h1
set_option maxHeartbeats 1000000 in
set_option maxRecDepth 100000 in
theorem put_calls (B b : Nat) (l : List UInt8) (s : ByteArray) (w : World) (h : BdL B b l w) (hs : s.size ≤ 255) (hlen : l.length + 1 + s.size ≤ 20912) (hBw : B ≤ w.heap.size) :
    Calls Try.prog 35 #[.string s, .pointer (some ⟨b, 0, none⟩)] w fun e w' => e = .returned (.tuple #[]) ∧ (BdL B b (l ++ textL s) w' ∧ Below B w w' ∧ Kb b w w') := by
  have W1 := Aside0.mk (fun x hx => wb_calls B b l (UInt8.ofNat s.size) x w h hx (by omega) hBw)
  have W2 := Aside0.mk (fun W hb hW => ws_calls B b (l ++ [UInt8.ofNat s.size]) s W hb (by rw [List.length_append]; show l.length + 1 + _ ≤ _; omega) hW)
  have HX : Aside0 (((s.size : Nat) : Int) = ((UInt8.ofNat s.size).toNat : Int)) := ⟨by simp; omega⟩
  have hs' : ((s.size : Nat) : Int) ≤ 255 := by omega
  have HB := Aside0.mk hBw
  clear h hlen hBw
  go_enter Try.func35, Try.ntmps35
  go_wp2_with fail
  refine (W1.out _ ?_).mono ?_
  · rw [← HX.out]
    try simp
    try omega
  rintro e w1 ⟨rfl, h1, hb, hk⟩
  have H1 := Aside0.mk h1
  have B1 := Aside0.mk hb
  have K1 := Aside0.mk hk
  clear h1 hb hk
  go_wp2_with fail
  refine (W2.out _ H1.out (Nat.le_trans HB.out B1.out.size)).mono ?_
  rintro e w2 ⟨rfl, h1, hb, hk⟩
  have H2 := Aside0.mk h1
  have B2 := Aside0.mk (B1.out.trans hb)
  have K2 := Aside0.mk (K1.out.trans hk)
  clear h1 hb hk
  go_wp2_with fail
  go_end0
  refine ⟨rfl, ?_, B2.out, K2.out⟩
  have := H2.out
  rw [List.append_assoc] at this
  exact this

set_option maxHeartbeats 4000000 in
set_option maxRecDepth 100000 in
theorem enc_bad (a0_0 : Bool) (A0_1 : Option Addr) (c0_1 : Nat) (l0_1 : List S48) (A0_2 : Option Addr) (c0_2 : Nat) (l0_2 : List ByteArray) (A0_3 : Option Addr) (c0_3 : Nat) (l0_3 : List Int) (w : World) (hr0_1 : Kd.C k48 w A0_1 l0_1.length l0_1) (hc0_1 : l0_1.length ≤ c0_1) (hr0_2 : Kd.C Kd.string w A0_2 l0_2.length l0_2) (hc0_2 : l0_2.length ≤ c0_2) (hr0_3 : Kd.C (Kd.int .i64) w A0_3 l0_3.length l0_3) (hc0_3 : l0_3.length ≤ c0_3) (hf : (leafV a0_0 l0_1 l0_2 l0_3 || innerV a0_0 l0_1 l0_2 l0_3) = false) :
    Calls Try.prog 13 #[.agg #[.bool a0_0, .slice A0_1 l0_1.length c0_1, .slice A0_2 l0_2.length c0_2, .slice A0_3 l0_3.length c0_3]] w fun e w' => e = .returned (.tuple #[.string ⟨#[]⟩, .int .i64 2]) ∧ Below w.heap.size w w' := by
  have CK := Aside0.mk (fun W hw => node_Check.calls a0_0 A0_1 c0_1 l0_1 A0_2 c0_2 l0_2 A0_3 c0_3 l0_3 2 W (Kd.C_below hr0_1 hw) hc0_1 (Kd.C_below hr0_2 hw) hc0_2 (Kd.C_below hr0_3 hw) hc0_3 (by rw [check_val, hf]; rfl))
  clear hr0_1 hc0_1 hr0_2 hc0_2 hr0_3 hc0_3 hf
  have BX := Aside0.mk (heap_alloc_new w (.cells #[.bool a0_0, .slice A0_1 l0_1.length c0_1, .slice A0_2 l0_2.length c0_2, .slice A0_3 l0_3.length c0_3] 31))
  obtain ⟨wa, hwa⟩ : ∃ wa, wa = w.alloc (.cells #[.bool a0_0, .slice A0_1 l0_1.length c0_1, .slice A0_2 l0_2.length c0_2, .slice A0_3 l0_3.length c0_3] 31) := ⟨_, rfl⟩
  have HWA := Aside0.mk hwa
  have BA := Aside0.mk (below_alloc (Below.refl w.heap.size w) (.cells #[.bool a0_0, .slice A0_1 l0_1.length c0_1, .slice A0_2 l0_2.length c0_2, .slice A0_3 l0_3.length c0_3] 31))
  rw [← hwa] at BX BA
  have SA : Aside0 (w.heap.size + 1 = wa.heap.size) := ⟨by rw [hwa]; simp⟩
  clear hwa
  have b0 : wa.cell? ⟨w.heap.size, 0, none⟩ = some (.bool a0_0) := blk_cell BX.out 0
  have b1 : wa.cell? ⟨w.heap.size, 1, none⟩ = some (.slice A0_1 l0_1.length c0_1) := blk_cell BX.out 1
  have b2 : wa.cell? ⟨w.heap.size, 2, none⟩ = some (.slice A0_2 l0_2.length c0_2) := blk_cell BX.out 2
  have b3 : wa.cell? ⟨w.heap.size, 3, none⟩ = some (.slice A0_3 l0_3.length c0_3) := blk_cell BX.out 3
  go_enter Try.func13, Try.ntmps13
  go_wp2_with fail
  rw [← HWA.out]
  refine (CK.out _ BA.out).mono ?_
  rintro e w1 ⟨rfl, hB⟩
  have B1 := Aside0.mk (BA.out.trans (hB.mono BA.out.size))
  clear hB
  go_wp2_with fail
  go_ret2
  exact ⟨rfl, B1.out⟩

set_option maxHeartbeats 4000000 in
set_option maxRecDepth 100000 in
theorem enc_big (a0_0 : Bool) (A0_1 : Option Addr) (c0_1 : Nat) (l0_1 : List S48) (A0_2 : Option Addr) (c0_2 : Nat) (l0_2 : List ByteArray) (A0_3 : Option Addr) (c0_3 : Nat) (l0_3 : List Int) (w : World) (hr0_1 : Kd.C k48 w A0_1 l0_1.length l0_1) (hc0_1 : l0_1.length ≤ c0_1) (hr0_2 : Kd.C Kd.string w A0_2 l0_2.length l0_2) (hc0_2 : l0_2.length ≤ c0_2) (hr0_3 : Kd.C (Kd.int .i64) w A0_3 l0_3.length l0_3) (hc0_3 : l0_3.length ≤ c0_3) (hf : (leafV a0_0 l0_1 l0_2 l0_3 || innerV a0_0 l0_1 l0_2 l0_3) = true) (hz : 160 < sizeN a0_0 l0_1 l0_2 l0_3) :
    Calls Try.prog 13 #[.agg #[.bool a0_0, .slice A0_1 l0_1.length c0_1, .slice A0_2 l0_2.length c0_2, .slice A0_3 l0_3.length c0_3]] w fun e w' => e = .returned (.tuple #[.string ⟨#[]⟩, .int .i64 14]) ∧ Below w.heap.size w w' := by
  have CK := Aside0.mk (fun W hw => node_Check.calls a0_0 A0_1 c0_1 l0_1 A0_2 c0_2 l0_2 A0_3 c0_3 l0_3 0 W (Kd.C_below hr0_1 hw) hc0_1 (Kd.C_below hr0_2 hw) hc0_2 (Kd.C_below hr0_3 hw) hc0_3 (by rw [check_val, hf]; rfl))
  have hS : node_Size.f (l0_1.length + l0_2.length + 1) a0_0 l0_1 l0_2 l0_3 = some ((sizeN a0_0 l0_1 l0_2 l0_3 : Nat) : Int) := by
    rw [size_val a0_0 l0_1 l0_2 l0_3 hr0_1.2.1 hr0_2.2.1 _ (by omega) (by omega)]
    rw [wrap_small (size_form hf)]
  have CS := Aside0.mk (fun W hw => node_Size.calls (l0_1.length + l0_2.length + 1) a0_0 A0_1 c0_1 l0_1 A0_2 c0_2 l0_2 A0_3 c0_3 l0_3 _ W (Kd.C_below hr0_1 hw) hc0_1 (Kd.C_below hr0_2 hw) hc0_2 (Kd.C_below hr0_3 hw) hc0_3 hS)
  have g0 : decide ((160 : Int) < ((sizeN a0_0 l0_1 l0_2 l0_3 : Nat) : Int)) = true := decide_eq_true (by omega)
  clear hr0_1 hc0_1 hr0_2 hc0_2 hr0_3 hc0_3 hf hS hz
  have BX := Aside0.mk (heap_alloc_new w (.cells #[.bool a0_0, .slice A0_1 l0_1.length c0_1, .slice A0_2 l0_2.length c0_2, .slice A0_3 l0_3.length c0_3] 31))
  obtain ⟨wa, hwa⟩ : ∃ wa, wa = w.alloc (.cells #[.bool a0_0, .slice A0_1 l0_1.length c0_1, .slice A0_2 l0_2.length c0_2, .slice A0_3 l0_3.length c0_3] 31) := ⟨_, rfl⟩
  have HWA := Aside0.mk hwa
  have BA := Aside0.mk (below_alloc (Below.refl w.heap.size w) (.cells #[.bool a0_0, .slice A0_1 l0_1.length c0_1, .slice A0_2 l0_2.length c0_2, .slice A0_3 l0_3.length c0_3] 31))
  rw [← hwa] at BX BA
  have SA : Aside0 (w.heap.size + 1 = wa.heap.size) := ⟨by rw [hwa]; simp⟩
  clear hwa
  have b0 : wa.cell? ⟨w.heap.size, 0, none⟩ = some (.bool a0_0) := blk_cell BX.out 0
  have b1 : wa.cell? ⟨w.heap.size, 1, none⟩ = some (.slice A0_1 l0_1.length c0_1) := blk_cell BX.out 1
  have b2 : wa.cell? ⟨w.heap.size, 2, none⟩ = some (.slice A0_2 l0_2.length c0_2) := blk_cell BX.out 2
  have b3 : wa.cell? ⟨w.heap.size, 3, none⟩ = some (.slice A0_3 l0_3.length c0_3) := blk_cell BX.out 3
  go_enter Try.func13, Try.ntmps13
  go_wp2_with fail
  rw [← HWA.out]
  refine (CK.out _ BA.out).mono ?_
  rintro e w1 ⟨rfl, hB⟩
  have B1 := Aside0.mk (BA.out.trans (hB.mono BA.out.size))
  have d0 : w1.cell? ⟨w.heap.size, 0, none⟩ = some (.bool a0_0) := nd_cell hB b0
  have d1 : w1.cell? ⟨w.heap.size, 1, none⟩ = some (.slice A0_1 l0_1.length c0_1) := nd_cell hB b1
  have d2 : w1.cell? ⟨w.heap.size, 2, none⟩ = some (.slice A0_2 l0_2.length c0_2) := nd_cell hB b2
  have d3 : w1.cell? ⟨w.heap.size, 3, none⟩ = some (.slice A0_3 l0_3.length c0_3) := nd_cell hB b3
  clear b0 b1 b2 b3 hB
  go_wp2_with fail
  refine (CS.out _ B1.out).mono ?_
  rintro e w2 ⟨rfl, hB⟩
  have B2 := Aside0.mk (B1.out.trans (hB.mono B1.out.size))
  clear d0 d1 d2 d3 hB
  go_wp2_with fail
  go_ret2
  exact ⟨rfl, B2.out⟩
set_option maxHeartbeats 4000000 in
set_option maxRecDepth 100000 in
theorem enc_leaf (A0_1 : Option Addr) (c0_1 : Nat) (l0_1 : List S48) (A0_2 : Option Addr) (c0_2 : Nat) (l0_2 : List ByteArray) (A0_3 : Option Addr) (c0_3 : Nat) (l0_3 : List Int) (w : World) (hr0_1 : Kd.C k48 w A0_1 l0_1.length l0_1) (hc0_1 : l0_1.length ≤ c0_1) (hr0_2 : Kd.C Kd.string w A0_2 l0_2.length l0_2) (hc0_2 : l0_2.length ≤ c0_2) (hr0_3 : Kd.C (Kd.int .i64) w A0_3 l0_3.length l0_3) (hc0_3 : l0_3.length ≤ c0_3) (hl : leafV true l0_1 l0_2 l0_3 = true) (hz : sizeN true l0_1 l0_2 l0_3 ≤ 160) (E : List UInt8) (hE : E = encL true l0_1 l0_2 l0_3) :
    Calls Try.prog 13 #[.agg #[.bool true, .slice A0_1 l0_1.length c0_1, .slice A0_2 l0_2.length c0_2, .slice A0_3 l0_3.length c0_3]] w fun e w' => e = .returned (.tuple #[.string ⟨E.toArray⟩, .int .i64 0]) ∧ Below w.heap.size w w' := by
  have HE0 := Aside0.mk hE
  clear hE
  have hf : (leafV true l0_1 l0_2 l0_3 || innerV true l0_1 l0_2 l0_3) = true := by rw [hl]; rfl
  have CK := Aside0.mk (fun W hw => node_Check.calls true A0_1 c0_1 l0_1 A0_2 c0_2 l0_2 A0_3 c0_3 l0_3 0 W (Kd.C_below hr0_1 hw) hc0_1 (Kd.C_below hr0_2 hw) hc0_2 (Kd.C_below hr0_3 hw) hc0_3 (by rw [check_val, hf]; rfl))
  have hS : node_Size.f (l0_1.length + l0_2.length + 1) true l0_1 l0_2 l0_3 = some ((sizeN true l0_1 l0_2 l0_3 : Nat) : Int) := by
    rw [size_val true l0_1 l0_2 l0_3 hr0_1.2.1 hr0_2.2.1 _ (by omega) (by omega)]
    rw [wrap_small (size_form hf)]
  have CS := Aside0.mk (fun W hw => node_Size.calls (l0_1.length + l0_2.length + 1) true A0_1 c0_1 l0_1 A0_2 c0_2 l0_2 A0_3 c0_3 l0_3 _ W (Kd.C_below hr0_1 hw) hc0_1 (Kd.C_below hr0_2 hw) hc0_2 (Kd.C_below hr0_3 hw) hc0_3 hS)
  have g0 : decide ((160 : Int) < ((sizeN true l0_1 l0_2 l0_3 : Nat) : Int)) = false := decide_eq_false (by omega)
  have p255 : (l0_1.length : Int) ≤ 255 := by have := (leafV_true hl).2.2.2.1; omega
  have HV := Aside0.mk hl
  have R1 := Aside0.mk hr0_1
  have R2 := Aside0.mk hr0_2
  have R3 := Aside0.mk hr0_3
  have L1 : l0_1.length ≤ 9223372036854775807 := hr0_1.2.1
  have L2 : l0_2.length ≤ 9223372036854775807 := hr0_2.2.1
  have L3 : l0_3.length ≤ 9223372036854775807 := hr0_3.2.1
  have HF := Aside0.mk hf
  have HZ := Aside0.mk hz
  clear hr0_1 hc0_1 hr0_2 hc0_2 hr0_3 hc0_3 hf hS hz hl
  have BX := Aside0.mk (heap_alloc_new w (.cells #[.bool true, .slice A0_1 l0_1.length c0_1, .slice A0_2 l0_2.length c0_2, .slice A0_3 l0_3.length c0_3] 31))
  obtain ⟨wa, hwa⟩ : ∃ wa, wa = w.alloc (.cells #[.bool true, .slice A0_1 l0_1.length c0_1, .slice A0_2 l0_2.length c0_2, .slice A0_3 l0_3.length c0_3] 31) := ⟨_, rfl⟩
  have HWA := Aside0.mk hwa
  have BA := Aside0.mk (below_alloc (Below.refl w.heap.size w) (.cells #[.bool true, .slice A0_1 l0_1.length c0_1, .slice A0_2 l0_2.length c0_2, .slice A0_3 l0_3.length c0_3] 31))
  rw [← hwa] at BX BA
  have SA : Aside0 (w.heap.size + 1 = wa.heap.size) := ⟨by rw [hwa]; simp⟩
  clear hwa
  have b0 : wa.cell? ⟨w.heap.size, 0, none⟩ = some (.bool true) := blk_cell BX.out 0
  have b1 : wa.cell? ⟨w.heap.size, 1, none⟩ = some (.slice A0_1 l0_1.length c0_1) := blk_cell BX.out 1
  have b2 : wa.cell? ⟨w.heap.size, 2, none⟩ = some (.slice A0_2 l0_2.length c0_2) := blk_cell BX.out 2
  have b3 : wa.cell? ⟨w.heap.size, 3, none⟩ = some (.slice A0_3 l0_3.length c0_3) := blk_cell BX.out 3
  go_enter Try.func13, Try.ntmps13
  go_wp2_with fail
  rw [← HWA.out]
  refine (CK.out _ BA.out).mono ?_
  rintro e w1 ⟨rfl, hB⟩
  have B1 := Aside0.mk (BA.out.trans (hB.mono BA.out.size))
  have d0 : w1.cell? ⟨w.heap.size, 0, none⟩ = some (.bool true) := nd_cell hB b0
  have d1 : w1.cell? ⟨w.heap.size, 1, none⟩ = some (.slice A0_1 l0_1.length c0_1) := nd_cell hB b1
  have d2 : w1.cell? ⟨w.heap.size, 2, none⟩ = some (.slice A0_2 l0_2.length c0_2) := nd_cell hB b2
  have d3 : w1.cell? ⟨w.heap.size, 3, none⟩ = some (.slice A0_3 l0_3.length c0_3) := nd_cell hB b3
  clear b0 b1 b2 b3 hB
  go_wp2_with fail
  refine (CS.out _ B1.out).mono ?_
  rintro e w2 ⟨rfl, hB⟩
  have B2 := Aside0.mk (B1.out.trans (hB.mono B1.out.size))
  have b0 := nd_cell hB d0
  have b1 := nd_cell hB d1
  have b2 := nd_cell hB d2
  have b3 := nd_cell hB d3
  clear d0 d1 d2 d3 hB
  have x3 := below_alloc (Below.refl w2.heap.size w2) (.cells #[.pointer none, .slice none 0 0] 68)
  have d0 := nd_cell x3 b0
  have d1 := nd_cell x3 b1
  have d2 := nd_cell x3 b2
  have d3 := nd_cell x3 b3
  clear x3
  obtain ⟨w3, hw3⟩ : ∃ w3, w3 = w2.alloc (.cells #[.pointer none, .slice none 0 0] 68) := ⟨_, rfl⟩
  have HW3 := Aside0.mk hw3
  have X3 : Aside0 (Below w2.heap.size w2 w3) := ⟨by rw [hw3]; exact below_alloc (Below.refl _ _) _⟩
  have BD3 : Aside0 (BdL w2.heap.size w2.heap.size [] w3) := ⟨by rw [hw3]; exact Lib.fresh_isBuilder 68 5 w2⟩
  clear hw3
  go_wp2_with fail
  rw [← HW3.out]
  clear d0 d1 d2 d3
  refine (wb_calls w2.heap.size w2.heap.size [] 1 1 w3 BD3.out rfl (by simp) X3.out.size).mono ?_
  rintro e w4 ⟨rfl, hb, hB, _⟩
  have BD4 : Aside0 (BdL w2.heap.size w2.heap.size ([] ++ [1]) w4) := ⟨hb⟩
  have X4 := Aside0.mk (X3.out.trans hB)
  clear hb hB
  have e0 := nd_cell X4.out b0
  have e1 := nd_cell X4.out b1
  have e2 := nd_cell X4.out b2
  have e3 := nd_cell X4.out b3
  go_wp2_with fail
  clear e0 e1 e2 e3
  refine (wb_calls w2.heap.size w2.heap.size _ (UInt8.ofNat l0_1.length) _ w4 BD4.out (by simp; omega) (by simp) X4.out.size).mono ?_
  rintro e w5 ⟨rfl, hb, hB, _⟩
  have BD5 : Aside0 (BdL w2.heap.size w2.heap.size ([] ++ [1] ++ [UInt8.ofNat l0_1.length]) w5) := ⟨hb⟩
  have X5 := Aside0.mk (X4.out.trans hB)
  clear hb hB
  have e0 := nd_cell X5.out b0
  have e1 := nd_cell X5.out b1
  have e2 := nd_cell X5.out b2
  have e3 := nd_cell X5.out b3
  go_wp2_with fail
  clear e0 e1 e2 e3 b0 b1 b2 b3
  go_loopw [32] (fun v32 w' => ∃ m : Nat, m ≤ l0_1.length ∧ v32 = .int .i64 (m : Int) ∧ Aside0 (BdL w2.heap.size w2.heap.size (1 :: UInt8.ofNat l0_1.length :: (l0_1.take m).flatMap pairL) w') ∧ Aside0 (Below w2.heap.size w2 w')) (fun v32 _ => (l0_1.length - intOf v32).toNat)
  case atStart => exact ⟨0, by omega, rfl, ⟨BD5.out⟩, X5⟩
  case round =>
    obtain ⟨m, hm, rfl, HD, HX2⟩ := hrel
    by_cases h : m < l0_1.length
    · have p1 : (0 : Int) ≤ (m : Int) := by omega
      have q1 : (m : Int) < (l0_1.length : Int) := by omega
      have HB : Aside0 (Below w.heap.size w wr) := ⟨B2.out.trans (HX2.out.mono B2.out.size)⟩
      obtain ⟨ad, rfl, hx0, hx1⟩ := at_T48 (Kd.C_below R1.out HB.out) (m : Int) p1 q1
      obtain ⟨x, hxx⟩ : ∃ x, x = rd_T48 l0_1 (m : Int) := ⟨_, rfl⟩
      have hg : l0_1[m] = x := by rw [hxx]; unfold rd_T48; simp [List.getD_eq_getElem?_getD, h]
      rw [← hxx] at hx0 hx1
      have HX := Aside0.mk hg
      clear hxx hg
      rw [Int.toNat_natCast] at hx0 hx1
      have d1 : decide (m < l0_1.length) = true := decide_eq_true h
      have d1' : decide ((m : Int) < (l0_1.length : Int)) = true := decide_eq_true q1
      have FX : Aside0 (x.f0.size ≤ 255 ∧ x.f1.size ≤ 255) := ⟨by
        have := pair_size (leafV_true HV.out).2.2.2.2.1 (l0_1[m]) (List.getElem_mem h)
        rw [HX.out] at this
        omega⟩
      have LL : Aside0 ((1 :: UInt8.ofNat l0_1.length :: (l0_1.take m).flatMap pairL).length + (pairL x).length ≤ 160) := ⟨by
        have h1 := pairs_take l0_1 m h
        rw [HX.out] at h1
        have h2 := HZ.out
        have h3 := encL_length true l0_1 l0_2 l0_3
        simp only [encL, if_true, List.length_cons] at h3
        simp only [List.length_cons]
        omega⟩
      have LP := Aside0.mk (pairL_length x)
      have NX : Aside0 (1 :: UInt8.ofNat l0_1.length :: (l0_1.take (m + 1)).flatMap pairL = ((1 :: UInt8.ofNat l0_1.length :: (l0_1.take m).flatMap pairL) ++ textL x.f0) ++ textL x.f1) := ⟨by
        rw [List.take_succ_eq_append_getElem h, HX.out, List.flatMap_append]
        simp [pairL]⟩
      clear HX
      obtain ⟨L0, hL0⟩ : ∃ L, L = 1 :: UInt8.ofNat l0_1.length :: (l0_1.take m).flatMap pairL := ⟨_, rfl⟩
      rw [← hL0] at LL NX HD
      clear hL0
      have ws : w2.heap.size ≤ wr.heap.size := HX2.out.size
      go_wp2_with fail
      have KA := Aside0.mk (heap_alloc_new wr (.cells #[.string x.f0, .string x.f1] 48))
      have BA2 := Aside0.mk (below_alloc (Below.refl wr.heap.size wr) (.cells #[.string x.f0, .string x.f1] 48))
      refine (put_calls w2.heap.size w2.heap.size L0 x.f0 _ (HD.out.below BA2.out) FX.out.1 (by have := LL.out; have := LP.out; omega) (Nat.le_trans ws BA2.out.size)).mono ?_
      rintro e wp ⟨rfl, hb, hB, hk⟩
      have hne : wr.heap.size ≠ w2.heap.size := by have := blt HD.out; omega
      have c1 : wp.cell? ⟨wr.heap.size, 1, none⟩ = some (.string x.f1) := hk.cell (by decide) hne KA.out
      have HD1 := Aside0.mk hb
      have HX1 := Aside0.mk (HX2.out.trans ((BA2.out.mono HX2.out.size).trans hB))
      clear hb hB hk hne KA HD HX2 hx0 hx1
      go_wp2_with fail
      refine (put_calls w2.heap.size w2.heap.size (L0 ++ textL x.f0) x.f1 _ HD1.out FX.out.2 (by have := LL.out; have := LP.out; rw [List.length_append, textL_length]; omega) HX1.out.size).mono ?_
      rintro e wq ⟨rfl, hb, hB, hk⟩
      have HDQ := Aside0.mk hb
      have HXQ := Aside0.mk (HX1.out.trans hB)
      clear hb hB hk HD1 HX1 c1
      go_wp2_with fail
      go_roundw
      case rel => exact ⟨m + 1, by omega, by first | rfl | go_num, ⟨by rw [NX.out]; exact HDQ.out⟩, HXQ⟩
      case measure => simp [intOf]; omega
    · have hd : decide ((m : Int) < (l0_1.length : Int)) = false := decide_eq_false (by omega)
      have hd' : decide (m < l0_1.length) = false := decide_eq_false h
      have HE : Aside0 (E = 1 :: UInt8.ofNat l0_1.length :: (l0_1.take m).flatMap pairL) := ⟨by rw [HE0.out, List.take_of_length_le (by omega)]; rfl⟩
      have HN : Aside0 (E ≠ []) := ⟨by rw [HE.out]; exact List.cons_ne_nil _ _⟩
      have HD2 : Aside0 (BdL w2.heap.size w2.heap.size E wr) := ⟨by rw [HE.out]; exact HD.out⟩
      clear HE HD
      go_wp2_with fail
      refine (builderString_calls w2.heap.size w2.heap.size E _ HD2.out HN.out).mono ?_
      rintro e wq ⟨rfl, hB⟩
      have HXQ := Aside0.mk (B2.out.trans ((HX2.out.trans hB).mono B2.out.size))
      clear hB
      go_wp2_with fail
      go_ret2
      exact ⟨rfl, HXQ.out⟩

set_option maxHeartbeats 4000000 in
set_option maxRecDepth 100000 in
theorem enc_inner (A0_1 : Option Addr) (c0_1 : Nat) (l0_1 : List S48) (A0_2 : Option Addr) (c0_2 : Nat) (l0_2 : List ByteArray) (A0_3 : Option Addr) (c0_3 : Nat) (l0_3 : List Int) (w : World) (hr0_1 : Kd.C k48 w A0_1 l0_1.length l0_1) (hc0_1 : l0_1.length ≤ c0_1) (hr0_2 : Kd.C Kd.string w A0_2 l0_2.length l0_2) (hc0_2 : l0_2.length ≤ c0_2) (hr0_3 : Kd.C (Kd.int .i64) w A0_3 l0_3.length l0_3) (hc0_3 : l0_3.length ≤ c0_3) (hl : innerV false l0_1 l0_2 l0_3 = true) (hz : sizeN false l0_1 l0_2 l0_3 ≤ 160) (E : List UInt8) (hE : E = encL false l0_1 l0_2 l0_3) :
    Calls Try.prog 13 #[.agg #[.bool false, .slice A0_1 l0_1.length c0_1, .slice A0_2 l0_2.length c0_2, .slice A0_3 l0_3.length c0_3]] w fun e w' => e = .returned (.tuple #[.string ⟨E.toArray⟩, .int .i64 0]) ∧ Below w.heap.size w w' := by
  have HE0 := Aside0.mk hE
  clear hE
  have hf : (leafV false l0_1 l0_2 l0_3 || innerV false l0_1 l0_2 l0_3) = true := by rw [hl]; simp
  have CK := Aside0.mk (fun W hw => node_Check.calls false A0_1 c0_1 l0_1 A0_2 c0_2 l0_2 A0_3 c0_3 l0_3 0 W (Kd.C_below hr0_1 hw) hc0_1 (Kd.C_below hr0_2 hw) hc0_2 (Kd.C_below hr0_3 hw) hc0_3 (by rw [check_val, hf]; rfl))
  have hS : node_Size.f (l0_1.length + l0_2.length + 1) false l0_1 l0_2 l0_3 = some ((sizeN false l0_1 l0_2 l0_3 : Nat) : Int) := by
    rw [size_val false l0_1 l0_2 l0_3 hr0_1.2.1 hr0_2.2.1 _ (by omega) (by omega)]
    rw [wrap_small (size_form hf)]
  have CS := Aside0.mk (fun W hw => node_Size.calls (l0_1.length + l0_2.length + 1) false A0_1 c0_1 l0_1 A0_2 c0_2 l0_2 A0_3 c0_3 l0_3 _ W (Kd.C_below hr0_1 hw) hc0_1 (Kd.C_below hr0_2 hw) hc0_2 (Kd.C_below hr0_3 hw) hc0_3 hS)
  have g0 : decide ((160 : Int) < ((sizeN false l0_1 l0_2 l0_3 : Nat) : Int)) = false := decide_eq_false (by omega)
  have p255 : (l0_3.length : Int) ≤ 255 := by have := (innerV_true hl).2.2.2.1; omega
  have HV := Aside0.mk hl
  have R1 := Aside0.mk hr0_1
  have R2 := Aside0.mk hr0_2
  have R3 := Aside0.mk hr0_3
  have L1 : l0_1.length ≤ 9223372036854775807 := hr0_1.2.1
  have L2 : l0_2.length ≤ 9223372036854775807 := hr0_2.2.1
  have L3 : l0_3.length ≤ 9223372036854775807 := hr0_3.2.1
  have HF := Aside0.mk hf
  have HZ := Aside0.mk hz
  clear hr0_1 hc0_1 hr0_2 hc0_2 hr0_3 hc0_3 hf hS hz hl
  have BX := Aside0.mk (heap_alloc_new w (.cells #[.bool false, .slice A0_1 l0_1.length c0_1, .slice A0_2 l0_2.length c0_2, .slice A0_3 l0_3.length c0_3] 31))
  obtain ⟨wa, hwa⟩ : ∃ wa, wa = w.alloc (.cells #[.bool false, .slice A0_1 l0_1.length c0_1, .slice A0_2 l0_2.length c0_2, .slice A0_3 l0_3.length c0_3] 31) := ⟨_, rfl⟩
  have HWA := Aside0.mk hwa
  have BA := Aside0.mk (below_alloc (Below.refl w.heap.size w) (.cells #[.bool false, .slice A0_1 l0_1.length c0_1, .slice A0_2 l0_2.length c0_2, .slice A0_3 l0_3.length c0_3] 31))
  rw [← hwa] at BX BA
  have SA : Aside0 (w.heap.size + 1 = wa.heap.size) := ⟨by rw [hwa]; simp⟩
  clear hwa
  have b0 : wa.cell? ⟨w.heap.size, 0, none⟩ = some (.bool false) := blk_cell BX.out 0
  have b1 : wa.cell? ⟨w.heap.size, 1, none⟩ = some (.slice A0_1 l0_1.length c0_1) := blk_cell BX.out 1
  have b2 : wa.cell? ⟨w.heap.size, 2, none⟩ = some (.slice A0_2 l0_2.length c0_2) := blk_cell BX.out 2
  have b3 : wa.cell? ⟨w.heap.size, 3, none⟩ = some (.slice A0_3 l0_3.length c0_3) := blk_cell BX.out 3
  go_enter Try.func13, Try.ntmps13
  go_wp2_with fail
  rw [← HWA.out]
  refine (CK.out _ BA.out).mono ?_
  rintro e w1 ⟨rfl, hB⟩
  have B1 := Aside0.mk (BA.out.trans (hB.mono BA.out.size))
  have d0 : w1.cell? ⟨w.heap.size, 0, none⟩ = some (.bool false) := nd_cell hB b0
  have d1 : w1.cell? ⟨w.heap.size, 1, none⟩ = some (.slice A0_1 l0_1.length c0_1) := nd_cell hB b1
  have d2 : w1.cell? ⟨w.heap.size, 2, none⟩ = some (.slice A0_2 l0_2.length c0_2) := nd_cell hB b2
  have d3 : w1.cell? ⟨w.heap.size, 3, none⟩ = some (.slice A0_3 l0_3.length c0_3) := nd_cell hB b3
  clear b0 b1 b2 b3 hB
  go_wp2_with fail
  refine (CS.out _ B1.out).mono ?_
  rintro e w2 ⟨rfl, hB⟩
  have B2 := Aside0.mk (B1.out.trans (hB.mono B1.out.size))
  have b0 := nd_cell hB d0
  have b1 := nd_cell hB d1
  have b2 := nd_cell hB d2
  have b3 := nd_cell hB d3
  clear d0 d1 d2 d3 hB
  have x3 := below_alloc (Below.refl w2.heap.size w2) (.cells #[.pointer none, .slice none 0 0] 68)
  have d0 := nd_cell x3 b0
  have d1 := nd_cell x3 b1
  have d2 := nd_cell x3 b2
  have d3 := nd_cell x3 b3
  clear x3
  obtain ⟨w3, hw3⟩ : ∃ w3, w3 = w2.alloc (.cells #[.pointer none, .slice none 0 0] 68) := ⟨_, rfl⟩
  have HW3 := Aside0.mk hw3
  have X3 : Aside0 (Below w2.heap.size w2 w3) := ⟨by rw [hw3]; exact below_alloc (Below.refl _ _) _⟩
  have BD3 : Aside0 (BdL w2.heap.size w2.heap.size [] w3) := ⟨by rw [hw3]; exact Lib.fresh_isBuilder 68 5 w2⟩
  clear hw3
  go_wp2_with fail
  rw [← HW3.out]
  clear d0 d1 d2 d3
  refine (wb_calls w2.heap.size w2.heap.size [] 2 2 w3 BD3.out rfl (by simp) X3.out.size).mono ?_
  rintro e w4 ⟨rfl, hb, hB, _⟩
  have BD4 : Aside0 (BdL w2.heap.size w2.heap.size ([] ++ [2]) w4) := ⟨hb⟩
  have X4 := Aside0.mk (X3.out.trans hB)
  clear hb hB
  have e0 := nd_cell X4.out b0
  have e1 := nd_cell X4.out b1
  have e2 := nd_cell X4.out b2
  have e3 := nd_cell X4.out b3
  go_wp2_with fail
  clear e0 e1 e2 e3
  refine (wb_calls w2.heap.size w2.heap.size _ (UInt8.ofNat l0_3.length) _ w4 BD4.out (by simp; omega) (by simp) X4.out.size).mono ?_
  rintro e w5 ⟨rfl, hb, hB, _⟩
  have BD5 : Aside0 (BdL w2.heap.size w2.heap.size ([] ++ [2] ++ [UInt8.ofNat l0_3.length]) w5) := ⟨hb⟩
  have X5 := Aside0.mk (X4.out.trans hB)
  clear hb hB
  have e0 := nd_cell X5.out b0
  have e1 := nd_cell X5.out b1
  have e2 := nd_cell X5.out b2
  have e3 := nd_cell X5.out b3
  go_wp2_with fail
  have B2c := Aside0.mk b2
  clear e0 e1 e2 e3 b0 b1 b2 b3
  go_loopw [55] (fun v55 w' => ∃ m : Nat, m ≤ l0_3.length ∧ v55 = .int .i64 (m : Int) ∧ Aside0 (BdL w2.heap.size w2.heap.size (2 :: UInt8.ofNat l0_3.length :: (l0_3.take m).flatMap kidL) w') ∧ Aside0 (Below w2.heap.size w2 w')) (fun v55 _ => (l0_3.length - intOf v55).toNat)
  case atStart => exact ⟨0, by omega, rfl, ⟨BD5.out⟩, X5⟩
  case round =>
    obtain ⟨m, hm, rfl, HD, HX2⟩ := hrel
    by_cases h : m < l0_3.length
    · have p1 : (0 : Int) ≤ (m : Int) := by omega
      have q1 : (m : Int) < (l0_3.length : Int) := by omega
      have HB : Aside0 (Below w.heap.size w wr) := ⟨B2.out.trans (HX2.out.mono B2.out.size)⟩
      obtain ⟨ad, e, hx⟩ := Kd.at_int (Kd.C_below R3.out HB.out) (m : Int) p1 q1
      cases e
      obtain ⟨x, hxx⟩ : ∃ x, x = rd l0_3 (m : Int) := ⟨_, rfl⟩
      have hg : l0_3[m] = x := by rw [hxx]; simp [rd, List.getD_eq_getElem?_getD, h]
      rw [← hxx] at hx
      have HX := Aside0.mk hg
      clear hxx hg
      rw [Int.toNat_natCast] at hx
      have d1 : decide (m < l0_3.length) = true := decide_eq_true h
      have d1' : decide ((m : Int) < (l0_3.length : Int)) = true := decide_eq_true q1
      obtain ⟨x1, x2⟩ : 1 ≤ x ∧ x ≤ 65535 := by
        have := kid_size (innerV_true HV.out).2.2.2.2.2.2.1 (l0_3[m]) (List.getElem_mem h)
        rw [HX.out] at this
        exact this
      have LL : Aside0 ((2 :: UInt8.ofNat l0_3.length :: (l0_3.take m).flatMap kidL).length + 2 ≤ 20912) := ⟨by
        have h3 := kids_length (l0_3.take m)
        rw [List.length_take] at h3
        simp only [List.length_cons]
        omega⟩
      have NX : Aside0 (2 :: UInt8.ofNat l0_3.length :: (l0_3.take (m + 1)).flatMap kidL = ((2 :: UInt8.ofNat l0_3.length :: (l0_3.take m).flatMap kidL) ++ [UInt8.ofNat (x % 256).toNat]) ++ [UInt8.ofNat (x / 256 % 256).toNat]) := ⟨by
        rw [List.take_succ_eq_append_getElem h, HX.out, List.flatMap_append]
        simp [kidL]⟩
      clear HX
      obtain ⟨L0, hL0⟩ : ∃ L, L = 2 :: UInt8.ofNat l0_3.length :: (l0_3.take m).flatMap kidL := ⟨_, rfl⟩
      rw [← hL0] at LL NX HD
      clear hL0
      go_wp2_with fail
      refine (wb_calls w2.heap.size w2.heap.size L0 (UInt8.ofNat (x % 256).toNat) _ wr HD.out (by simp; omega) (by have := LL.out; omega) HX2.out.size).mono ?_
      rintro e wp ⟨rfl, hb, hB, hk⟩
      have HD1 := Aside0.mk hb
      have HX1 := Aside0.mk (HX2.out.trans hB)
      clear hb hB hk HD HX2 hx
      go_wp2_with fail
      refine (wb_calls w2.heap.size w2.heap.size (L0 ++ [UInt8.ofNat (x % 256).toNat]) (UInt8.ofNat (x / 256 % 256).toNat) _ wp HD1.out (by simp; omega) (by have := LL.out; simp; omega) HX1.out.size).mono ?_
      rintro e wq ⟨rfl, hb, hB, hk⟩
      have HDQ := Aside0.mk hb
      have HXQ := Aside0.mk (HX1.out.trans hB)
      clear hb hB hk HD1 HX1
      go_wp2_with fail
      go_roundw
      case rel => exact ⟨m + 1, by omega, by first | rfl | go_num, ⟨by rw [NX.out]; exact HDQ.out⟩, HXQ⟩
      case measure => simp [intOf]; omega
    · have hd : decide ((m : Int) < (l0_3.length : Int)) = false := decide_eq_false (by omega)
      have hd' : decide (m < l0_3.length) = false := decide_eq_false h
      have HD2 : Aside0 (BdL w2.heap.size w2.heap.size (2 :: UInt8.ofNat l0_3.length :: l0_3.flatMap kidL) wr) := ⟨by have := HD.out; rwa [List.take_of_length_le (by omega)] at this⟩
      have e2 := nd_cell HX2.out B2c.out
      clear HD
      go_wp2_with fail
      clear e2
      obtain ⟨T0, hT0⟩ : ∃ T, T = 2 :: UInt8.ofNat l0_3.length :: l0_3.flatMap kidL := ⟨_, rfl⟩
      rw [← hT0] at HD2
      have HT0 := Aside0.mk hT0
      clear hT0
      go_loopw [70] (fun v70 w' => ∃ n : Nat, n ≤ l0_2.length ∧ v70 = .int .i64 (n : Int) ∧ Aside0 (BdL w2.heap.size w2.heap.size (T0 ++ (l0_2.take n).flatMap textL) w') ∧ Aside0 (Below w2.heap.size w2 w')) (fun v70 _ => (l0_2.length - intOf v70).toNat)
      case atStart => exact ⟨0, by omega, rfl, ⟨by rw [List.take_zero, List.flatMap_nil, List.append_nil]; exact HD2.out⟩, HX2⟩
      case round =>
        obtain ⟨n, hn, rfl, HDn, HXn⟩ := hrel
        by_cases hh : n < l0_2.length
        · have p1 : (0 : Int) ≤ (n : Int) := by omega
          have q1 : (n : Int) < (l0_2.length : Int) := by omega
          have HB : Aside0 (Below w.heap.size w wr) := ⟨B2.out.trans (HXn.out.mono B2.out.size)⟩
          obtain ⟨ad, e, hx⟩ := Kd.at_string (Kd.C_below R2.out HB.out) (n : Int) p1 q1
          cases e
          obtain ⟨x, hxx⟩ : ∃ x, x = rdOf ByteArray.empty l0_2 (n : Int) := ⟨_, rfl⟩
          have hg : l0_2[n] = x := by rw [hxx]; simp [rdOf, List.getD_eq_getElem?_getD, hh]
          rw [← hxx] at hx
          have HX := Aside0.mk hg
          clear hxx hg
          rw [Int.toNat_natCast] at hx
          have d1 : decide (n < l0_2.length) = true := decide_eq_true hh
          have d1' : decide ((n : Int) < (l0_2.length : Int)) = true := decide_eq_true q1
          have FX : Aside0 (x.size ≤ 255) := ⟨by
            have := key_size (innerV_true HV.out).2.2.2.2.2.1 (l0_2[n]) (List.getElem_mem hh)
            rw [HX.out] at this
            omega⟩
          have LL : Aside0 ((T0 ++ (l0_2.take n).flatMap textL).length + 1 + x.size ≤ 20912) := ⟨by
            have h1 := keys_take l0_2 n hh
            rw [HX.out, textL_length] at h1
            have h2 := HZ.out
            have h3 := encL_length false l0_1 l0_2 l0_3
            simp only [encL, Bool.false_eq_true, if_false, List.length_cons, List.length_append] at h3
            rw [HT0.out]
            simp only [List.length_cons, List.length_append]
            omega⟩
          have NX : Aside0 (T0 ++ (l0_2.take (n + 1)).flatMap textL = (T0 ++ (l0_2.take n).flatMap textL) ++ textL x) := ⟨by
            rw [List.take_succ_eq_append_getElem hh, HX.out, List.flatMap_append]
            simp⟩
          clear HX
          obtain ⟨L0, hL0⟩ : ∃ L, L = T0 ++ (l0_2.take n).flatMap textL := ⟨_, rfl⟩
          rw [← hL0] at LL NX HDn
          clear hL0
          go_wp2_with fail
          refine (put_calls w2.heap.size w2.heap.size L0 x _ HDn.out FX.out LL.out HXn.out.size).mono ?_
          rintro e wq ⟨rfl, hb, hB, hk⟩
          have HDQ := Aside0.mk hb
          have HXQ := Aside0.mk (HXn.out.trans hB)
          clear hb hB hk HDn HXn hx
          go_wp2_with fail
          go_roundw
          case rel => exact ⟨n + 1, by omega, by first | rfl | go_num, ⟨by rw [NX.out]; exact HDQ.out⟩, HXQ⟩
          case measure => simp [intOf]; omega
        · have hd : decide ((n : Int) < (l0_2.length : Int)) = false := decide_eq_false (by omega)
          have hd' : decide (n < l0_2.length) = false := decide_eq_false hh
          have HE : Aside0 (E = T0 ++ (l0_2.take n).flatMap textL) := ⟨by rw [HE0.out, List.take_of_length_le (by omega), HT0.out]; rfl⟩
          have HN : Aside0 (E ≠ []) := ⟨by rw [HE0.out]; exact List.cons_ne_nil _ _⟩
          have HDE : Aside0 (BdL w2.heap.size w2.heap.size E wr) := ⟨by rw [HE.out]; exact HDn.out⟩
          clear HE HDn
          go_wp2_with fail
          refine (builderString_calls w2.heap.size w2.heap.size E _ HDE.out HN.out).mono ?_
          rintro e wq ⟨rfl, hB⟩
          have HXQ := Aside0.mk (B2.out.trans ((HXn.out.trans hB).mono B2.out.size))
          clear hB
          go_wp2_with fail
          go_ret2
          exact ⟨rfl, HXQ.out⟩

def node_Encode.f (a0_0 : Bool) (l0_1 : List (S48)) (l0_2 : List ByteArray) (l0_3 : List Int) : Option (ByteArray × Int) := some (if (leafV a0_0 l0_1 l0_2 l0_3 || innerV a0_0 l0_1 l0_2 l0_3) = true then if sizeN a0_0 l0_1 l0_2 l0_3 ≤ 160 then (⟨(encL a0_0 l0_1 l0_2 l0_3).toArray⟩, 0) else (⟨#[]⟩, 14) else (⟨#[]⟩, 2))
theorem node_Encode.calls (a0_0 : Bool) (A0_1 : Option Addr) (c0_1 : Nat) (l0_1 : List S48) (A0_2 : Option Addr) (c0_2 : Nat) (l0_2 : List ByteArray) (A0_3 : Option Addr) (c0_3 : Nat) (l0_3 : List Int) (r1 : ByteArray) (r2 : Int) (w : World) (hr0_1 : Kd.C k48 w A0_1 l0_1.length l0_1) (hc0_1 : l0_1.length ≤ c0_1) (hr0_2 : Kd.C Kd.string w A0_2 l0_2.length l0_2) (hc0_2 : l0_2.length ≤ c0_2) (hr0_3 : Kd.C (Kd.int .i64) w A0_3 l0_3.length l0_3) (hc0_3 : l0_3.length ≤ c0_3) (h : node_Encode.f a0_0 l0_1 l0_2 l0_3 = some (r1, r2)) :
    Calls Try.prog 13 #[.agg #[.bool a0_0, .slice A0_1 l0_1.length c0_1, .slice A0_2 l0_2.length c0_2, .slice A0_3 l0_3.length c0_3]] w fun e w' => e = .returned (.tuple #[.string r1, .int .i64 r2]) ∧ Below w.heap.size w w' := by
  have h := Option.some.inj h
  by_cases hf : (leafV a0_0 l0_1 l0_2 l0_3 || innerV a0_0 l0_1 l0_2 l0_3) = true
  · rw [if_pos hf] at h
    by_cases hz : sizeN a0_0 l0_1 l0_2 l0_3 ≤ 160
    · rw [if_pos hz] at h
      cases h
      rcases Bool.or_eq_true_iff.1 hf with hl | hl
      · cases (leafV_true hl).1
        exact enc_leaf A0_1 c0_1 l0_1 A0_2 c0_2 l0_2 A0_3 c0_3 l0_3 w hr0_1 hc0_1 hr0_2 hc0_2 hr0_3 hc0_3 hl hz _ rfl
      · cases (innerV_true hl).1
        exact enc_inner A0_1 c0_1 l0_1 A0_2 c0_2 l0_2 A0_3 c0_3 l0_3 w hr0_1 hc0_1 hr0_2 hc0_2 hr0_3 hc0_3 hl hz _ rfl
    · rw [if_neg hz] at h
      cases h
      exact enc_big a0_0 A0_1 c0_1 l0_1 A0_2 c0_2 l0_2 A0_3 c0_3 l0_3 w hr0_1 hc0_1 hr0_2 hc0_2 hr0_3 hc0_3 hf (by omega)
  · rw [if_neg hf] at h
    cases h
    exact enc_bad a0_0 A0_1 c0_1 l0_1 A0_2 c0_2 l0_2 A0_3 c0_3 l0_3 w hr0_1 hc0_1 hr0_2 hc0_2 hr0_3 hc0_3 (by simpa using hf)



end Go.Proofs.Ytjjfeoigjhbbpaa.PA
