import Derived.Test.YtenjcgkabmlpkaaDoorLj
import Derived.ArgAppend
namespace Go.Proofs.YtenjcgkabmlpkaaDoor.PA
open Go.RowKit Go.Proofs.YtenjcgkabmlpkaaDoorW.PrintWords Go.Proofs.YtenjcgkabmlpkaaDoorW.PrintLast Go.Proofs.YtenjcgkabmlpkaaDoorW.PrintMore
set_option linter.unusedVariables false
set_option linter.unusedSimpArgs false
/-! ### A row made with spare room, and written into it -/
theorem makeIn (n : Nat) (hn : n ≤ 8796093021952) (W : World) : (Instr.makeSlice 23 (.int .i64 0) (.int .i64 ((n : Int) + 2))).run Tryd.prog W = .ok (.slice (some ⟨W.heap.size, 0, none⟩) 0 (n + 2)) (W.alloc (.cells (madeCells #[.string ⟨#[]⟩] (n + 2)) 9)) := by
  obtain ⟨i, hi, hzz⟩ := Option.map_eq_some_iff.1 info9
  simp only [Prod.mk.injEq] at hzz
  obtain ⟨hz, hs, hb⟩ := hzz
  have h := run_make (P := Tryd.prog) W 23 9 i (.string ⟨#[]⟩) Tryd.underlying23 hi hz .i64 .i64 0 ((n : Int) + 2) (by omega) (by omega) (by rw [hb]; omega) (by omega)
  have e : ((n : Int) + 2).toNat = n + 2 := by omega
  rw [e, hs, Nat.mul_one] at h
  exact h
theorem made_cell (W : World) (m j : Nat) (h : j < m) : (W.alloc (.cells (madeCells #[.string ⟨#[]⟩] m) 9)).cell? ⟨W.heap.size, j, none⟩ = some (.string ⟨#[]⟩) ∧ (W.alloc (.cells (madeCells #[.string ⟨#[]⟩] m) 9)).frozen? ⟨W.heap.size, j, none⟩ = false := by
  have hb := heap_alloc_new W (.cells (madeCells #[.string ⟨#[]⟩] m) 9)
  refine ⟨?_, blk_frozen hb j⟩
  rw [blk_cell hb]
  simp [madeCells, h, Nat.mod_one]
theorem below_setCells {B g : Nat} {w0 : World} (hg : B ≤ g) : ∀ (vs : List Value) (o : Nat) (w : World), Below B w0 w → Below B w0 (w.setCells g o vs)
  | [], _, _, h => h
  | v :: r, o, w, h => by
    rw [World.setCells]
    exact below_setCells hg r (o + 1) _ (h.setCell hg _)
theorem size_setCells' (g : Nat) : ∀ (vs : List Value) (o : Nat) (w : World), (w.setCells g o vs).heap.size = w.heap.size
  | [], _, _ => rfl
  | v :: r, o, w => by
    rw [World.setCells, size_setCells' g r (o + 1)]
    simp [World.setCell]
theorem appendIn (W : World) (A1 : Option Addr) (c1 : Nat) (l1 : List ByteArray) (hr : Kd.C Kd.string W A1 l1.length l1) (hn : l1.length ≤ 8796093021952) :
    ∃ W2, (Builtin.append_ #[23, 23] 23 #[.slice (some ⟨W.heap.size, 0, none⟩) 0 (l1.length + 2), .slice A1 l1.length c1]).run Tryd.prog (W.alloc (.cells (madeCells #[.string ⟨#[]⟩] (l1.length + 2)) 9)) = .ok (.slice (some ⟨W.heap.size, 0, none⟩) l1.length (l1.length + 2)) W2 ∧
      Kd.C Kd.string W2 (some ⟨W.heap.size, 0, none⟩) l1.length l1 ∧ W2.cell? ⟨W.heap.size, l1.length, none⟩ = some (.string ⟨#[]⟩) ∧ W2.cell? ⟨W.heap.size, l1.length + 1, none⟩ = some (.string ⟨#[]⟩) ∧ Below W.heap.size W W2 ∧ W.heap.size < W2.heap.size := by
  obtain ⟨i, hi, hzz⟩ := Option.map_eq_some_iff.1 info9
  simp only [Prod.mk.injEq] at hzz
  obtain ⟨hz, hs, hb⟩ := hzz
  have hmc := made_cell W (l1.length + 2)
  match l1, hr, hn, hmc with
  | [], hr, hn, hmc =>
    refine ⟨W.alloc (.cells (madeCells #[.string ⟨#[]⟩] 2) 9), ?_, ⟨rfl, by simp, fun h => absurd h (by simp)⟩, (hmc 0 (by simp)).1, (hmc 1 (by simp)).1, below_alloc (Below.refl _ _) _, by simp⟩
    cases A1 with
    | none => simp [Builtin.append_, run_underlying Tryd.underlying23, sizeOf, typeInfo, hi, Builtin.lenOf, Builtin.firstCells, storeCells, Result.andThen]
    | some a =>
      have h := run_append_room_cells (P := Tryd.prog) (W.alloc (.cells (madeCells #[.string ⟨#[]⟩] 2) 9)) 23 23 9 i Tryd.underlying23 hi W.heap.size 0 0 2 a 0 c1 [] (by simp) (by simp) (by simp) (by omega) (by simp) (by simp)
      simpa [World.setCells] using h
  | x :: t, hr, hn, hmc =>
    obtain ⟨ad, rfl, _⟩ := Kd.at_string hr 0 (by omega) (by simp)
    have h := run_append_room_cells (P := Tryd.prog) (W.alloc (.cells (madeCells #[.string ⟨#[]⟩] ((x :: t).length + 2)) 9)) 23 23 9 i Tryd.underlying23 hi W.heap.size 0 0 ((x :: t).length + 2) ad (x :: t).length c1 ((x :: t).map Value.string) (by rw [hs]; simp) ?_ ?_ (by omega) ?_ ?_
    · rw [Nat.zero_add, Nat.zero_mul, Nat.add_zero] at h
      have hin := World.cell?_setCells_in W.heap.size ((x :: t).map Value.string) 0 (W.alloc (.cells (madeCells #[.string ⟨#[]⟩] ((x :: t).length + 2)) 9)) (fun j hj => by rw [List.length_map] at hj; rw [Nat.zero_add, (hmc j (by omega)).1]; rfl)
      refine ⟨_, h, ?_, ?_, ?_, ?_, ?_⟩
      · refine Kd.C_of_reads (enc := Value.string) (h1 := fun _ => rfl) (d := ByteArray.empty) ⟨rfl, by omega, fun _ => ⟨_, rfl, fun j hj => ?_⟩⟩
        have := hin j (by simpa using hj)
        rw [Nat.zero_add] at this
        rw [add_plain, this, List.getElem_map]
        congr 2
        exact (rdOf_get (x :: t) j hj).symm
      · rw [World.cell?_setCells_out _ _ _ _ _ (fun _ _ => .inr (by simp)), (hmc _ (by omega)).1]
      · rw [World.cell?_setCells_out _ _ _ _ _ (fun _ _ => .inr (by simp)), (hmc _ (by omega)).1]
      · exact below_setCells (Nat.le_refl _) _ _ _ (below_alloc (Below.refl _ _) _)
      · rw [size_setCells']
        simp
    · intro j u hj
      have hC := Kd.C_below hr (below_alloc (Below.refl W.heap.size W) (.cells (madeCells #[.string ⟨#[]⟩] ((x :: t).length + 2)) 9))
      obtain ⟨hjl, hje⟩ := List.getElem?_eq_some_iff.1 hj
      have hjl' : j < (x :: t).length := by simpa using hjl
      obtain ⟨ad2, e2, hx2⟩ := Kd.at_string hC (j : Int) (by omega) (by omega)
      cases e2
      rw [Int.toNat_natCast, rdOf_get (x :: t) j hjl'] at hx2
      rw [hx2, ← hje, List.getElem_map]
    · intro u hu
      obtain ⟨y, _, rfl⟩ := List.mem_map.1 hu
      rfl
    · intro j hj
      rw [List.length_map] at hj
      rw [Nat.zero_mul, Nat.add_zero, Nat.zero_add, (hmc j (by omega)).1]
      rfl
    · intro j hj
      rw [List.length_map] at hj
      rw [Nat.zero_mul, Nat.add_zero, Nat.zero_add]
      exact (hmc j (by omega)).2
theorem wpList_append_ran {P : Program} {ops : Array Oper} {rest : List Oper} {o : Oper} {a : Act} {Q : Exit → Act → World → Prop} {w w' : World} (hg : o.guard = none) (s x : Operand) (t : TypeId)
    (hop : o.op = Op.call { callee := Callee.builtin Builtin.append, args := #[s, x], argTypes := #[t, t] }) (v1 v2 v : Value) (hs : a.eval s = v1) (hx : a.eval x = v2)
    (hrun : (Builtin.append_ #[t, t] o.type #[v1, v2]).run P w = .ok v w') (h : wpList P ops Q rest (a.put o.dst v) w') : wpList P ops Q (o :: rest) a w := by
  refine wpList_plain hg fun K hK => ?_
  unfold Oper.wp execOp
  simp only [hop, resolve, invoke, builtin, Sem.run_bind, Sem.run_pure, Result.andThen_ok, List.map_toArray, List.map_cons, List.map_nil, hs, hx, hrun]
  exact hK _ _ h
end Go.Proofs.YtenjcgkabmlpkaaDoor.PA
